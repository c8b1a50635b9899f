/- What this text proves: the machine calls of these functions return what the plain functions say. Conditions: as each theorem says. Printed by a program of this session out of the translation. -/
import Derived.Test.YtjpaoeeeiklfnaaPSYx0
import Derived.Test.YtjpaoeeeiklfnaaPSYx4
import Derived.Test.YtjpaoeeeiklfnaaPSYx5
namespace Go.Proofs.Ytjpaoeeeiklfnaa.PSY
open Go.RowKit Go.Proofs.YtjpaoeeeiklfnaaW.PrintWords Go.Proofs.YtjpaoeeeiklfnaaW.PrintLast Go.Proofs.YtjpaoeeeiklfnaaW.PrintMore
attribute [local go_sem] max2_int min2_int max_two min_two max_three min_three max_four min_four   -- for this text's walks alone
set_option linter.unusedVariables false
set_option linter.unusedSimpArgs false

/-! ### spec_GoodSynod: function 21 -/
mutual
def spec_GoodSynod.j0 : Nat → Int → Bool → List (S70) → List (S54) → Option (Bool)
 | 0, _, _, _, _ => none
 | k + 1, x3, x25, x204000, x204001 => if x25 = true then (some false) else (spec_GoodSynod.l0 k x3 x204000 (x204000.length : Int) 0 x204000 x204001)
def spec_GoodSynod.l0 : Nat → Int → List (S70) → Int → Int → List (S70) → List (S54) → Option (Bool)
 | 0, _, _, _, _, _, _ => none
 | k + 1, x3, x27, x28, x29, x204000, x204001 => if x29 < x28 then (if 0 ≤ x29 then (if x29 < (x27.length : Int) then ((spec_l1In.f ((rd_T70 x27 x29).f0) 0 (x204001.length : Int)).bind fun t208 => (if t208 = true then ((spec_l10Old.f k ((rd_T70 x27 x29).f1) ((rd_T70 x27 x29).f0) ((rd_T70 x27 x29).f2)).bind fun t209 => (if t209 = true then (spec_GoodSynod.l0 k x3 x27 x28 (wrap64 (x29 + 1)) x204000 x204001) else (some false))) else (some false))) else (none)) else (none)) else (spec_GoodSynod.l1 k x3 x204001 (x204001.length : Int) 0)
def spec_GoodSynod.l1 : Nat → Int → List (S54) → Int → Int → Option (Bool)
 | 0, _, _, _, _ => none
 | k + 1, x3, x52, x53, x54 => if x54 < x53 then (if 0 ≤ x54 then (if x54 < (x52.length : Int) then (spec_GoodSynod.l2 k x3 x54 x52 x53 x54 ((rd_T54 x52 x54).f1) (((rd_T54 x52 x54).f1).length : Int) 0 ((rd_T54 x52 x54).f0) ((rd_T54 x52 x54).f1) ((rd_T54 x52 x54).f2) ((rd_T54 x52 x54).f3) ((rd_T54 x52 x54).f4)) else (none)) else (none)) else (some true)
def spec_GoodSynod.l2 : Nat → Int → Int → List (S54) → Int → Int → List (S73) → Int → Int → ByteArray → List (S73) → Bool → ByteArray → List Int → Option (Bool)
 | 0, _, _, _, _, _, _, _, _, _, _, _, _, _ => none
 | k + 1, x3, x6, x52, x53, x54, x60, x61, x62, x212000, x212001, x212002, x212003, x212004 => if x62 < x61 then (if 0 ≤ x62 then (if x62 < (x60.length : Int) then ((spec_l1In.f ((rd_T73 x60 x62).f0) 0 (wrap64 (x3 - 1))).bind fun t214 => (if t214 = true then (if x62 > 0 then (if 0 ≤ (wrap64 (x62 - 1)) then (if (wrap64 (x62 - 1)) < (x212001.length : Int) then (if ((rd_T73 x212001 (wrap64 (x62 - 1))).f0) ≥ ((rd_T73 x60 x62).f0) then (some false) else ((spec_l10Old.f k ((rd_T73 x60 x62).f1) x6 ((rd_T73 x60 x62).f2)).bind fun t216 => (if t216 = true then (spec_GoodSynod.l2 k x3 x6 x52 x53 x54 x60 x61 (wrap64 (x62 + 1)) x212000 x212001 x212002 x212003 x212004) else (some false)))) else (none)) else (none)) else ((spec_l10Old.f k ((rd_T73 x60 x62).f1) x6 ((rd_T73 x60 x62).f2)).bind fun t217 => (if t217 = true then (spec_GoodSynod.l2 k x3 x6 x52 x53 x54 x60 x61 (wrap64 (x62 + 1)) x212000 x212001 x212002 x212003 x212004) else (some false)))) else (some false))) else (none)) else (none)) else (spec_GoodSynod.l3 k x3 x52 x53 x54 x212004 (x212004.length : Int) 0 x212000 x212001 x212002 x212003 x212004)
def spec_GoodSynod.l3 : Nat → Int → List (S54) → Int → Int → List Int → Int → Int → ByteArray → List (S73) → Bool → ByteArray → List Int → Option (Bool)
 | 0, _, _, _, _, _, _, _, _, _, _, _, _ => none
 | k + 1, x3, x52, x53, x54, x100, x101, x102, x212000, x212001, x212002, x212003, x212004 => if x102 < x101 then (if 0 ≤ x102 then (if x102 < (x100.length : Int) then ((spec_l1In.f (rd x100 x102) 0 (wrap64 (x3 - 1))).bind fun t219 => (if t219 = true then (if x102 > 0 then (if 0 ≤ (wrap64 (x102 - 1)) then (if (wrap64 (x102 - 1)) < (x212004.length : Int) then (if (rd x212004 (wrap64 (x102 - 1))) ≥ (rd x100 x102) then (some false) else (spec_GoodSynod.l3 k x3 x52 x53 x54 x100 x101 (wrap64 (x102 + 1)) x212000 x212001 x212002 x212003 x212004)) else (none)) else (none)) else (spec_GoodSynod.l3 k x3 x52 x53 x54 x100 x101 (wrap64 (x102 + 1)) x212000 x212001 x212002 x212003 x212004)) else (some false))) else (none)) else (none)) else ((spec_l1Value.f k x212000).bind fun t221 => (if t221 = true then (if (x212002 != (decide ((wrap64 (2 * (x212001.length : Int))) > x3))) = true then (some false) else (if (wrap64 (2 * (x212001.length : Int))) > x3 then ((spec_l10Value.f k x212000 x212001 x212002 x212003 x212004).bind fun t222 => (if x212003.toList = t222.toList then (if ((wrap64 (2 * (x212001.length : Int))) > x3) then (spec_GoodSynod.l1 k x3 x52 x53 (wrap64 (x54 + 1))) else (if x212003.toList = ([] : List UInt8) then (if (x212004.length : Int) > 0 then (some false) else (spec_GoodSynod.l1 k x3 x52 x53 (wrap64 (x54 + 1)))) else (some false))) else (some false))) else (if ((wrap64 (2 * (x212001.length : Int))) > x3) then (spec_GoodSynod.l1 k x3 x52 x53 (wrap64 (x54 + 1))) else (if x212003.toList = ([] : List UInt8) then (if (x212004.length : Int) > 0 then (some false) else (spec_GoodSynod.l1 k x3 x52 x53 (wrap64 (x54 + 1)))) else (some false))))) else (some false)))
end
def spec_GoodSynod.f (k : Nat) (l0_0 : List (S70)) (l0_1 : List (S54)) : Option (Bool) := (spec_l8Nodes.f (l0_0.length : Int)).bind fun t204 => (if t204 = true then ((spec_l1In.f (l0_1.length : Int) 1 8).bind fun t205 => (spec_GoodSynod.j0 k (l0_0.length : Int) (!t205) l0_0 l0_1)) else (spec_GoodSynod.j0 k (l0_0.length : Int) true l0_0 l0_1))
theorem spec_GoodSynod.mono_l : ∀ k, (∀ y0 y1 y2 y3, LeO (spec_GoodSynod.j0 k y0 y1 y2 y3) (spec_GoodSynod.j0 (k + 1) y0 y1 y2 y3)) ∧ (∀ y0 y1 y2 y3 y4 y5, LeO (spec_GoodSynod.l0 k y0 y1 y2 y3 y4 y5) (spec_GoodSynod.l0 (k + 1) y0 y1 y2 y3 y4 y5)) ∧ (∀ y0 y1 y2 y3, LeO (spec_GoodSynod.l1 k y0 y1 y2 y3) (spec_GoodSynod.l1 (k + 1) y0 y1 y2 y3)) ∧ (∀ y0 y1 y2 y3 y4 y5 y6 y7 y8 y9 y10 y11 y12, LeO (spec_GoodSynod.l2 k y0 y1 y2 y3 y4 y5 y6 y7 y8 y9 y10 y11 y12) (spec_GoodSynod.l2 (k + 1) y0 y1 y2 y3 y4 y5 y6 y7 y8 y9 y10 y11 y12)) ∧ (∀ y0 y1 y2 y3 y4 y5 y6 y7 y8 y9 y10 y11, LeO (spec_GoodSynod.l3 k y0 y1 y2 y3 y4 y5 y6 y7 y8 y9 y10 y11) (spec_GoodSynod.l3 (k + 1) y0 y1 y2 y3 y4 y5 y6 y7 y8 y9 y10 y11))
 | 0 => ⟨fun _ _ _ _ r h => by simp [spec_GoodSynod.j0] at h, fun _ _ _ _ _ _ r h => by simp [spec_GoodSynod.l0] at h, fun _ _ _ _ r h => by simp [spec_GoodSynod.l1] at h, fun _ _ _ _ _ _ _ _ _ _ _ _ _ r h => by simp [spec_GoodSynod.l2] at h, fun _ _ _ _ _ _ _ _ _ _ _ _ r h => by simp [spec_GoodSynod.l3] at h⟩
 | k + 1 => by
  obtain ⟨ih0, ih1, ih2, ih3, ih4⟩ := spec_GoodSynod.mono_l k
  refine ⟨?_, ?_, ?_, ?_, ?_⟩
  ·as_aux_lemma =>
   intro y0 y1 y2 y3
   unfold spec_GoodSynod.j0
   repeat' first
   | (with_reducible exact ih0 _ _ _ _)
   | (with_reducible exact ih1 _ _ _ _ _ _)
   | (with_reducible exact ih2 _ _ _ _)
   | (with_reducible exact ih3 _ _ _ _ _ _ _ _ _ _ _ _ _)
   | (with_reducible exact ih4 _ _ _ _ _ _ _ _ _ _ _ _)
   | (with_reducible exact spec_l10Old.mono _ _ _ _)
   | (with_reducible exact spec_l10Value.mono _ _ _ _ _ _)
   | (with_reducible exact spec_l1Value.mono _ _)
   | (with_reducible exact LeO.refl _)
   | (with_reducible exact LeO.none _)
   | (with_reducible refine LeO.ite ?_ ?_)
   | (with_reducible refine LeO.bind ?_ (fun _ => ?_))
   | exact ih0 _ _ _ _
   | exact ih1 _ _ _ _ _ _
   | exact ih2 _ _ _ _
   | exact ih3 _ _ _ _ _ _ _ _ _ _ _ _ _
   | exact ih4 _ _ _ _ _ _ _ _ _ _ _ _
   | exact spec_l10Old.mono _ _ _ _
   | exact spec_l10Value.mono _ _ _ _ _ _
   | exact spec_l1Value.mono _ _
   | exact LeO.none _
   | refine LeO.ite ?_ ?_
   | refine LeO.bind ?_ (fun _ => ?_)
  ·as_aux_lemma =>
   intro y0 y1 y2 y3 y4 y5
   unfold spec_GoodSynod.l0
   repeat' first
   | (with_reducible exact ih0 _ _ _ _)
   | (with_reducible exact ih1 _ _ _ _ _ _)
   | (with_reducible exact ih2 _ _ _ _)
   | (with_reducible exact ih3 _ _ _ _ _ _ _ _ _ _ _ _ _)
   | (with_reducible exact ih4 _ _ _ _ _ _ _ _ _ _ _ _)
   | (with_reducible exact spec_l10Old.mono _ _ _ _)
   | (with_reducible exact spec_l10Value.mono _ _ _ _ _ _)
   | (with_reducible exact spec_l1Value.mono _ _)
   | (with_reducible exact LeO.refl _)
   | (with_reducible exact LeO.none _)
   | (with_reducible refine LeO.ite ?_ ?_)
   | (with_reducible refine LeO.bind ?_ (fun _ => ?_))
   | exact ih0 _ _ _ _
   | exact ih1 _ _ _ _ _ _
   | exact ih2 _ _ _ _
   | exact ih3 _ _ _ _ _ _ _ _ _ _ _ _ _
   | exact ih4 _ _ _ _ _ _ _ _ _ _ _ _
   | exact spec_l10Old.mono _ _ _ _
   | exact spec_l10Value.mono _ _ _ _ _ _
   | exact spec_l1Value.mono _ _
   | exact LeO.none _
   | refine LeO.ite ?_ ?_
   | refine LeO.bind ?_ (fun _ => ?_)
  ·as_aux_lemma =>
   intro y0 y1 y2 y3
   unfold spec_GoodSynod.l1
   repeat' first
   | (with_reducible exact ih0 _ _ _ _)
   | (with_reducible exact ih1 _ _ _ _ _ _)
   | (with_reducible exact ih2 _ _ _ _)
   | (with_reducible exact ih3 _ _ _ _ _ _ _ _ _ _ _ _ _)
   | (with_reducible exact ih4 _ _ _ _ _ _ _ _ _ _ _ _)
   | (with_reducible exact spec_l10Old.mono _ _ _ _)
   | (with_reducible exact spec_l10Value.mono _ _ _ _ _ _)
   | (with_reducible exact spec_l1Value.mono _ _)
   | (with_reducible exact LeO.refl _)
   | (with_reducible exact LeO.none _)
   | (with_reducible refine LeO.ite ?_ ?_)
   | (with_reducible refine LeO.bind ?_ (fun _ => ?_))
   | exact ih0 _ _ _ _
   | exact ih1 _ _ _ _ _ _
   | exact ih2 _ _ _ _
   | exact ih3 _ _ _ _ _ _ _ _ _ _ _ _ _
   | exact ih4 _ _ _ _ _ _ _ _ _ _ _ _
   | exact spec_l10Old.mono _ _ _ _
   | exact spec_l10Value.mono _ _ _ _ _ _
   | exact spec_l1Value.mono _ _
   | exact LeO.none _
   | refine LeO.ite ?_ ?_
   | refine LeO.bind ?_ (fun _ => ?_)
  ·as_aux_lemma =>
   intro y0 y1 y2 y3 y4 y5 y6 y7 y8 y9 y10 y11 y12
   unfold spec_GoodSynod.l2
   repeat' first
   | (with_reducible exact ih0 _ _ _ _)
   | (with_reducible exact ih1 _ _ _ _ _ _)
   | (with_reducible exact ih2 _ _ _ _)
   | (with_reducible exact ih3 _ _ _ _ _ _ _ _ _ _ _ _ _)
   | (with_reducible exact ih4 _ _ _ _ _ _ _ _ _ _ _ _)
   | (with_reducible exact spec_l10Old.mono _ _ _ _)
   | (with_reducible exact spec_l10Value.mono _ _ _ _ _ _)
   | (with_reducible exact spec_l1Value.mono _ _)
   | (with_reducible exact LeO.refl _)
   | (with_reducible exact LeO.none _)
   | (with_reducible refine LeO.ite ?_ ?_)
   | (with_reducible refine LeO.bind ?_ (fun _ => ?_))
   | exact ih0 _ _ _ _
   | exact ih1 _ _ _ _ _ _
   | exact ih2 _ _ _ _
   | exact ih3 _ _ _ _ _ _ _ _ _ _ _ _ _
   | exact ih4 _ _ _ _ _ _ _ _ _ _ _ _
   | exact spec_l10Old.mono _ _ _ _
   | exact spec_l10Value.mono _ _ _ _ _ _
   | exact spec_l1Value.mono _ _
   | exact LeO.none _
   | refine LeO.ite ?_ ?_
   | refine LeO.bind ?_ (fun _ => ?_)
  ·as_aux_lemma =>
   intro y0 y1 y2 y3 y4 y5 y6 y7 y8 y9 y10 y11
   unfold spec_GoodSynod.l3
   repeat' first
   | (with_reducible exact ih0 _ _ _ _)
   | (with_reducible exact ih1 _ _ _ _ _ _)
   | (with_reducible exact ih2 _ _ _ _)
   | (with_reducible exact ih3 _ _ _ _ _ _ _ _ _ _ _ _ _)
   | (with_reducible exact ih4 _ _ _ _ _ _ _ _ _ _ _ _)
   | (with_reducible exact spec_l10Old.mono _ _ _ _)
   | (with_reducible exact spec_l10Value.mono _ _ _ _ _ _)
   | (with_reducible exact spec_l1Value.mono _ _)
   | (with_reducible exact LeO.refl _)
   | (with_reducible exact LeO.none _)
   | (with_reducible refine LeO.ite ?_ ?_)
   | (with_reducible refine LeO.bind ?_ (fun _ => ?_))
   | exact ih0 _ _ _ _
   | exact ih1 _ _ _ _ _ _
   | exact ih2 _ _ _ _
   | exact ih3 _ _ _ _ _ _ _ _ _ _ _ _ _
   | exact ih4 _ _ _ _ _ _ _ _ _ _ _ _
   | exact spec_l10Old.mono _ _ _ _
   | exact spec_l10Value.mono _ _ _ _ _ _
   | exact spec_l1Value.mono _ _
   | exact LeO.none _
   | refine LeO.ite ?_ ?_
   | refine LeO.bind ?_ (fun _ => ?_)
theorem spec_GoodSynod.mono : ∀ a0 a1 k, LeO (spec_GoodSynod.f k a0 a1) (spec_GoodSynod.f (k + 1) a0 a1) := by
 intro a0 a1 k
 obtain ⟨ih0, ih1, ih2, ih3, ih4⟩ := spec_GoodSynod.mono_l k
 unfold spec_GoodSynod.f
 repeat' first
   | (with_reducible exact ih0 _ _ _ _)
   | (with_reducible exact ih1 _ _ _ _ _ _)
   | (with_reducible exact ih2 _ _ _ _)
   | (with_reducible exact ih3 _ _ _ _ _ _ _ _ _ _ _ _ _)
   | (with_reducible exact ih4 _ _ _ _ _ _ _ _ _ _ _ _)
   | (with_reducible exact spec_l10Old.mono _ _ _ _)
   | (with_reducible exact spec_l10Value.mono _ _ _ _ _ _)
   | (with_reducible exact spec_l1Value.mono _ _)
   | (with_reducible exact LeO.refl _)
   | (with_reducible exact LeO.none _)
   | (with_reducible refine LeO.ite ?_ ?_)
   | (with_reducible refine LeO.bind ?_ (fun _ => ?_))
   | exact ih0 _ _ _ _
   | exact ih1 _ _ _ _ _ _
   | exact ih2 _ _ _ _
   | exact ih3 _ _ _ _ _ _ _ _ _ _ _ _ _
   | exact ih4 _ _ _ _ _ _ _ _ _ _ _ _
   | exact spec_l10Old.mono _ _ _ _
   | exact spec_l10Value.mono _ _ _ _ _ _
   | exact spec_l1Value.mono _ _
   | exact LeO.none _
   | refine LeO.ite ?_ ?_
   | refine LeO.bind ?_ (fun _ => ?_)
def spec_GoodSynod.T16 : Bool × List (List Nat × List Nat) := (true, [([], []), ([0], [0]), ([], []), ([2], [2]), ([1, 3], [1, 3]), ([4], [4]), ([5, 4], [5]), ([6], [6]), ([7, 6], [6, 7]), ([8, 6, 6], [6, 8]), ([9], [9]), ([10, 9], [9, 10]), ([9], [9]), ([12, 9], [9, 12]), ([11, 13, 9], [9, 11, 13]), ([14, 9], [9, 14]), ([15, 9], [9, 15]), ([9], [9]), ([17, 9], [9, 17]), ([16, 18, 9], [9, 16, 18]), ([9, 19, 6], [6, 9, 19]), ([6, 20], [6, 20]), ([21, 9], [21]), ([22], [22]), ([23, 22], [22, 23]), ([22], [22]), ([22], [22]), ([26, 22], [22, 26]), ([24, 25, 27, 22, 22], [22, 24, 25, 27]), ([28, 22], [22, 28]), ([22, 29], [22, 29])])
def spec_GoodSynod.B16 : List Nat := [0, 1, 0, 4, 15, 31, 63, 127, 255, 511, 1023, 2047, 1023, 5119, 16383, 32767, 65535, 1023, 132095, 524287, 1048575, 2097151, 4194303, 8388607, 16777215, 8388607, 8388607, 75497471, 268435455, 536870911, 1073741823]
theorem spec_GoodSynod.tab16 : rtab .any (opsOf Try.f21 16) = spec_GoodSynod.T16 := by kernel_rfl
theorem spec_GoodSynod.bits16 : waitsOk spec_GoodSynod.T16.2 spec_GoodSynod.B16 = true := by kernel_rfl
def spec_GoodSynod.T26 : Bool × List (List Nat × List Nat) := (true, [([], []), ([0], [0]), ([1], [1]), ([2], [2]), ([3, 2], [3]), ([4], [4]), ([5, 4], [4, 5]), ([4], [4]), ([6, 7, 4], [4, 6, 7]), ([4, 8], [4, 8]), ([9, 4], [9]), ([10], [10]), ([11, 10, 10], [10, 11]), ([12], [12]), ([13, 12], [12, 13]), ([12], [12]), ([15, 12, 12], [12, 15]), ([14, 16, 12], [12, 14, 16]), ([12, 17, 10], [10, 12, 17]), ([10, 18], [10, 18]), ([19, 16], [19]), ([20], [20]), ([21, 20], [20, 21]), ([22, 20, 20], [20, 22]), ([23], [23]), ([24, 23], [23, 24]), ([25, 23], [23, 25]), ([26, 23, 23], [23, 26]), ([27], [27]), ([28, 27], [27, 28]), ([29, 27], [27, 29]), ([30, 27], [27, 30]), ([27, 31, 23], [23, 27, 31]), ([23, 32, 20], [20, 23, 32]), ([20, 33], [20, 33])])
def spec_GoodSynod.B26 : List Nat := [0, 1, 3, 7, 15, 31, 63, 31, 255, 511, 1023, 2047, 4095, 8191, 16383, 8191, 40959, 131071, 262143, 524287, 1048575, 2097151, 4194303, 8388607, 16777215, 33554431, 67108863, 134217727, 268435455, 536870911, 1073741823, 2147483647, 4294967295, 8589934591, 17179869183]
theorem spec_GoodSynod.tab26 : rtab .any (opsOf Try.f21 26) = spec_GoodSynod.T26 := by kernel_rfl
theorem spec_GoodSynod.bits26 : waitsOk spec_GoodSynod.T26.2 spec_GoodSynod.B26 = true := by kernel_rfl
set_option maxHeartbeats 8000000 in
set_option maxRecDepth 100000 in
theorem spec_GoodSynod.calls (k : Nat) (A0_0 : Option Addr) (c0_0 : Nat) (l0_0 : List (S70)) (A0_1 : Option Addr) (c0_1 : Nat) (l0_1 : List (S54)) (r : Bool) (w : World) (hr0_0 : Kd.C k70 w A0_0 l0_0.length l0_0) (hc0_0 : l0_0.length ≤ c0_0) (hr0_1 : Kd.C k54 w A0_1 l0_1.length l0_1) (hc0_1 : l0_1.length ≤ c0_1) (h : spec_GoodSynod.f k l0_0 l0_1 = some r) :
  Calls Try.prog 21 #[.agg #[.slice A0_0 l0_0.length c0_0, .slice A0_1 l0_1.length c0_1]] w fun e w' => e = .returned (.bool r) ∧ Below w.heap.size w w' := by
 have hu33 := Try.underlying33
 have hu70 := Try.underlying70
 have hu54 := Try.underlying54
 have hu73 := Try.underlying73
 have HR0_0 := Aside0.mk hr0_0
 have HC0_0 := Aside0.mk hc0_0
 clear hr0_0 hc0_0
 have HR0_1 := Aside0.mk hr0_1
 have HC0_1 := Aside0.mk hc0_1
 clear hr0_1 hc0_1
 have HB := Aside0.mk (Below.refl w.heap.size w)
 have H : ((spec_l8Nodes.f (l0_0.length : Int)).bind fun t204 => (if t204 = true then ((spec_l1In.f (l0_1.length : Int) 1 8).bind fun t205 => (spec_GoodSynod.j0 k (l0_0.length : Int) (!t205) l0_0 l0_1)) else (spec_GoodSynod.j0 k (l0_0.length : Int) true l0_0 l0_1))) = some r := h
 clear h
 have HC2 := Aside0.mk H
 clear H
 go_enter Try.func21, Try.ntmps21
 go_upto_region 2 with (first | ((with_reducible refine gate_dst (N := 1) rfl ?_); (try (refine gate_guard (by rfl) ?_; dsimp only)); refine box_event rfl (N := 1) rfl (cs := #[.slice A0_0 l0_0.length c0_0, .slice A0_1 l0_1.length c0_1]) (t := 33) gs_ ?_; intro gb203 hg w3 hbox hb; have BK203 := Aside0.mk (hbox); have GW203 := Aside0.mk ((by rw [hg]; exact bz_ : w.heap.size ≤ gb203)); have GE203 := GW203; replace HB := Aside0.mk (below_step bl_ hb); clear hb hbox hg; have hcz4_0 : w3.cell? ⟨gb203, 0, none⟩ = some (.slice A0_0 l0_0.length c0_0) := bc_ BK203.out 0; have hcz4_1 : w3.cell? ⟨gb203, 1, none⟩ = some (.slice A0_1 l0_1.length c0_1) := bc_ BK203.out 1; have hfz4_0 := blk_frozen BK203.out 0; have hfz4_1 := blk_frozen BK203.out 1))
 (try simp only [Act.put, List.setIfInBounds_toArray, List.set_cons_zero, List.set_cons_succ])
 go_cut [25] (fun v25 wc => ∃ (kq : Nat) (x25_1 : Bool), v25 = .bool x25_1 ∧ Aside0 (spec_GoodSynod.j0 kq (l0_0.length : Int) x25_1 l0_0 l0_1 = some r) ∧ Aside0 (kq ≤ k) ∧ Aside0 (wc.heap[gb203]? = some (.cells #[(.slice A0_0 l0_0.length c0_0), (.slice A0_1 l0_1.length c0_1)] 33 (0, 0))) ∧ Aside0 (Below w.heap.size w wc))
 case first =>
  have H := HC2.out
  clear HC2
  replace H := Option.bind_eq_some_iff.mp H
  obtain ⟨t204, A50, H⟩ := H
  replace H : (if t204 = true then ((spec_l1In.f (l0_1.length : Int) 1 8).bind fun t205 => (spec_GoodSynod.j0 k (l0_0.length : Int) (!t205) l0_0 l0_1)) else (spec_GoodSynod.j0 k (l0_0.length : Int) true l0_0 l0_1)) = some r := H
  have A5 := Aside0.mk A50
  clear A50
  by_cases c6 : t204 = true
  rotate_left
  ·replace c6 := Bool.eq_false_iff.mpr c6
   subst c6
   have H1 : (spec_GoodSynod.j0 k (l0_0.length : Int) true l0_0 l0_1) = some r := by rw [if_neg (show ¬ (false = true) by decide)] at H; exact H
   clear H
   have H := H1
   clear H1
   have H' := Aside0.mk H
   clear H
   go_wp2_with (first | ((with_reducible refine gate_callee (f := 38) rfl ?_); refine goesL_ (some 17) rfl rfl Try.func38 (by kernel_rfl) rfl #[.int .i64 (l0_0.length : Int)] rfl nc_ ?_; (with_reducible refine (spec_l8Nodes.calls (l0_0.length : Int) false _ A5.out).mono ?_); rintro e w' ⟨rfl, ⟨nd, rfl⟩⟩; refine ⟨_, rfl, ?_⟩))
   go_meet
   case rel => exact ⟨_, (true), (by first | rfl | (simp; done) | (simp [*]; done)), H', ⟨by first | omega | exact Nat.le_refl _⟩, ⟨by exact kb_ BK203.out⟩, ⟨bl_⟩⟩
  subst c6
  have H1 : ((spec_l1In.f (l0_1.length : Int) 1 8).bind fun t205 => (spec_GoodSynod.j0 k (l0_0.length : Int) (!t205) l0_0 l0_1)) = some r := by rw [if_pos rfl] at H; exact H
  clear H
  have H := H1
  clear H1
  replace H := Option.bind_eq_some_iff.mp H
  obtain ⟨t205, A70, H⟩ := H
  replace H : (spec_GoodSynod.j0 k (l0_0.length : Int) (!t205) l0_0 l0_1) = some r := H
  have A7 := Aside0.mk A70
  clear A70
  have H' := Aside0.mk H
  clear H
  go_wp2_with (first | ((with_reducible refine gate_callee (f := 38) rfl ?_); refine goesL_ (some 17) rfl rfl Try.func38 (by kernel_rfl) rfl #[.int .i64 (l0_0.length : Int)] rfl nc_ ?_; (with_reducible refine (spec_l8Nodes.calls (l0_0.length : Int) true _ A5.out).mono ?_); rintro e w' ⟨rfl, ⟨nd, rfl⟩⟩; refine ⟨_, rfl, ?_⟩; have hcz8_0 : w3.cell? ⟨gb203, 0, none⟩ = some (.slice A0_0 l0_0.length c0_0) := bc_ BK203.out 0; have hcz8_1 : w3.cell? ⟨gb203, 1, none⟩ = some (.slice A0_1 l0_1.length c0_1) := bc_ BK203.out 1; have hfz8_0 := blk_frozen BK203.out 0; have hfz8_1 := blk_frozen BK203.out 1) | (go_at_call 39; (with_reducible refine (spec_l1In.calls (l0_1.length : Int) 1 8 t205 _ A7.out).mono ?_); rintro e w' ⟨rfl, ⟨nd, rfl⟩⟩))
  go_meet
  case rel => exact ⟨_, (!t205), (by first | rfl | (simp; done) | (simp [*]; done)), H', ⟨by first | omega | exact Nat.le_refl _⟩, ⟨by exact kb_ BK203.out⟩, ⟨bl_⟩⟩
 clear HC2
 try clear c2
 try clear p2
 try clear c3
 try clear c6
 try clear hcz4_0
 try clear hcz4_1
 try clear hcz8_0
 try clear hcz8_1
 try clear hfz4_0
 try clear hfz4_1
 try clear hfz8_0
 try clear hfz8_1
 obtain ⟨kq, x25_1, rfl, HA, HJ1, BK203, HB⟩ := hcut
 cases kq with
 | zero => exact absurd HA.out (by simp [spec_GoodSynod.j0])
 | succ kj1 => ?_
 have H := HA.out
 clear HA
 simp only [spec_GoodSynod.j0] at H
 as_aux_lemma =>
 by_cases c9 : x25_1 = true
 ·subst c9
  have H1 : (some false) = some r := by rw [if_pos rfl] at H; exact H
  clear H
  have H := H1
  clear H1
  obtain rfl := Option.some.inj H
  go_wp2
  go_ret
  exact ⟨ng_, bl_⟩
 replace c9 := Bool.eq_false_iff.mpr c9
 subst c9
 have H1 : (spec_GoodSynod.l0 kj1 (l0_0.length : Int) l0_0 (l0_0.length : Int) 0 l0_0 l0_1) = some r := by rw [if_neg (show ¬ (false = true) by decide)] at H; exact H
 clear H
 have H := H1
 clear H1
 have H' := Aside0.mk H
 clear H
 have hcz10_0 : wc.cell? ⟨gb203, 0, none⟩ = some (.slice A0_0 l0_0.length c0_0) := bc_ BK203.out 0
 have hcz10_1 : wc.cell? ⟨gb203, 1, none⟩ = some (.slice A0_1 l0_1.length c0_1) := bc_ BK203.out 1
 have hfz10_0 := blk_frozen BK203.out 0
 have hfz10_1 := blk_frozen BK203.out 1
 go_wp2
 go_loopg [29] kj1 (fun kq v29 w' => ∃ (x29_2 : Int), v29 = .int .i64 x29_2 ∧ Aside0 (spec_GoodSynod.l0 kq (l0_0.length : Int) l0_0 (l0_0.length : Int) x29_2 l0_0 l0_1 = some r) ∧ Aside0 (kq ≤ kj1) ∧ Aside0 (w'.heap[gb203]? = some (.cells #[(.slice A0_0 l0_0.length c0_0), (.slice A0_1 l0_1.length c0_1)] 33 (0, 0))) ∧ Aside0 (Below w.heap.size w w'))
 case atStart => exact ⟨(0), (by first | rfl | (simp; done) | (simp [*]; done)), H', ⟨Nat.le_refl _⟩, ⟨by exact kb_ BK203.out⟩, ⟨bl_⟩⟩
 clear H'
 try clear c2
 try clear p2
 try clear c3
 try clear c6
 try clear c9
 try clear hcz10_0
 try clear hcz10_1
 try clear hcz4_0
 try clear hcz4_1
 try clear hcz8_0
 try clear hcz8_1
 try clear hfz10_0
 try clear hfz10_1
 try clear hfz4_0
 try clear hfz4_1
 try clear hfz8_0
 try clear hfz8_1
 try clear p2
 obtain ⟨x29_2, rfl, HA, HK2, BK203, HB⟩ := hrel
 cases gk with
 | zero => exact absurd HA.out (by simp [spec_GoodSynod.l0])
 | succ k2 => ?_
 have H := HA.out
 clear HA
 simp only [spec_GoodSynod.l0] at H
 as_aux_lemma =>
 by_cases c11 : x29_2 < (l0_0.length : Int)
 ·as_aux_lemma =>
  rw [if_pos c11] at H
  have c11b0 : decide (x29_2 < (l0_0.length : Int)) = true := decide_eq_true c11
  clear c11
  by_cases c12 : 0 ≤ x29_2
  rotate_left
  ·rw [if_neg c12] at H
   exact absurd H (by simp)
  rw [if_pos c12] at H
  have c12b0 : decide (0 ≤ x29_2) = true := decide_eq_true c12
  clear c12
  by_cases c13 : x29_2 < (l0_0.length : Int)
  rotate_left
  ·rw [if_neg c13] at H
   exact absurd H (by simp)
  rw [if_pos c13] at H
  have c13b0 : decide (x29_2 < (l0_0.length : Int)) = true := decide_eq_true c13
  clear c13
  replace H := Option.bind_eq_some_iff.mp H
  obtain ⟨t208, A140, H⟩ := H
  replace H : (if t208 = true then ((spec_l10Old.f k2 ((rd_T70 l0_0 x29_2).f1) ((rd_T70 l0_0 x29_2).f0) ((rd_T70 l0_0 x29_2).f2)).bind fun t209 => (if t209 = true then (spec_GoodSynod.l0 k2 (l0_0.length : Int) l0_0 (l0_0.length : Int) (wrap64 (x29_2 + 1)) l0_0 l0_1) else (some false))) else (some false)) = some r := H
  have A14 := Aside0.mk A140
  clear A140
  by_cases c15 : t208 = true
  rotate_left
  ·as_aux_lemma =>
   replace c15 := Bool.eq_false_iff.mpr c15
   subst c15
   have H1 : (some false) = some r := by rw [if_neg (show ¬ (false = true) by decide)] at H; exact H
   clear H
   have H := H1
   clear H1
   obtain rfl := Option.some.inj H
   have p206 : 0 ≤ (x29_2 : Int) := of_decide_eq_true (by first | (with_reducible assumption) | assumption)
   have q206 : x29_2 < (l0_0.length : Int) := of_decide_eq_true (by first | (with_reducible assumption) | assumption)
   obtain ⟨ad206, e206, hx206_0, hx206_1, hx206_2⟩ := at_T70 HR0_0.out x29_2 p206 q206
   cases e206
   replace hx206_0 := (HB.out.cell (World.block_lt_of_cell? w _ hx206_0)).trans hx206_0
   replace hx206_1 := (HB.out.cell (World.block_lt_of_cell? w _ hx206_1)).trans hx206_1
   replace hx206_2 := (HB.out.cell (World.block_lt_of_cell? w _ hx206_2)).trans hx206_2
   replace p206 := eq_true p206
   replace q206 := eq_true q206
   go_wp2_with (first | ((with_reducible refine gate_dst (N := 5) rfl ?_); (try (refine gate_guard (by rfl) ?_; dsimp only)); refine box_event rfl (N := 5) rfl (cs := #[.int .i64 0, .int .i64 0, .string (⟨#[]⟩ : ByteArray)]) (t := 70) gs_ ?_; intro gb207 hg w26 hbox hb; have BK207 := Aside0.mk (hbox); have GW207 := Aside0.mk ((by rw [hg]; exact bz_ : w.heap.size ≤ gb207)); have GE207 := GW207; replace HB := Aside0.mk (below_step bl_ hb); have NB203_207 := nl_ hg BK203; have NB207_203 := nm_ hg BK203; replace BK203 := bb_ BK203 hb; clear hb hbox hg; have hnb27 := NB207_203.out; have hnc27 := NB203_207.out; have hcz28_0 : w26.cell? ⟨gb207, 0, none⟩ = some (.int .i64 0) := bc_ BK207.out 0; have hcz28_1 : w26.cell? ⟨gb207, 1, none⟩ = some (.int .i64 0) := bc_ BK207.out 1; have hcz28_2 : w26.cell? ⟨gb207, 2, none⟩ = some (.string (⟨#[]⟩ : ByteArray)) := bc_ BK207.out 2; have hfz28_0 := blk_frozen BK207.out 0; have hfz28_1 := blk_frozen BK207.out 1; have hfz28_2 := blk_frozen BK207.out 2; have hcz29_0 : w26.cell? ⟨gb203, 0, none⟩ = some (.slice (some ad206) l0_0.length c0_0) := bc_ BK203.out 0; have hcz29_1 : w26.cell? ⟨gb203, 1, none⟩ = some (.slice A0_1 l0_1.length c0_1) := bc_ BK203.out 1; have hfz29_0 := blk_frozen BK203.out 0; have hfz29_1 := blk_frozen BK203.out 1) | ((with_reducible refine gate_callee (f := 39) rfl ?_); refine goesL_ (some 38) rfl rfl Try.func39 (by kernel_rfl) rfl #[.int .i64 ((rd_T70 l0_0 x29_2).f0), .int .i64 0, .int .i64 (l0_1.length : Int)] rfl nc_ ?_; (with_reducible refine (spec_l1In.calls ((rd_T70 l0_0 x29_2).f0) 0 (l0_1.length : Int) false _ A14.out).mono ?_); rintro e w' ⟨rfl, ⟨nd, rfl⟩⟩; refine ⟨_, rfl, ?_⟩))
   go_ret
   exact ⟨ng_, bl_⟩
  subst c15
  have H1 : ((spec_l10Old.f k2 ((rd_T70 l0_0 x29_2).f1) ((rd_T70 l0_0 x29_2).f0) ((rd_T70 l0_0 x29_2).f2)).bind fun t209 => (if t209 = true then (spec_GoodSynod.l0 k2 (l0_0.length : Int) l0_0 (l0_0.length : Int) (wrap64 (x29_2 + 1)) l0_0 l0_1) else (some false))) = some r := by rw [if_pos rfl] at H; exact H
  clear H
  have H := H1
  clear H1
  replace H := Option.bind_eq_some_iff.mp H
  obtain ⟨t209, A160, H⟩ := H
  replace H : (if t209 = true then (spec_GoodSynod.l0 k2 (l0_0.length : Int) l0_0 (l0_0.length : Int) (wrap64 (x29_2 + 1)) l0_0 l0_1) else (some false)) = some r := H
  have A16 := Aside0.mk A160
  clear A160
  by_cases c17 : t209 = true
  rotate_left
  ·as_aux_lemma =>
   replace c17 := Bool.eq_false_iff.mpr c17
   subst c17
   have H1 : (some false) = some r := by rw [if_neg (show ¬ (false = true) by decide)] at H; exact H
   clear H
   have H := H1
   clear H1
   obtain rfl := Option.some.inj H
   have p206 : 0 ≤ (x29_2 : Int) := of_decide_eq_true (by first | (with_reducible assumption) | assumption)
   have q206 : x29_2 < (l0_0.length : Int) := of_decide_eq_true (by first | (with_reducible assumption) | assumption)
   obtain ⟨ad206, e206, hx206_0, hx206_1, hx206_2⟩ := at_T70 HR0_0.out x29_2 p206 q206
   cases e206
   replace hx206_0 := (HB.out.cell (World.block_lt_of_cell? w _ hx206_0)).trans hx206_0
   replace hx206_1 := (HB.out.cell (World.block_lt_of_cell? w _ hx206_1)).trans hx206_1
   replace hx206_2 := (HB.out.cell (World.block_lt_of_cell? w _ hx206_2)).trans hx206_2
   replace p206 := eq_true p206
   replace q206 := eq_true q206
   go_wp2_with (first | ((with_reducible refine gate_dst (N := 5) rfl ?_); (try (refine gate_guard (by rfl) ?_; dsimp only)); refine box_event rfl (N := 5) rfl (cs := #[.int .i64 0, .int .i64 0, .string (⟨#[]⟩ : ByteArray)]) (t := 70) gs_ ?_; intro gb207 hg w22 hbox hb; have BK207 := Aside0.mk (hbox); have GW207 := Aside0.mk ((by rw [hg]; exact bz_ : w.heap.size ≤ gb207)); have GE207 := GW207; replace HB := Aside0.mk (below_step bl_ hb); have NB203_207 := nl_ hg BK203; have NB207_203 := nm_ hg BK203; replace BK203 := bb_ BK203 hb; clear hb hbox hg; have hnb23 := NB207_203.out; have hnc23 := NB203_207.out; have hcz24_0 : w22.cell? ⟨gb207, 0, none⟩ = some (.int .i64 0) := bc_ BK207.out 0; have hcz24_1 : w22.cell? ⟨gb207, 1, none⟩ = some (.int .i64 0) := bc_ BK207.out 1; have hcz24_2 : w22.cell? ⟨gb207, 2, none⟩ = some (.string (⟨#[]⟩ : ByteArray)) := bc_ BK207.out 2; have hfz24_0 := blk_frozen BK207.out 0; have hfz24_1 := blk_frozen BK207.out 1; have hfz24_2 := blk_frozen BK207.out 2; have hcz25_0 : w22.cell? ⟨gb203, 0, none⟩ = some (.slice (some ad206) l0_0.length c0_0) := bc_ BK203.out 0; have hcz25_1 : w22.cell? ⟨gb203, 1, none⟩ = some (.slice A0_1 l0_1.length c0_1) := bc_ BK203.out 1; have hfz25_0 := blk_frozen BK203.out 0; have hfz25_1 := blk_frozen BK203.out 1) | ((with_reducible refine gate_callee (f := 39) rfl ?_); refine goesL_ (some 38) rfl rfl Try.func39 (by kernel_rfl) rfl #[.int .i64 ((rd_T70 l0_0 x29_2).f0), .int .i64 0, .int .i64 (l0_1.length : Int)] rfl nc_ ?_; (with_reducible refine (spec_l1In.calls ((rd_T70 l0_0 x29_2).f0) 0 (l0_1.length : Int) true _ A14.out).mono ?_); rintro e w' ⟨rfl, ⟨nd, rfl⟩⟩; refine ⟨_, rfl, ?_⟩) | (go_at_call 44; (with_reducible refine (spec_l10Old.calls k2 ((rd_T70 l0_0 x29_2).f1) ((rd_T70 l0_0 x29_2).f0) ((rd_T70 l0_0 x29_2).f2) false _ A16.out).mono ?_); rintro e w' ⟨rfl, ⟨nd, rfl⟩⟩))
   go_ret
   exact ⟨ng_, bl_⟩
  subst c17
  have H1 : (spec_GoodSynod.l0 k2 (l0_0.length : Int) l0_0 (l0_0.length : Int) (wrap64 (x29_2 + 1)) l0_0 l0_1) = some r := by rw [if_pos rfl] at H; exact H
  clear H
  have H := H1
  clear H1
  have H' := Aside0.mk H
  clear H
  have p206 : 0 ≤ (x29_2 : Int) := of_decide_eq_true (by first | (with_reducible assumption) | assumption)
  have q206 : x29_2 < (l0_0.length : Int) := of_decide_eq_true (by first | (with_reducible assumption) | assumption)
  obtain ⟨ad206, e206, hx206_0, hx206_1, hx206_2⟩ := at_T70 HR0_0.out x29_2 p206 q206
  cases e206
  replace hx206_0 := (HB.out.cell (World.block_lt_of_cell? w _ hx206_0)).trans hx206_0
  replace hx206_1 := (HB.out.cell (World.block_lt_of_cell? w _ hx206_1)).trans hx206_1
  replace hx206_2 := (HB.out.cell (World.block_lt_of_cell? w _ hx206_2)).trans hx206_2
  replace p206 := eq_true p206
  replace q206 := eq_true q206
  go_wp2_with (first | ((with_reducible refine gate_dst (N := 5) rfl ?_); (try (refine gate_guard (by rfl) ?_; dsimp only)); refine box_event rfl (N := 5) rfl (cs := #[.int .i64 0, .int .i64 0, .string (⟨#[]⟩ : ByteArray)]) (t := 70) gs_ ?_; intro gb207 hg w18 hbox hb; have BK207 := Aside0.mk (hbox); have GW207 := Aside0.mk ((by rw [hg]; exact bz_ : w.heap.size ≤ gb207)); have GE207 := GW207; replace HB := Aside0.mk (below_step bl_ hb); have NB203_207 := nl_ hg BK203; have NB207_203 := nm_ hg BK203; replace BK203 := bb_ BK203 hb; clear hb hbox hg; have hnb19 := NB207_203.out; have hnc19 := NB203_207.out; have hcz20_0 : w18.cell? ⟨gb207, 0, none⟩ = some (.int .i64 0) := bc_ BK207.out 0; have hcz20_1 : w18.cell? ⟨gb207, 1, none⟩ = some (.int .i64 0) := bc_ BK207.out 1; have hcz20_2 : w18.cell? ⟨gb207, 2, none⟩ = some (.string (⟨#[]⟩ : ByteArray)) := bc_ BK207.out 2; have hfz20_0 := blk_frozen BK207.out 0; have hfz20_1 := blk_frozen BK207.out 1; have hfz20_2 := blk_frozen BK207.out 2; have hcz21_0 : w18.cell? ⟨gb203, 0, none⟩ = some (.slice (some ad206) l0_0.length c0_0) := bc_ BK203.out 0; have hcz21_1 : w18.cell? ⟨gb203, 1, none⟩ = some (.slice A0_1 l0_1.length c0_1) := bc_ BK203.out 1; have hfz21_0 := blk_frozen BK203.out 0; have hfz21_1 := blk_frozen BK203.out 1) | ((with_reducible refine gate_callee (f := 39) rfl ?_); refine goesL_ (some 38) rfl rfl Try.func39 (by kernel_rfl) rfl #[.int .i64 ((rd_T70 l0_0 x29_2).f0), .int .i64 0, .int .i64 (l0_1.length : Int)] rfl nc_ ?_; (with_reducible refine (spec_l1In.calls ((rd_T70 l0_0 x29_2).f0) 0 (l0_1.length : Int) true _ A14.out).mono ?_); rintro e w' ⟨rfl, ⟨nd, rfl⟩⟩; refine ⟨_, rfl, ?_⟩) | (go_at_call 44; (with_reducible refine (spec_l10Old.calls k2 ((rd_T70 l0_0 x29_2).f1) ((rd_T70 l0_0 x29_2).f0) ((rd_T70 l0_0 x29_2).f2) true _ A16.out).mono ?_); rintro e w' ⟨rfl, ⟨nd, rfl⟩⟩))
  go_roundg k2
  case measure => have := HJ1.out; have := HK2.out; omega
  case rel => exact ⟨(wrap64 (x29_2 + 1)), (by first | rfl | (simp; done) | (simp [*]; done)), H', ⟨by have := HJ1.out; have := HK2.out; omega⟩, ⟨kz_⟩, ⟨bl_⟩⟩
 rw [if_neg c11] at H
 have c11b0 : decide (x29_2 < (l0_0.length : Int)) = false := decide_eq_false c11
 clear c11
 have H' := Aside0.mk H
 clear H
 have hcz30_0 : wr.cell? ⟨gb203, 0, none⟩ = some (.slice A0_0 l0_0.length c0_0) := bc_ BK203.out 0
 have hcz30_1 : wr.cell? ⟨gb203, 1, none⟩ = some (.slice A0_1 l0_1.length c0_1) := bc_ BK203.out 1
 have hfz30_0 := blk_frozen BK203.out 0
 have hfz30_1 := blk_frozen BK203.out 1
 go_wp2
 go_loopg [54] k2 (fun kq v54 w' => ∃ (x54_3 : Int), v54 = .int .i64 x54_3 ∧ Aside0 (spec_GoodSynod.l1 kq (l0_0.length : Int) l0_1 (l0_1.length : Int) x54_3 = some r) ∧ Aside0 (kq ≤ k2) ∧ Aside0 (w'.heap[gb203]? = some (.cells #[(.slice A0_0 l0_0.length c0_0), (.slice A0_1 l0_1.length c0_1)] 33 (0, 0))) ∧ Aside0 (Below w.heap.size w w'))
 case atStart => exact ⟨(0), (by first | rfl | (simp; done) | (simp [*]; done)), H', ⟨Nat.le_refl _⟩, ⟨by exact kb_ BK203.out⟩, ⟨bl_⟩⟩
 clear H'
 try clear c1
 try clear c2
 try clear p2
 try clear q2
 try clear hx2
 try clear c3
 try clear c6
 try clear p6
 try clear c9
 try clear c11
 try clear c11b0
 try clear c12
 try clear c12b0
 try clear c13
 try clear c13b0
 try clear c15
 try clear c17
 try clear c19
 try clear p20
 try clear q20
 try clear hx20
 try clear c21
 try clear c23
 try clear c27
 try clear hcz10_0
 try clear hcz10_1
 try clear hcz20_0
 try clear hcz20_1
 try clear hcz20_2
 try clear hcz21_0
 try clear hcz21_1
 try clear hcz24_0
 try clear hcz24_1
 try clear hcz24_2
 try clear hcz25_0
 try clear hcz25_1
 try clear hcz28_0
 try clear hcz28_1
 try clear hcz28_2
 try clear hcz29_0
 try clear hcz29_1
 try clear hcz30_0
 try clear hcz30_1
 try clear hcz4_0
 try clear hcz4_1
 try clear hcz8_0
 try clear hcz8_1
 try clear hfz10_0
 try clear hfz10_1
 try clear hfz20_0
 try clear hfz20_1
 try clear hfz20_2
 try clear hfz21_0
 try clear hfz21_1
 try clear hfz24_0
 try clear hfz24_1
 try clear hfz24_2
 try clear hfz25_0
 try clear hfz25_1
 try clear hfz28_0
 try clear hfz28_1
 try clear hfz28_2
 try clear hfz29_0
 try clear hfz29_1
 try clear hfz30_0
 try clear hfz30_1
 try clear hfz4_0
 try clear hfz4_1
 try clear hfz8_0
 try clear hfz8_1
 try clear hx206_0
 try clear hx206_1
 try clear hx206_2
 try clear p2
 try clear p206
 try clear q206
 obtain ⟨x54_3, rfl, HA, HK3, BK203, HB⟩ := hrel
 cases gk with
 | zero => exact absurd HA.out (by simp [spec_GoodSynod.l1])
 | succ k3 => ?_
 have H := HA.out
 clear HA
 simp only [spec_GoodSynod.l1] at H
 as_aux_lemma =>
 by_cases c31 : x54_3 < (l0_1.length : Int)
 rotate_left
 ·rw [if_neg c31] at H
  have c31b0 : decide (x54_3 < (l0_1.length : Int)) = false := decide_eq_false c31
  clear c31
  obtain rfl := Option.some.inj H
  go_wp2
  go_ret
  exact ⟨ng_, bl_⟩
 rw [if_pos c31] at H
 have c31b0 : decide (x54_3 < (l0_1.length : Int)) = true := decide_eq_true c31
 clear c31
 as_aux_lemma =>
 by_cases c32 : 0 ≤ x54_3
 rotate_left
 ·rw [if_neg c32] at H
  exact absurd H (by simp)
 rw [if_pos c32] at H
 have c32b0 : decide (0 ≤ x54_3) = true := decide_eq_true c32
 clear c32
 as_aux_lemma =>
 by_cases c33 : x54_3 < (l0_1.length : Int)
 rotate_left
 ·rw [if_neg c33] at H
  exact absurd H (by simp)
 rw [if_pos c33] at H
 have c33b0 : decide (x54_3 < (l0_1.length : Int)) = true := decide_eq_true c33
 clear c33
 have H' := Aside0.mk H
 clear H
 have p210 : 0 ≤ (x54_3 : Int) := of_decide_eq_true (by first | (with_reducible assumption) | assumption)
 have q210 : x54_3 < (l0_1.length : Int) := of_decide_eq_true (by first | (with_reducible assumption) | assumption)
 obtain ⟨ad210, A210_1, c210_1, A210_4, c210_4, e210, hx210_0, hx210_1, hx210_2, hx210_3, hx210_4, hl210_1, hi210_1, hl210_4, hi210_4⟩ := at_T54 HR0_1.out x54_3 p210 q210
 cases e210
 replace hx210_0 := (HB.out.cell (World.block_lt_of_cell? w _ hx210_0)).trans hx210_0
 replace hx210_1 := (HB.out.cell (World.block_lt_of_cell? w _ hx210_1)).trans hx210_1
 replace hx210_2 := (HB.out.cell (World.block_lt_of_cell? w _ hx210_2)).trans hx210_2
 replace hx210_3 := (HB.out.cell (World.block_lt_of_cell? w _ hx210_3)).trans hx210_3
 replace hx210_4 := (HB.out.cell (World.block_lt_of_cell? w _ hx210_4)).trans hx210_4
 have HR210_1 := Aside0.mk hi210_1
 have HC210_1 := Aside0.mk hl210_1
 clear hi210_1 hl210_1
 have HR210_4 := Aside0.mk hi210_4
 have HC210_4 := Aside0.mk hl210_4
 clear hi210_4 hl210_4
 replace p210 := eq_true p210
 replace q210 := eq_true q210
 go_wp2_with (first | ((with_reducible refine gate_dst (N := 7) rfl ?_); (try (refine gate_guard (by rfl) ?_; dsimp only)); refine box_event rfl (N := 7) rfl (cs := #[.string (⟨#[]⟩ : ByteArray), .slice none 0 0, .bool false, .string (⟨#[]⟩ : ByteArray), .slice none 0 0]) (t := 54) gs_ ?_; intro gb211 hg w34 hbox hb; have BK211 := Aside0.mk (hbox); have GW211 := Aside0.mk ((by rw [hg]; exact bz_ : w.heap.size ≤ gb211)); have GE211 := GW211; replace HB := Aside0.mk (below_step bl_ hb); have NB203_211 := nl_ hg BK203; have NB211_203 := nm_ hg BK203; replace BK203 := bb_ BK203 hb; clear hb hbox hg; have hnb35 := NB211_203.out; have hnc35 := NB203_211.out; have hcz36_0 : w34.cell? ⟨gb211, 0, none⟩ = some (.string (⟨#[]⟩ : ByteArray)) := bc_ BK211.out 0; have hcz36_1 : w34.cell? ⟨gb211, 1, none⟩ = some (.slice none 0 0) := bc_ BK211.out 1; have hcz36_2 : w34.cell? ⟨gb211, 2, none⟩ = some (.bool false) := bc_ BK211.out 2; have hcz36_3 : w34.cell? ⟨gb211, 3, none⟩ = some (.string (⟨#[]⟩ : ByteArray)) := bc_ BK211.out 3; have hcz36_4 : w34.cell? ⟨gb211, 4, none⟩ = some (.slice none 0 0) := bc_ BK211.out 4; have hfz36_0 := blk_frozen BK211.out 0; have hfz36_1 := blk_frozen BK211.out 1; have hfz36_2 := blk_frozen BK211.out 2; have hfz36_3 := blk_frozen BK211.out 3; have hfz36_4 := blk_frozen BK211.out 4))
 go_loopg [62] k3 (fun kq v62 w' => ∃ (x62_4 : Int), v62 = .int .i64 x62_4 ∧ Aside0 (spec_GoodSynod.l2 kq (l0_0.length : Int) x54_3 l0_1 (l0_1.length : Int) x54_3 ((rd_T54 l0_1 x54_3).f1) (((rd_T54 l0_1 x54_3).f1).length : Int) x62_4 ((rd_T54 l0_1 x54_3).f0) ((rd_T54 l0_1 x54_3).f1) ((rd_T54 l0_1 x54_3).f2) ((rd_T54 l0_1 x54_3).f3) ((rd_T54 l0_1 x54_3).f4) = some r) ∧ Aside0 (kq ≤ k3) ∧ Aside0 (w'.heap[gb203]? = some (.cells #[(.slice A0_0 l0_0.length c0_0), (.slice (some ad210) l0_1.length c0_1)] 33 (0, 0))) ∧ Aside0 (w'.heap[gb211]? = some (.cells #[.string ((rd_T54 l0_1 x54_3).f0), (.slice A210_1 ((rd_T54 l0_1 x54_3).f1).length c210_1), .bool ((rd_T54 l0_1 x54_3).f2), .string ((rd_T54 l0_1 x54_3).f3), (.slice A210_4 ((rd_T54 l0_1 x54_3).f4).length c210_4)] 54 (0, 0))) ∧ Aside0 (Below w.heap.size w w'))
 case atStart => exact ⟨(0), (by first | rfl | (simp; done) | (simp [*]; done)), H', ⟨Nat.le_refl _⟩, ⟨kz_⟩, ⟨by (with_reducible repeat (first | refine blk_drewN ?_ _ | refine blk_drew ?_ | refine blk_alloc ?_ _)); refine blk_put (cs := #[.string ((rd_T54 l0_1 x54_3).f0), .slice A210_1 ((rd_T54 l0_1 x54_3).f1).length c210_1, .bool ((rd_T54 l0_1 x54_3).f2), .string ((rd_T54 l0_1 x54_3).f3), .slice none 0 0]) ?_ 4 _ rfl; (with_reducible repeat (first | refine blk_drewN ?_ _ | refine blk_drew ?_ | refine blk_alloc ?_ _)); refine blk_put (cs := #[.string ((rd_T54 l0_1 x54_3).f0), .slice A210_1 ((rd_T54 l0_1 x54_3).f1).length c210_1, .bool ((rd_T54 l0_1 x54_3).f2), .string (⟨#[]⟩ : ByteArray), .slice none 0 0]) ?_ 3 _ rfl; (with_reducible repeat (first | refine blk_drewN ?_ _ | refine blk_drew ?_ | refine blk_alloc ?_ _)); refine blk_put (cs := #[.string ((rd_T54 l0_1 x54_3).f0), .slice A210_1 ((rd_T54 l0_1 x54_3).f1).length c210_1, .bool false, .string (⟨#[]⟩ : ByteArray), .slice none 0 0]) ?_ 2 _ rfl; (with_reducible repeat (first | refine blk_drewN ?_ _ | refine blk_drew ?_ | refine blk_alloc ?_ _)); refine blk_put (cs := #[.string ((rd_T54 l0_1 x54_3).f0), .slice none 0 0, .bool false, .string (⟨#[]⟩ : ByteArray), .slice none 0 0]) ?_ 1 _ rfl; (with_reducible repeat (first | refine blk_drewN ?_ _ | refine blk_drew ?_ | refine blk_alloc ?_ _)); refine blk_put (cs := #[.string (⟨#[]⟩ : ByteArray), .slice none 0 0, .bool false, .string (⟨#[]⟩ : ByteArray), .slice none 0 0]) ?_ 0 _ rfl; exact kb_ BK211.out⟩, ⟨bl_⟩⟩
 clear H'
 try clear c1
 try clear c2
 try clear p2
 try clear q2
 try clear hx2
 try clear c3
 try clear c6
 try clear p6
 try clear c9
 try clear c11
 try clear c11b0
 try clear c12
 try clear c12b0
 try clear c13
 try clear c13b0
 try clear c15
 try clear c17
 try clear c19
 try clear p20
 try clear q20
 try clear hx20
 try clear c21
 try clear p21
 try clear q21
 try clear hx21
 try clear c23
 try clear c27
 try clear c31
 try clear c31b0
 try clear c32
 try clear c32b0
 try clear c33
 try clear c33b0
 try clear c35
 try clear hcz10_0
 try clear hcz10_1
 try clear hcz20_0
 try clear hcz20_1
 try clear hcz20_2
 try clear hcz21_0
 try clear hcz21_1
 try clear hcz24_0
 try clear hcz24_1
 try clear hcz24_2
 try clear hcz25_0
 try clear hcz25_1
 try clear hcz28_0
 try clear hcz28_1
 try clear hcz28_2
 try clear hcz29_0
 try clear hcz29_1
 try clear hcz30_0
 try clear hcz30_1
 try clear hcz36_0
 try clear hcz36_1
 try clear hcz36_2
 try clear hcz36_3
 try clear hcz36_4
 try clear hcz4_0
 try clear hcz4_1
 try clear hcz8_0
 try clear hcz8_1
 try clear hfz10_0
 try clear hfz10_1
 try clear hfz20_0
 try clear hfz20_1
 try clear hfz20_2
 try clear hfz21_0
 try clear hfz21_1
 try clear hfz24_0
 try clear hfz24_1
 try clear hfz24_2
 try clear hfz25_0
 try clear hfz25_1
 try clear hfz28_0
 try clear hfz28_1
 try clear hfz28_2
 try clear hfz29_0
 try clear hfz29_1
 try clear hfz30_0
 try clear hfz30_1
 try clear hfz36_0
 try clear hfz36_1
 try clear hfz36_2
 try clear hfz36_3
 try clear hfz36_4
 try clear hfz4_0
 try clear hfz4_1
 try clear hfz8_0
 try clear hfz8_1
 try clear hx206_0
 try clear hx206_1
 try clear hx206_2
 try clear hx210_0
 try clear hx210_1
 try clear hx210_2
 try clear hx210_3
 try clear hx210_4
 try clear p2
 try clear p20
 try clear p206
 try clear p210
 try clear p6
 try clear q2
 try clear q20
 try clear q206
 try clear q210
 obtain ⟨x62_4, rfl, HA, HK4, BK203, BK211, HB⟩ := hrel
 cases gk with
 | zero => exact absurd HA.out (by simp [spec_GoodSynod.l2])
 | succ k4 => ?_
 have H := HA.out
 clear HA
 simp only [spec_GoodSynod.l2] at H
 as_aux_lemma =>
 by_cases c37 : x62_4 < (((rd_T54 l0_1 x54_3).f1).length : Int)
 ·as_aux_lemma =>
  rw [if_pos c37] at H
  have c37b0 : decide (x62_4 < (((rd_T54 l0_1 x54_3).f1).length : Int)) = true := decide_eq_true c37
  clear c37
  by_cases c38 : 0 ≤ x62_4
  rotate_left
  ·rw [if_neg c38] at H
   exact absurd H (by simp)
  rw [if_pos c38] at H
  have c38b0 : decide (0 ≤ x62_4) = true := decide_eq_true c38
  clear c38
  by_cases c39 : x62_4 < (((rd_T54 l0_1 x54_3).f1).length : Int)
  rotate_left
  ·rw [if_neg c39] at H
   exact absurd H (by simp)
  rw [if_pos c39] at H
  have c39b0 : decide (x62_4 < (((rd_T54 l0_1 x54_3).f1).length : Int)) = true := decide_eq_true c39
  clear c39
  replace H := Option.bind_eq_some_iff.mp H
  obtain ⟨t214, A400, H⟩ := H
  replace H : (if t214 = true then (if x62_4 > 0 then (if 0 ≤ (wrap64 (x62_4 - 1)) then (if (wrap64 (x62_4 - 1)) < (((rd_T54 l0_1 x54_3).f1).length : Int) then (if ((rd_T73 ((rd_T54 l0_1 x54_3).f1) (wrap64 (x62_4 - 1))).f0) ≥ ((rd_T73 ((rd_T54 l0_1 x54_3).f1) x62_4).f0) then (some false) else ((spec_l10Old.f k4 ((rd_T73 ((rd_T54 l0_1 x54_3).f1) x62_4).f1) x54_3 ((rd_T73 ((rd_T54 l0_1 x54_3).f1) x62_4).f2)).bind fun t216 => (if t216 = true then (spec_GoodSynod.l2 k4 (l0_0.length : Int) x54_3 l0_1 (l0_1.length : Int) x54_3 ((rd_T54 l0_1 x54_3).f1) (((rd_T54 l0_1 x54_3).f1).length : Int) (wrap64 (x62_4 + 1)) ((rd_T54 l0_1 x54_3).f0) ((rd_T54 l0_1 x54_3).f1) ((rd_T54 l0_1 x54_3).f2) ((rd_T54 l0_1 x54_3).f3) ((rd_T54 l0_1 x54_3).f4)) else (some false)))) else (none)) else (none)) else ((spec_l10Old.f k4 ((rd_T73 ((rd_T54 l0_1 x54_3).f1) x62_4).f1) x54_3 ((rd_T73 ((rd_T54 l0_1 x54_3).f1) x62_4).f2)).bind fun t217 => (if t217 = true then (spec_GoodSynod.l2 k4 (l0_0.length : Int) x54_3 l0_1 (l0_1.length : Int) x54_3 ((rd_T54 l0_1 x54_3).f1) (((rd_T54 l0_1 x54_3).f1).length : Int) (wrap64 (x62_4 + 1)) ((rd_T54 l0_1 x54_3).f0) ((rd_T54 l0_1 x54_3).f1) ((rd_T54 l0_1 x54_3).f2) ((rd_T54 l0_1 x54_3).f3) ((rd_T54 l0_1 x54_3).f4)) else (some false)))) else (some false)) = some r := H
  have A40 := Aside0.mk A400
  clear A400
  by_cases c41 : t214 = true
  rotate_left
  ·as_aux_lemma =>
   replace c41 := Bool.eq_false_iff.mpr c41
   subst c41
   have H1 : (some false) = some r := by rw [if_neg (show ¬ (false = true) by decide)] at H; exact H
   clear H
   have H := H1
   clear H1
   obtain rfl := Option.some.inj H
   have p212 : 0 ≤ (x62_4 : Int) := of_decide_eq_true (by first | (with_reducible assumption) | assumption)
   have q212 : x62_4 < (((rd_T54 l0_1 x54_3).f1).length : Int) := of_decide_eq_true (by first | (with_reducible assumption) | assumption)
   obtain ⟨ad212, e212, hx212_0, hx212_1, hx212_2⟩ := at_T73 HR210_1.out x62_4 p212 q212
   cases e212
   replace hx212_0 := (HB.out.cell (World.block_lt_of_cell? w _ hx212_0)).trans hx212_0
   replace hx212_1 := (HB.out.cell (World.block_lt_of_cell? w _ hx212_1)).trans hx212_1
   replace hx212_2 := (HB.out.cell (World.block_lt_of_cell? w _ hx212_2)).trans hx212_2
   replace p212 := eq_true p212
   replace q212 := eq_true q212
   try go_wp2_with (first | ((with_reducible refine gate_dst (N := 9) rfl ?_); (try (refine gate_guard (by rfl) ?_; dsimp only)); refine box_event rfl (N := 9) rfl (cs := #[.int .i64 0, .int .i64 0, .string (⟨#[]⟩ : ByteArray)]) (t := 73) gs_ ?_; intro gb213 hg w81 hbox hb; have BK213 := Aside0.mk (hbox); have GW213 := Aside0.mk ((by rw [hg]; exact bz_ : w.heap.size ≤ gb213)); have GE213 := GW213; replace HB := Aside0.mk (below_step bl_ hb); have NB203_213 := nl_ hg BK203; have NB213_203 := nm_ hg BK203; replace BK203 := bb_ BK203 hb; have NB211_213 := nl_ hg BK211; have NB213_211 := nm_ hg BK211; replace BK211 := bb_ BK211 hb; clear hb hbox hg; have hnb82 := NB213_203.out; have hnc82 := NB203_213.out; have hnb83 := NB213_211.out; have hnc83 := NB211_213.out; have hcz84_0 : w81.cell? ⟨gb213, 0, none⟩ = some (.int .i64 0) := bc_ BK213.out 0; have hcz84_1 : w81.cell? ⟨gb213, 1, none⟩ = some (.int .i64 0) := bc_ BK213.out 1; have hcz84_2 : w81.cell? ⟨gb213, 2, none⟩ = some (.string (⟨#[]⟩ : ByteArray)) := bc_ BK213.out 2; have hfz84_0 := blk_frozen BK213.out 0; have hfz84_1 := blk_frozen BK213.out 1; have hfz84_2 := blk_frozen BK213.out 2))
   have n0_ : Aside0 ((((w81.setCell ⟨gb213, 0, none⟩ (.int .i64 ((rd_T73 ((rd_T54 l0_1 x54_3).f1) x62_4).f0))).setCell ⟨gb213, 1, none⟩ (.int .i64 ((rd_T73 ((rd_T54 l0_1 x54_3).f1) x62_4).f1))).setCell ⟨gb213, 2, none⟩ (.string ((rd_T73 ((rd_T54 l0_1 x54_3).f1) x62_4).f2))).heap[gb203]? = some (.cells #[.slice A0_0 l0_0.length c0_0, .slice (some ad210) l0_1.length c0_1] 33 (0, 0))) := ⟨kz_⟩
   have n1_ : Aside0 ((((w81.setCell ⟨gb213, 0, none⟩ (.int .i64 ((rd_T73 ((rd_T54 l0_1 x54_3).f1) x62_4).f0))).setCell ⟨gb213, 1, none⟩ (.int .i64 ((rd_T73 ((rd_T54 l0_1 x54_3).f1) x62_4).f1))).setCell ⟨gb213, 2, none⟩ (.string ((rd_T73 ((rd_T54 l0_1 x54_3).f1) x62_4).f2))).heap[gb211]? = some (.cells #[.string ((rd_T54 l0_1 x54_3).f0), .slice (some ad212) ((rd_T54 l0_1 x54_3).f1).length c210_1, .bool ((rd_T54 l0_1 x54_3).f2), .string ((rd_T54 l0_1 x54_3).f3), .slice A210_4 ((rd_T54 l0_1 x54_3).f4).length c210_4] 54 (0, 0))) := ⟨kz_⟩
   have n2_ : Aside0 ((((w81.setCell ⟨gb213, 0, none⟩ (.int .i64 ((rd_T73 ((rd_T54 l0_1 x54_3).f1) x62_4).f0))).setCell ⟨gb213, 1, none⟩ (.int .i64 ((rd_T73 ((rd_T54 l0_1 x54_3).f1) x62_4).f1))).setCell ⟨gb213, 2, none⟩ (.string ((rd_T73 ((rd_T54 l0_1 x54_3).f1) x62_4).f2))).heap[gb213]? = some (.cells #[.int .i64 ((rd_T73 ((rd_T54 l0_1 x54_3).f1) x62_4).f0), .int .i64 ((rd_T73 ((rd_T54 l0_1 x54_3).f1) x62_4).f1), .string ((rd_T73 ((rd_T54 l0_1 x54_3).f1) x62_4).f2)] 73 (0, 0))) := ⟨by (with_reducible repeat (first | refine blk_drewN ?_ _ | refine blk_drew ?_ | refine blk_alloc ?_ _)); refine blk_put (cs := #[.int .i64 ((rd_T73 ((rd_T54 l0_1 x54_3).f1) x62_4).f0), .int .i64 ((rd_T73 ((rd_T54 l0_1 x54_3).f1) x62_4).f1), .string (⟨#[]⟩ : ByteArray)]) ?_ 2 _ rfl; (with_reducible repeat (first | refine blk_drewN ?_ _ | refine blk_drew ?_ | refine blk_alloc ?_ _)); refine blk_put (cs := #[.int .i64 ((rd_T73 ((rd_T54 l0_1 x54_3).f1) x62_4).f0), .int .i64 0, .string (⟨#[]⟩ : ByteArray)]) ?_ 1 _ rfl; (with_reducible repeat (first | refine blk_drewN ?_ _ | refine blk_drew ?_ | refine blk_alloc ?_ _)); refine blk_put (cs := #[.int .i64 0, .int .i64 0, .string (⟨#[]⟩ : ByteArray)]) ?_ 0 _ rfl; exact kb_ BK213.out⟩
   have n3_ : Aside0 (Below w.heap.size w (((w81.setCell ⟨gb213, 0, none⟩ (.int .i64 ((rd_T73 ((rd_T54 l0_1 x54_3).f1) x62_4).f0))).setCell ⟨gb213, 1, none⟩ (.int .i64 ((rd_T73 ((rd_T54 l0_1 x54_3).f1) x62_4).f1))).setCell ⟨gb213, 2, none⟩ (.string ((rd_T73 ((rd_T54 l0_1 x54_3).f1) x62_4).f2)))) := ⟨bl_⟩
   (try clear BK203)
   (try clear BK211)
   (try clear BK213)
   (try clear HB)
   generalize (((w81.setCell ⟨gb213, 0, none⟩ (.int .i64 ((rd_T73 ((rd_T54 l0_1 x54_3).f1) x62_4).f0))).setCell ⟨gb213, 1, none⟩ (.int .i64 ((rd_T73 ((rd_T54 l0_1 x54_3).f1) x62_4).f1))).setCell ⟨gb213, 2, none⟩ (.string ((rd_T73 ((rd_T54 l0_1 x54_3).f1) x62_4).f2))) = w85 at n0_ n1_ n2_ n3_ ⊢
   have BK203 := n0_
   have BK211 := n1_
   have BK213 := n2_
   have HB := n3_
   clear n0_ n1_ n2_ n3_
   replace BK203 := Aside0.mk (blk_drew BK203.out)
   replace BK211 := Aside0.mk (blk_drew BK211.out)
   replace BK213 := Aside0.mk (blk_drew BK213.out)
   replace HB := Aside0.mk (below_drew1 HB.out)
   refine start_ (n := 31) (S := fun w' => w'.cell? ⟨gb213, 0, none⟩ = some (.int .i64 ((rd_T73 ((rd_T54 l0_1 x54_3).f1) x62_4).f0)) ∧ w'.cell? ⟨gb213, 1, none⟩ = some (.int .i64 ((rd_T73 ((rd_T54 l0_1 x54_3).f1) x62_4).f1)) ∧ w'.cell? ⟨gb213, 2, none⟩ = some (.string ((rd_T73 ((rd_T54 l0_1 x54_3).f1) x62_4).f2))) (ds := []) #[false, false, false, false, false, false, false, false, false, false, false, false, false, false, false, false, false, false, false, false, false, false, false, false, false, false, false, false, false, false, false] (by kernel_rfl) rfl rfl ⟨bc_ BK213.out 0, bc_ BK213.out 1, bc_ BK213.out 2⟩ (fun hHeld => ?_); refine with_tabW spec_GoodSynod.tab16 spec_GoodSynod.bits16 (fun HT_ HW_ => ?_)
   generalize w85.drew = w86 at BK203 BK211 BK213 HB hHeld ⊢
   refine pu_ 0 (some 67) (h := ?_)
   refine pu_ 2 (some 69) (h := ?_)
   refine pu_ 3 (some 70) (h := ?_)
   refine tk3_ 1 (some 68) (h := ?_)
   refine on_ 4 (some 71) (h := fun K hK => ?_)
   refine goes_ Try.func39 (by kernel_rfl) rfl #[.int .i64 ((rd_T73 ((rd_T54 l0_1 x54_3).f1) x62_4).f0), .int .i64 0, .int .i64 (wrap64 ((l0_0.length : Int) - 1))] (by rfl) rfl rfl nc_ ?_
   with_reducible refine (spec_l1In.calls ((rd_T73 ((rd_T54 l0_1 x54_3).f1) x62_4).f0) 0 (wrap64 ((l0_0.length : Int) - 1)) false _ A40.out).mono ?_
   rintro e w' ⟨rfl, ⟨nd, rfl⟩⟩
   refine ⟨_, rfl, ?_⟩
   refine hK.out _ _ ⟨bc_ BK213.out 0, bc_ BK213.out 1, bc_ BK213.out 2⟩ (fun hHeld => ?_)
   clear hK K
   refine norm_ nn_ ?_
   refine pu_ 5 (some 72) (h := ?_)
   refine pu_ 6 (some 73) (h := ?_)
   refine px_ 7 (some 74) (h := ?_)
   refine px_ 8 (some 75) (h := ?_)
   refine px_ 9 (some 76) (h := ?_)
   refine px_ 10 (some 77) (h := ?_)
   refine px_ 11 (some 78) (h := ?_)
   refine px_ 12 (some 79) (h := ?_)
   refine px_ 13 (some 80) (h := ?_)
   refine px_ 14 (some 81) (h := ?_)
   refine px_ 15 (some 82) (h := ?_)
   refine px_ 16 (some 83) (h := ?_)
   refine px_ 17 (some 84) (h := ?_)
   refine px_ 18 (some 85) (h := ?_)
   refine px_ 19 (some 86) (h := ?_)
   refine px_ 20 (some 87) (h := ?_)
   refine pu_ 21 (some 88) (h := ?_)
   refine pu_ 22 (some 89) (h := ?_)
   refine px_ 23 (some 90) (h := ?_)
   refine px_ 24 (some 91) (h := ?_)
   refine px_ 25 (some 92) (h := ?_)
   refine px_ 26 (some 93) (h := ?_)
   refine px_ 27 (some 94) (h := ?_)
   refine px_ 28 (some 95) (h := ?_)
   refine px_ 29 (some 96) (h := ?_)
   refine pu_ 30 (some 97) (h := ?_)
   refine done_ (done_of HT_.out (by kernel_rfl)) ?_
   try go_wp2
   go_ret
   exact ⟨ng_, bl_⟩
  subst c41
  have H1 : (if x62_4 > 0 then (if 0 ≤ (wrap64 (x62_4 - 1)) then (if (wrap64 (x62_4 - 1)) < (((rd_T54 l0_1 x54_3).f1).length : Int) then (if ((rd_T73 ((rd_T54 l0_1 x54_3).f1) (wrap64 (x62_4 - 1))).f0) ≥ ((rd_T73 ((rd_T54 l0_1 x54_3).f1) x62_4).f0) then (some false) else ((spec_l10Old.f k4 ((rd_T73 ((rd_T54 l0_1 x54_3).f1) x62_4).f1) x54_3 ((rd_T73 ((rd_T54 l0_1 x54_3).f1) x62_4).f2)).bind fun t216 => (if t216 = true then (spec_GoodSynod.l2 k4 (l0_0.length : Int) x54_3 l0_1 (l0_1.length : Int) x54_3 ((rd_T54 l0_1 x54_3).f1) (((rd_T54 l0_1 x54_3).f1).length : Int) (wrap64 (x62_4 + 1)) ((rd_T54 l0_1 x54_3).f0) ((rd_T54 l0_1 x54_3).f1) ((rd_T54 l0_1 x54_3).f2) ((rd_T54 l0_1 x54_3).f3) ((rd_T54 l0_1 x54_3).f4)) else (some false)))) else (none)) else (none)) else ((spec_l10Old.f k4 ((rd_T73 ((rd_T54 l0_1 x54_3).f1) x62_4).f1) x54_3 ((rd_T73 ((rd_T54 l0_1 x54_3).f1) x62_4).f2)).bind fun t217 => (if t217 = true then (spec_GoodSynod.l2 k4 (l0_0.length : Int) x54_3 l0_1 (l0_1.length : Int) x54_3 ((rd_T54 l0_1 x54_3).f1) (((rd_T54 l0_1 x54_3).f1).length : Int) (wrap64 (x62_4 + 1)) ((rd_T54 l0_1 x54_3).f0) ((rd_T54 l0_1 x54_3).f1) ((rd_T54 l0_1 x54_3).f2) ((rd_T54 l0_1 x54_3).f3) ((rd_T54 l0_1 x54_3).f4)) else (some false)))) = some r := by rw [if_pos rfl] at H; exact H
  clear H
  have H := H1
  clear H1
  by_cases c42 : x62_4 > 0
  rotate_left
  ·as_aux_lemma =>
   rw [if_neg c42] at H
   have c42b0 : decide (0 < x62_4) = false := decide_eq_false c42
   clear c42
   replace H := Option.bind_eq_some_iff.mp H
   obtain ⟨t217, A670, H⟩ := H
   replace H : (if t217 = true then (spec_GoodSynod.l2 k4 (l0_0.length : Int) x54_3 l0_1 (l0_1.length : Int) x54_3 ((rd_T54 l0_1 x54_3).f1) (((rd_T54 l0_1 x54_3).f1).length : Int) (wrap64 (x62_4 + 1)) ((rd_T54 l0_1 x54_3).f0) ((rd_T54 l0_1 x54_3).f1) ((rd_T54 l0_1 x54_3).f2) ((rd_T54 l0_1 x54_3).f3) ((rd_T54 l0_1 x54_3).f4)) else (some false)) = some r := H
   have A67 := Aside0.mk A670
   clear A670
   by_cases c68 : t217 = true
   rotate_left
   ·as_aux_lemma =>
    replace c68 := Bool.eq_false_iff.mpr c68
    subst c68
    have H1 : (some false) = some r := by rw [if_neg (show ¬ (false = true) by decide)] at H; exact H
    clear H
    have H := H1
    clear H1
    obtain rfl := Option.some.inj H
    have p212 : 0 ≤ (x62_4 : Int) := of_decide_eq_true (by first | (with_reducible assumption) | assumption)
    have q212 : x62_4 < (((rd_T54 l0_1 x54_3).f1).length : Int) := of_decide_eq_true (by first | (with_reducible assumption) | assumption)
    obtain ⟨ad212, e212, hx212_0, hx212_1, hx212_2⟩ := at_T73 HR210_1.out x62_4 p212 q212
    cases e212
    replace hx212_0 := (HB.out.cell (World.block_lt_of_cell? w _ hx212_0)).trans hx212_0
    replace hx212_1 := (HB.out.cell (World.block_lt_of_cell? w _ hx212_1)).trans hx212_1
    replace hx212_2 := (HB.out.cell (World.block_lt_of_cell? w _ hx212_2)).trans hx212_2
    replace p212 := eq_true p212
    replace q212 := eq_true q212
    try go_wp2_with (first | ((with_reducible refine gate_dst (N := 9) rfl ?_); (try (refine gate_guard (by rfl) ?_; dsimp only)); refine box_event rfl (N := 9) rfl (cs := #[.int .i64 0, .int .i64 0, .string (⟨#[]⟩ : ByteArray)]) (t := 73) gs_ ?_; intro gb213 hg w75 hbox hb; have BK213 := Aside0.mk (hbox); have GW213 := Aside0.mk ((by rw [hg]; exact bz_ : w.heap.size ≤ gb213)); have GE213 := GW213; replace HB := Aside0.mk (below_step bl_ hb); have NB203_213 := nl_ hg BK203; have NB213_203 := nm_ hg BK203; replace BK203 := bb_ BK203 hb; have NB211_213 := nl_ hg BK211; have NB213_211 := nm_ hg BK211; replace BK211 := bb_ BK211 hb; clear hb hbox hg; have hnb76 := NB213_203.out; have hnc76 := NB203_213.out; have hnb77 := NB213_211.out; have hnc77 := NB211_213.out; have hcz78_0 : w75.cell? ⟨gb213, 0, none⟩ = some (.int .i64 0) := bc_ BK213.out 0; have hcz78_1 : w75.cell? ⟨gb213, 1, none⟩ = some (.int .i64 0) := bc_ BK213.out 1; have hcz78_2 : w75.cell? ⟨gb213, 2, none⟩ = some (.string (⟨#[]⟩ : ByteArray)) := bc_ BK213.out 2; have hfz78_0 := blk_frozen BK213.out 0; have hfz78_1 := blk_frozen BK213.out 1; have hfz78_2 := blk_frozen BK213.out 2))
    have n0_ : Aside0 ((((w75.setCell ⟨gb213, 0, none⟩ (.int .i64 ((rd_T73 ((rd_T54 l0_1 x54_3).f1) x62_4).f0))).setCell ⟨gb213, 1, none⟩ (.int .i64 ((rd_T73 ((rd_T54 l0_1 x54_3).f1) x62_4).f1))).setCell ⟨gb213, 2, none⟩ (.string ((rd_T73 ((rd_T54 l0_1 x54_3).f1) x62_4).f2))).heap[gb203]? = some (.cells #[.slice A0_0 l0_0.length c0_0, .slice (some ad210) l0_1.length c0_1] 33 (0, 0))) := ⟨kz_⟩
    have n1_ : Aside0 ((((w75.setCell ⟨gb213, 0, none⟩ (.int .i64 ((rd_T73 ((rd_T54 l0_1 x54_3).f1) x62_4).f0))).setCell ⟨gb213, 1, none⟩ (.int .i64 ((rd_T73 ((rd_T54 l0_1 x54_3).f1) x62_4).f1))).setCell ⟨gb213, 2, none⟩ (.string ((rd_T73 ((rd_T54 l0_1 x54_3).f1) x62_4).f2))).heap[gb211]? = some (.cells #[.string ((rd_T54 l0_1 x54_3).f0), .slice (some ad212) ((rd_T54 l0_1 x54_3).f1).length c210_1, .bool ((rd_T54 l0_1 x54_3).f2), .string ((rd_T54 l0_1 x54_3).f3), .slice A210_4 ((rd_T54 l0_1 x54_3).f4).length c210_4] 54 (0, 0))) := ⟨kz_⟩
    have n2_ : Aside0 ((((w75.setCell ⟨gb213, 0, none⟩ (.int .i64 ((rd_T73 ((rd_T54 l0_1 x54_3).f1) x62_4).f0))).setCell ⟨gb213, 1, none⟩ (.int .i64 ((rd_T73 ((rd_T54 l0_1 x54_3).f1) x62_4).f1))).setCell ⟨gb213, 2, none⟩ (.string ((rd_T73 ((rd_T54 l0_1 x54_3).f1) x62_4).f2))).heap[gb213]? = some (.cells #[.int .i64 ((rd_T73 ((rd_T54 l0_1 x54_3).f1) x62_4).f0), .int .i64 ((rd_T73 ((rd_T54 l0_1 x54_3).f1) x62_4).f1), .string ((rd_T73 ((rd_T54 l0_1 x54_3).f1) x62_4).f2)] 73 (0, 0))) := ⟨by (with_reducible repeat (first | refine blk_drewN ?_ _ | refine blk_drew ?_ | refine blk_alloc ?_ _)); refine blk_put (cs := #[.int .i64 ((rd_T73 ((rd_T54 l0_1 x54_3).f1) x62_4).f0), .int .i64 ((rd_T73 ((rd_T54 l0_1 x54_3).f1) x62_4).f1), .string (⟨#[]⟩ : ByteArray)]) ?_ 2 _ rfl; (with_reducible repeat (first | refine blk_drewN ?_ _ | refine blk_drew ?_ | refine blk_alloc ?_ _)); refine blk_put (cs := #[.int .i64 ((rd_T73 ((rd_T54 l0_1 x54_3).f1) x62_4).f0), .int .i64 0, .string (⟨#[]⟩ : ByteArray)]) ?_ 1 _ rfl; (with_reducible repeat (first | refine blk_drewN ?_ _ | refine blk_drew ?_ | refine blk_alloc ?_ _)); refine blk_put (cs := #[.int .i64 0, .int .i64 0, .string (⟨#[]⟩ : ByteArray)]) ?_ 0 _ rfl; exact kb_ BK213.out⟩
    have n3_ : Aside0 (Below w.heap.size w (((w75.setCell ⟨gb213, 0, none⟩ (.int .i64 ((rd_T73 ((rd_T54 l0_1 x54_3).f1) x62_4).f0))).setCell ⟨gb213, 1, none⟩ (.int .i64 ((rd_T73 ((rd_T54 l0_1 x54_3).f1) x62_4).f1))).setCell ⟨gb213, 2, none⟩ (.string ((rd_T73 ((rd_T54 l0_1 x54_3).f1) x62_4).f2)))) := ⟨bl_⟩
    (try clear BK203)
    (try clear BK211)
    (try clear BK213)
    (try clear HB)
    generalize (((w75.setCell ⟨gb213, 0, none⟩ (.int .i64 ((rd_T73 ((rd_T54 l0_1 x54_3).f1) x62_4).f0))).setCell ⟨gb213, 1, none⟩ (.int .i64 ((rd_T73 ((rd_T54 l0_1 x54_3).f1) x62_4).f1))).setCell ⟨gb213, 2, none⟩ (.string ((rd_T73 ((rd_T54 l0_1 x54_3).f1) x62_4).f2))) = w79 at n0_ n1_ n2_ n3_ ⊢
    have BK203 := n0_
    have BK211 := n1_
    have BK213 := n2_
    have HB := n3_
    clear n0_ n1_ n2_ n3_
    replace BK203 := Aside0.mk (blk_drew BK203.out)
    replace BK211 := Aside0.mk (blk_drew BK211.out)
    replace BK213 := Aside0.mk (blk_drew BK213.out)
    replace HB := Aside0.mk (below_drew1 HB.out)
    refine start_ (n := 31) (S := fun w' => w'.cell? ⟨gb213, 0, none⟩ = some (.int .i64 ((rd_T73 ((rd_T54 l0_1 x54_3).f1) x62_4).f0)) ∧ w'.cell? ⟨gb213, 1, none⟩ = some (.int .i64 ((rd_T73 ((rd_T54 l0_1 x54_3).f1) x62_4).f1)) ∧ w'.cell? ⟨gb213, 2, none⟩ = some (.string ((rd_T73 ((rd_T54 l0_1 x54_3).f1) x62_4).f2))) (ds := []) #[false, false, false, false, false, false, false, false, false, false, false, false, false, false, false, false, false, false, false, false, false, false, false, false, false, false, false, false, false, false, false] (by kernel_rfl) rfl rfl ⟨bc_ BK213.out 0, bc_ BK213.out 1, bc_ BK213.out 2⟩ (fun hHeld => ?_); refine with_tabW spec_GoodSynod.tab16 spec_GoodSynod.bits16 (fun HT_ HW_ => ?_)
    generalize w79.drew = w80 at BK203 BK211 BK213 HB hHeld ⊢
    refine pu_ 0 (some 67) (h := ?_)
    refine pu_ 2 (some 69) (h := ?_)
    refine pu_ 3 (some 70) (h := ?_)
    refine tk3_ 1 (some 68) (h := ?_)
    refine on_ 4 (some 71) (h := fun K hK => ?_)
    refine goes_ Try.func39 (by kernel_rfl) rfl #[.int .i64 ((rd_T73 ((rd_T54 l0_1 x54_3).f1) x62_4).f0), .int .i64 0, .int .i64 (wrap64 ((l0_0.length : Int) - 1))] (by rfl) rfl rfl nc_ ?_
    with_reducible refine (spec_l1In.calls ((rd_T73 ((rd_T54 l0_1 x54_3).f1) x62_4).f0) 0 (wrap64 ((l0_0.length : Int) - 1)) true _ A40.out).mono ?_
    rintro e w' ⟨rfl, ⟨nd, rfl⟩⟩
    refine ⟨_, rfl, ?_⟩
    refine hK.out _ _ ⟨bc_ BK213.out 0, bc_ BK213.out 1, bc_ BK213.out 2⟩ (fun hHeld => ?_)
    clear hK K
    refine norm_ nn_ ?_
    refine pu_ 5 (some 72) (h := ?_)
    refine pu_ 6 (some 73) (h := ?_)
    refine pu_ 7 (some 74) (h := ?_)
    refine pu_ 8 (some 75) (h := ?_)
    refine pu_ 9 (some 76) (h := ?_)
    refine px_ 10 (some 77) (h := ?_)
    refine px_ 11 (some 78) (h := ?_)
    refine px_ 12 (some 79) (h := ?_)
    refine px_ 13 (some 80) (h := ?_)
    refine px_ 14 (some 81) (h := ?_)
    refine px_ 15 (some 82) (h := ?_)
    refine px_ 16 (some 83) (h := ?_)
    refine px_ 17 (some 84) (h := ?_)
    refine px_ 18 (some 85) (h := ?_)
    refine px_ 19 (some 86) (h := ?_)
    refine pu_ 20 (some 87) (h := ?_)
    refine pu_ 21 (some 88) (h := ?_)
    refine pu_ 22 (some 89) (h := ?_)
    refine pu_ 23 (some 90) (h := ?_)
    refine pu_ 25 (some 92) (h := ?_)
    refine pu_ 26 (some 93) (h := ?_)
    refine tk3_ 24 (some 91) (h := ?_)
    refine tk3_ 27 (some 94) (h := ?_)
    refine on_ 28 (some 95) (h := fun K hK => ?_)
    refine goes_ Try.func44 (by kernel_rfl) rfl #[.int .i64 ((rd_T73 ((rd_T54 l0_1 x54_3).f1) x62_4).f1), .int .i64 x54_3, .string ((rd_T73 ((rd_T54 l0_1 x54_3).f1) x62_4).f2)] (by rfl) rfl rfl nc_ ?_
    with_reducible refine (spec_l10Old.calls k4 ((rd_T73 ((rd_T54 l0_1 x54_3).f1) x62_4).f1) x54_3 ((rd_T73 ((rd_T54 l0_1 x54_3).f1) x62_4).f2) false _ A67.out).mono ?_
    rintro e w' ⟨rfl, ⟨nd, rfl⟩⟩
    refine ⟨_, rfl, ?_⟩
    refine hK.out _ _ ⟨bc_ BK213.out 0, bc_ BK213.out 1, bc_ BK213.out 2⟩ (fun hHeld => ?_)
    clear hK K
    refine norm_ nn_ ?_
    refine pu_ 29 (some 96) (h := ?_)
    refine pu_ 30 (some 97) (h := ?_)
    refine done_ (done_of HT_.out (by kernel_rfl)) ?_
    try go_wp2
    go_ret
    exact ⟨ng_, bl_⟩
   subst c68
   have H1 : (spec_GoodSynod.l2 k4 (l0_0.length : Int) x54_3 l0_1 (l0_1.length : Int) x54_3 ((rd_T54 l0_1 x54_3).f1) (((rd_T54 l0_1 x54_3).f1).length : Int) (wrap64 (x62_4 + 1)) ((rd_T54 l0_1 x54_3).f0) ((rd_T54 l0_1 x54_3).f1) ((rd_T54 l0_1 x54_3).f2) ((rd_T54 l0_1 x54_3).f3) ((rd_T54 l0_1 x54_3).f4)) = some r := by rw [if_pos rfl] at H; exact H
   clear H
   have H := H1
   clear H1
   have H' := Aside0.mk H
   clear H
   have p212 : 0 ≤ (x62_4 : Int) := of_decide_eq_true (by first | (with_reducible assumption) | assumption)
   have q212 : x62_4 < (((rd_T54 l0_1 x54_3).f1).length : Int) := of_decide_eq_true (by first | (with_reducible assumption) | assumption)
   obtain ⟨ad212, e212, hx212_0, hx212_1, hx212_2⟩ := at_T73 HR210_1.out x62_4 p212 q212
   cases e212
   replace hx212_0 := (HB.out.cell (World.block_lt_of_cell? w _ hx212_0)).trans hx212_0
   replace hx212_1 := (HB.out.cell (World.block_lt_of_cell? w _ hx212_1)).trans hx212_1
   replace hx212_2 := (HB.out.cell (World.block_lt_of_cell? w _ hx212_2)).trans hx212_2
   replace p212 := eq_true p212
   replace q212 := eq_true q212
   try go_wp2_with (first | ((with_reducible refine gate_dst (N := 9) rfl ?_); (try (refine gate_guard (by rfl) ?_; dsimp only)); refine box_event rfl (N := 9) rfl (cs := #[.int .i64 0, .int .i64 0, .string (⟨#[]⟩ : ByteArray)]) (t := 73) gs_ ?_; intro gb213 hg w69 hbox hb; have BK213 := Aside0.mk (hbox); have GW213 := Aside0.mk ((by rw [hg]; exact bz_ : w.heap.size ≤ gb213)); have GE213 := GW213; replace HB := Aside0.mk (below_step bl_ hb); have NB203_213 := nl_ hg BK203; have NB213_203 := nm_ hg BK203; replace BK203 := bb_ BK203 hb; have NB211_213 := nl_ hg BK211; have NB213_211 := nm_ hg BK211; replace BK211 := bb_ BK211 hb; clear hb hbox hg; have hnb70 := NB213_203.out; have hnc70 := NB203_213.out; have hnb71 := NB213_211.out; have hnc71 := NB211_213.out; have hcz72_0 : w69.cell? ⟨gb213, 0, none⟩ = some (.int .i64 0) := bc_ BK213.out 0; have hcz72_1 : w69.cell? ⟨gb213, 1, none⟩ = some (.int .i64 0) := bc_ BK213.out 1; have hcz72_2 : w69.cell? ⟨gb213, 2, none⟩ = some (.string (⟨#[]⟩ : ByteArray)) := bc_ BK213.out 2; have hfz72_0 := blk_frozen BK213.out 0; have hfz72_1 := blk_frozen BK213.out 1; have hfz72_2 := blk_frozen BK213.out 2))
   have n0_ : Aside0 ((((w69.setCell ⟨gb213, 0, none⟩ (.int .i64 ((rd_T73 ((rd_T54 l0_1 x54_3).f1) x62_4).f0))).setCell ⟨gb213, 1, none⟩ (.int .i64 ((rd_T73 ((rd_T54 l0_1 x54_3).f1) x62_4).f1))).setCell ⟨gb213, 2, none⟩ (.string ((rd_T73 ((rd_T54 l0_1 x54_3).f1) x62_4).f2))).heap[gb203]? = some (.cells #[.slice A0_0 l0_0.length c0_0, .slice (some ad210) l0_1.length c0_1] 33 (0, 0))) := ⟨kz_⟩
   have n1_ : Aside0 ((((w69.setCell ⟨gb213, 0, none⟩ (.int .i64 ((rd_T73 ((rd_T54 l0_1 x54_3).f1) x62_4).f0))).setCell ⟨gb213, 1, none⟩ (.int .i64 ((rd_T73 ((rd_T54 l0_1 x54_3).f1) x62_4).f1))).setCell ⟨gb213, 2, none⟩ (.string ((rd_T73 ((rd_T54 l0_1 x54_3).f1) x62_4).f2))).heap[gb211]? = some (.cells #[.string ((rd_T54 l0_1 x54_3).f0), .slice (some ad212) ((rd_T54 l0_1 x54_3).f1).length c210_1, .bool ((rd_T54 l0_1 x54_3).f2), .string ((rd_T54 l0_1 x54_3).f3), .slice A210_4 ((rd_T54 l0_1 x54_3).f4).length c210_4] 54 (0, 0))) := ⟨kz_⟩
   have n2_ : Aside0 ((((w69.setCell ⟨gb213, 0, none⟩ (.int .i64 ((rd_T73 ((rd_T54 l0_1 x54_3).f1) x62_4).f0))).setCell ⟨gb213, 1, none⟩ (.int .i64 ((rd_T73 ((rd_T54 l0_1 x54_3).f1) x62_4).f1))).setCell ⟨gb213, 2, none⟩ (.string ((rd_T73 ((rd_T54 l0_1 x54_3).f1) x62_4).f2))).heap[gb213]? = some (.cells #[.int .i64 ((rd_T73 ((rd_T54 l0_1 x54_3).f1) x62_4).f0), .int .i64 ((rd_T73 ((rd_T54 l0_1 x54_3).f1) x62_4).f1), .string ((rd_T73 ((rd_T54 l0_1 x54_3).f1) x62_4).f2)] 73 (0, 0))) := ⟨by (with_reducible repeat (first | refine blk_drewN ?_ _ | refine blk_drew ?_ | refine blk_alloc ?_ _)); refine blk_put (cs := #[.int .i64 ((rd_T73 ((rd_T54 l0_1 x54_3).f1) x62_4).f0), .int .i64 ((rd_T73 ((rd_T54 l0_1 x54_3).f1) x62_4).f1), .string (⟨#[]⟩ : ByteArray)]) ?_ 2 _ rfl; (with_reducible repeat (first | refine blk_drewN ?_ _ | refine blk_drew ?_ | refine blk_alloc ?_ _)); refine blk_put (cs := #[.int .i64 ((rd_T73 ((rd_T54 l0_1 x54_3).f1) x62_4).f0), .int .i64 0, .string (⟨#[]⟩ : ByteArray)]) ?_ 1 _ rfl; (with_reducible repeat (first | refine blk_drewN ?_ _ | refine blk_drew ?_ | refine blk_alloc ?_ _)); refine blk_put (cs := #[.int .i64 0, .int .i64 0, .string (⟨#[]⟩ : ByteArray)]) ?_ 0 _ rfl; exact kb_ BK213.out⟩
   have n3_ : Aside0 (Below w.heap.size w (((w69.setCell ⟨gb213, 0, none⟩ (.int .i64 ((rd_T73 ((rd_T54 l0_1 x54_3).f1) x62_4).f0))).setCell ⟨gb213, 1, none⟩ (.int .i64 ((rd_T73 ((rd_T54 l0_1 x54_3).f1) x62_4).f1))).setCell ⟨gb213, 2, none⟩ (.string ((rd_T73 ((rd_T54 l0_1 x54_3).f1) x62_4).f2)))) := ⟨bl_⟩
   (try clear BK203)
   (try clear BK211)
   (try clear BK213)
   (try clear HB)
   generalize (((w69.setCell ⟨gb213, 0, none⟩ (.int .i64 ((rd_T73 ((rd_T54 l0_1 x54_3).f1) x62_4).f0))).setCell ⟨gb213, 1, none⟩ (.int .i64 ((rd_T73 ((rd_T54 l0_1 x54_3).f1) x62_4).f1))).setCell ⟨gb213, 2, none⟩ (.string ((rd_T73 ((rd_T54 l0_1 x54_3).f1) x62_4).f2))) = w73 at n0_ n1_ n2_ n3_ ⊢
   have BK203 := n0_
   have BK211 := n1_
   have BK213 := n2_
   have HB := n3_
   clear n0_ n1_ n2_ n3_
   replace BK203 := Aside0.mk (blk_drew BK203.out)
   replace BK211 := Aside0.mk (blk_drew BK211.out)
   replace BK213 := Aside0.mk (blk_drew BK213.out)
   replace HB := Aside0.mk (below_drew1 HB.out)
   refine start_ (n := 31) (S := fun w' => w'.cell? ⟨gb213, 0, none⟩ = some (.int .i64 ((rd_T73 ((rd_T54 l0_1 x54_3).f1) x62_4).f0)) ∧ w'.cell? ⟨gb213, 1, none⟩ = some (.int .i64 ((rd_T73 ((rd_T54 l0_1 x54_3).f1) x62_4).f1)) ∧ w'.cell? ⟨gb213, 2, none⟩ = some (.string ((rd_T73 ((rd_T54 l0_1 x54_3).f1) x62_4).f2))) (ds := []) #[false, false, false, false, false, false, false, false, false, false, false, false, false, false, false, false, false, false, false, false, false, false, false, false, false, false, false, false, false, false, false] (by kernel_rfl) rfl rfl ⟨bc_ BK213.out 0, bc_ BK213.out 1, bc_ BK213.out 2⟩ (fun hHeld => ?_); refine with_tabW spec_GoodSynod.tab16 spec_GoodSynod.bits16 (fun HT_ HW_ => ?_)
   generalize w73.drew = w74 at BK203 BK211 BK213 HB hHeld ⊢
   refine pu_ 0 (some 67) (h := ?_)
   refine pu_ 2 (some 69) (h := ?_)
   refine pu_ 3 (some 70) (h := ?_)
   refine tk3_ 1 (some 68) (h := ?_)
   refine on_ 4 (some 71) (h := fun K hK => ?_)
   refine goes_ Try.func39 (by kernel_rfl) rfl #[.int .i64 ((rd_T73 ((rd_T54 l0_1 x54_3).f1) x62_4).f0), .int .i64 0, .int .i64 (wrap64 ((l0_0.length : Int) - 1))] (by rfl) rfl rfl nc_ ?_
   with_reducible refine (spec_l1In.calls ((rd_T73 ((rd_T54 l0_1 x54_3).f1) x62_4).f0) 0 (wrap64 ((l0_0.length : Int) - 1)) true _ A40.out).mono ?_
   rintro e w' ⟨rfl, ⟨nd, rfl⟩⟩
   refine ⟨_, rfl, ?_⟩
   refine hK.out _ _ ⟨bc_ BK213.out 0, bc_ BK213.out 1, bc_ BK213.out 2⟩ (fun hHeld => ?_)
   clear hK K
   refine norm_ nn_ ?_
   refine pu_ 5 (some 72) (h := ?_)
   refine pu_ 6 (some 73) (h := ?_)
   refine pu_ 7 (some 74) (h := ?_)
   refine pu_ 8 (some 75) (h := ?_)
   refine pu_ 9 (some 76) (h := ?_)
   refine px_ 10 (some 77) (h := ?_)
   refine px_ 11 (some 78) (h := ?_)
   refine px_ 12 (some 79) (h := ?_)
   refine px_ 13 (some 80) (h := ?_)
   refine px_ 14 (some 81) (h := ?_)
   refine px_ 15 (some 82) (h := ?_)
   refine px_ 16 (some 83) (h := ?_)
   refine px_ 17 (some 84) (h := ?_)
   refine px_ 18 (some 85) (h := ?_)
   refine px_ 19 (some 86) (h := ?_)
   refine pu_ 20 (some 87) (h := ?_)
   refine pu_ 21 (some 88) (h := ?_)
   refine pu_ 22 (some 89) (h := ?_)
   refine pu_ 23 (some 90) (h := ?_)
   refine pu_ 25 (some 92) (h := ?_)
   refine pu_ 26 (some 93) (h := ?_)
   refine tk3_ 24 (some 91) (h := ?_)
   refine tk3_ 27 (some 94) (h := ?_)
   refine on_ 28 (some 95) (h := fun K hK => ?_)
   refine goes_ Try.func44 (by kernel_rfl) rfl #[.int .i64 ((rd_T73 ((rd_T54 l0_1 x54_3).f1) x62_4).f1), .int .i64 x54_3, .string ((rd_T73 ((rd_T54 l0_1 x54_3).f1) x62_4).f2)] (by rfl) rfl rfl nc_ ?_
   with_reducible refine (spec_l10Old.calls k4 ((rd_T73 ((rd_T54 l0_1 x54_3).f1) x62_4).f1) x54_3 ((rd_T73 ((rd_T54 l0_1 x54_3).f1) x62_4).f2) true _ A67.out).mono ?_
   rintro e w' ⟨rfl, ⟨nd, rfl⟩⟩
   refine ⟨_, rfl, ?_⟩
   refine hK.out _ _ ⟨bc_ BK213.out 0, bc_ BK213.out 1, bc_ BK213.out 2⟩ (fun hHeld => ?_)
   clear hK K
   refine norm_ nn_ ?_
   refine pu_ 29 (some 96) (h := ?_)
   refine pu_ 30 (some 97) (h := ?_)
   refine done_ (done_of HT_.out (by kernel_rfl)) ?_
   try go_wp2
   go_roundg k4
   case measure => have := HJ1.out; have := HK2.out; have := HK3.out; have := HK4.out; omega
   case rel => exact ⟨(wrap64 (x62_4 + 1)), (by first | rfl | (simp; done) | (simp [*]; done)), H', ⟨by have := HJ1.out; have := HK2.out; have := HK3.out; have := HK4.out; omega⟩, ⟨by exact kb_ BK203.out⟩, ⟨by exact kb_ BK211.out⟩, ⟨bl_⟩⟩
  rw [if_pos c42] at H
  have c42b0 : decide (0 < x62_4) = true := decide_eq_true c42
  clear c42
  obtain ⟨ji43, hji43⟩ : ∃ j_ : Int, (wrap64 (x62_4 - 1)) = j_ := ⟨_, rfl⟩
  replace H : (if 0 ≤ (ji43) then (if (ji43) < (((rd_T54 l0_1 x54_3).f1).length : Int) then (if ((rd_T73 ((rd_T54 l0_1 x54_3).f1) (ji43)).f0) ≥ ((rd_T73 ((rd_T54 l0_1 x54_3).f1) x62_4).f0) then (some false) else ((spec_l10Old.f k4 ((rd_T73 ((rd_T54 l0_1 x54_3).f1) x62_4).f1) x54_3 ((rd_T73 ((rd_T54 l0_1 x54_3).f1) x62_4).f2)).bind fun t216 => (if t216 = true then (spec_GoodSynod.l2 k4 (l0_0.length : Int) x54_3 l0_1 (l0_1.length : Int) x54_3 ((rd_T54 l0_1 x54_3).f1) (((rd_T54 l0_1 x54_3).f1).length : Int) (wrap64 (x62_4 + 1)) ((rd_T54 l0_1 x54_3).f0) ((rd_T54 l0_1 x54_3).f1) ((rd_T54 l0_1 x54_3).f2) ((rd_T54 l0_1 x54_3).f3) ((rd_T54 l0_1 x54_3).f4)) else (some false)))) else (none)) else (none)) = some r := by first | (rw [hji43] at H; exact H) | (simp only [hji43] at H ⊢; exact H)
  (try rw [hji43] at A40)
  have hji43w : (IntKind.i64.wrap (x62_4 - 1)) = ji43 := (i64_w _).trans hji43
  by_cases c44 : 0 ≤ (ji43)
  rotate_left
  ·rw [if_neg c44] at H
   exact absurd H (by simp)
  rw [if_pos c44] at H
  have c44b0 : decide (0 ≤ (ji43)) = true := decide_eq_true c44
  clear c44
  by_cases c45 : (ji43) < (((rd_T54 l0_1 x54_3).f1).length : Int)
  rotate_left
  ·rw [if_neg c45] at H
   exact absurd H (by simp)
  rw [if_pos c45] at H
  have c45b0 : decide ((ji43) < (((rd_T54 l0_1 x54_3).f1).length : Int)) = true := decide_eq_true c45
  clear c45
  by_cases c46 : ((rd_T73 ((rd_T54 l0_1 x54_3).f1) (ji43)).f0) ≥ ((rd_T73 ((rd_T54 l0_1 x54_3).f1) x62_4).f0)
  ·as_aux_lemma =>
   rw [if_pos c46] at H
   have c46b0 : decide (((rd_T73 ((rd_T54 l0_1 x54_3).f1) x62_4).f0) ≤ ((rd_T73 ((rd_T54 l0_1 x54_3).f1) (ji43)).f0)) = true := decide_eq_true c46
   clear c46
   obtain rfl := Option.some.inj H
   have p212 : 0 ≤ (x62_4 : Int) := of_decide_eq_true (by first | (with_reducible assumption) | assumption)
   have q212 : x62_4 < (((rd_T54 l0_1 x54_3).f1).length : Int) := of_decide_eq_true (by first | (with_reducible assumption) | assumption)
   obtain ⟨ad212, e212, hx212_0, hx212_1, hx212_2⟩ := at_T73 HR210_1.out x62_4 p212 q212
   cases e212
   replace hx212_0 := (HB.out.cell (World.block_lt_of_cell? w _ hx212_0)).trans hx212_0
   replace hx212_1 := (HB.out.cell (World.block_lt_of_cell? w _ hx212_1)).trans hx212_1
   replace hx212_2 := (HB.out.cell (World.block_lt_of_cell? w _ hx212_2)).trans hx212_2
   replace p212 := eq_true p212
   replace q212 := eq_true q212
   try go_wp2_with (first | ((with_reducible refine gate_dst (N := 9) rfl ?_); (try (refine gate_guard (by rfl) ?_; dsimp only)); refine box_event rfl (N := 9) rfl (cs := #[.int .i64 0, .int .i64 0, .string (⟨#[]⟩ : ByteArray)]) (t := 73) gs_ ?_; intro gb213 hg w47 hbox hb; have BK213 := Aside0.mk (hbox); have GW213 := Aside0.mk ((by rw [hg]; exact bz_ : w.heap.size ≤ gb213)); have GE213 := GW213; replace HB := Aside0.mk (below_step bl_ hb); have NB203_213 := nl_ hg BK203; have NB213_203 := nm_ hg BK203; replace BK203 := bb_ BK203 hb; have NB211_213 := nl_ hg BK211; have NB213_211 := nm_ hg BK211; replace BK211 := bb_ BK211 hb; clear hb hbox hg; have hnb48 := NB213_203.out; have hnc48 := NB203_213.out; have hnb49 := NB213_211.out; have hnc49 := NB211_213.out; have hcz50_0 : w47.cell? ⟨gb213, 0, none⟩ = some (.int .i64 0) := bc_ BK213.out 0; have hcz50_1 : w47.cell? ⟨gb213, 1, none⟩ = some (.int .i64 0) := bc_ BK213.out 1; have hcz50_2 : w47.cell? ⟨gb213, 2, none⟩ = some (.string (⟨#[]⟩ : ByteArray)) := bc_ BK213.out 2; have hfz50_0 := blk_frozen BK213.out 0; have hfz50_1 := blk_frozen BK213.out 1; have hfz50_2 := blk_frozen BK213.out 2))
   have n0_ : Aside0 ((((w47.setCell ⟨gb213, 0, none⟩ (.int .i64 ((rd_T73 ((rd_T54 l0_1 x54_3).f1) x62_4).f0))).setCell ⟨gb213, 1, none⟩ (.int .i64 ((rd_T73 ((rd_T54 l0_1 x54_3).f1) x62_4).f1))).setCell ⟨gb213, 2, none⟩ (.string ((rd_T73 ((rd_T54 l0_1 x54_3).f1) x62_4).f2))).heap[gb203]? = some (.cells #[.slice A0_0 l0_0.length c0_0, .slice (some ad210) l0_1.length c0_1] 33 (0, 0))) := ⟨kz_⟩
   have n1_ : Aside0 ((((w47.setCell ⟨gb213, 0, none⟩ (.int .i64 ((rd_T73 ((rd_T54 l0_1 x54_3).f1) x62_4).f0))).setCell ⟨gb213, 1, none⟩ (.int .i64 ((rd_T73 ((rd_T54 l0_1 x54_3).f1) x62_4).f1))).setCell ⟨gb213, 2, none⟩ (.string ((rd_T73 ((rd_T54 l0_1 x54_3).f1) x62_4).f2))).heap[gb211]? = some (.cells #[.string ((rd_T54 l0_1 x54_3).f0), .slice (some ad212) ((rd_T54 l0_1 x54_3).f1).length c210_1, .bool ((rd_T54 l0_1 x54_3).f2), .string ((rd_T54 l0_1 x54_3).f3), .slice A210_4 ((rd_T54 l0_1 x54_3).f4).length c210_4] 54 (0, 0))) := ⟨kz_⟩
   have n2_ : Aside0 ((((w47.setCell ⟨gb213, 0, none⟩ (.int .i64 ((rd_T73 ((rd_T54 l0_1 x54_3).f1) x62_4).f0))).setCell ⟨gb213, 1, none⟩ (.int .i64 ((rd_T73 ((rd_T54 l0_1 x54_3).f1) x62_4).f1))).setCell ⟨gb213, 2, none⟩ (.string ((rd_T73 ((rd_T54 l0_1 x54_3).f1) x62_4).f2))).heap[gb213]? = some (.cells #[.int .i64 ((rd_T73 ((rd_T54 l0_1 x54_3).f1) x62_4).f0), .int .i64 ((rd_T73 ((rd_T54 l0_1 x54_3).f1) x62_4).f1), .string ((rd_T73 ((rd_T54 l0_1 x54_3).f1) x62_4).f2)] 73 (0, 0))) := ⟨by (with_reducible repeat (first | refine blk_drewN ?_ _ | refine blk_drew ?_ | refine blk_alloc ?_ _)); refine blk_put (cs := #[.int .i64 ((rd_T73 ((rd_T54 l0_1 x54_3).f1) x62_4).f0), .int .i64 ((rd_T73 ((rd_T54 l0_1 x54_3).f1) x62_4).f1), .string (⟨#[]⟩ : ByteArray)]) ?_ 2 _ rfl; (with_reducible repeat (first | refine blk_drewN ?_ _ | refine blk_drew ?_ | refine blk_alloc ?_ _)); refine blk_put (cs := #[.int .i64 ((rd_T73 ((rd_T54 l0_1 x54_3).f1) x62_4).f0), .int .i64 0, .string (⟨#[]⟩ : ByteArray)]) ?_ 1 _ rfl; (with_reducible repeat (first | refine blk_drewN ?_ _ | refine blk_drew ?_ | refine blk_alloc ?_ _)); refine blk_put (cs := #[.int .i64 0, .int .i64 0, .string (⟨#[]⟩ : ByteArray)]) ?_ 0 _ rfl; exact kb_ BK213.out⟩
   have n3_ : Aside0 (Below w.heap.size w (((w47.setCell ⟨gb213, 0, none⟩ (.int .i64 ((rd_T73 ((rd_T54 l0_1 x54_3).f1) x62_4).f0))).setCell ⟨gb213, 1, none⟩ (.int .i64 ((rd_T73 ((rd_T54 l0_1 x54_3).f1) x62_4).f1))).setCell ⟨gb213, 2, none⟩ (.string ((rd_T73 ((rd_T54 l0_1 x54_3).f1) x62_4).f2)))) := ⟨bl_⟩
   (try clear BK203)
   (try clear BK211)
   (try clear BK213)
   (try clear HB)
   generalize (((w47.setCell ⟨gb213, 0, none⟩ (.int .i64 ((rd_T73 ((rd_T54 l0_1 x54_3).f1) x62_4).f0))).setCell ⟨gb213, 1, none⟩ (.int .i64 ((rd_T73 ((rd_T54 l0_1 x54_3).f1) x62_4).f1))).setCell ⟨gb213, 2, none⟩ (.string ((rd_T73 ((rd_T54 l0_1 x54_3).f1) x62_4).f2))) = w51 at n0_ n1_ n2_ n3_ ⊢
   have BK203 := n0_
   have BK211 := n1_
   have BK213 := n2_
   have HB := n3_
   clear n0_ n1_ n2_ n3_
   replace BK203 := Aside0.mk (blk_drew BK203.out)
   replace BK211 := Aside0.mk (blk_drew BK211.out)
   replace BK213 := Aside0.mk (blk_drew BK213.out)
   replace HB := Aside0.mk (below_drew1 HB.out)
   have p215 : 0 ≤ ((ji43) : Int) := of_decide_eq_true (by first | (with_reducible assumption) | assumption)
   have q215 : (ji43) < (((rd_T54 l0_1 x54_3).f1).length : Int) := of_decide_eq_true (by first | (with_reducible assumption) | assumption)
   obtain ⟨ad215, e215, hx215_0, hx215_1, hx215_2⟩ := at_T73 HR210_1.out (ji43) p215 q215
   have hw215_2 := hx215_2
   have hw215_1 := hx215_1
   have hw215_0 := hx215_0
   obtain rfl : ad212 = ad215 := (by injection e215)
   replace hx215_0 := (HB.out.cell (World.block_lt_of_cell? w _ hx215_0)).trans hx215_0
   replace hx215_1 := (HB.out.cell (World.block_lt_of_cell? w _ hx215_1)).trans hx215_1
   replace hx215_2 := (HB.out.cell (World.block_lt_of_cell? w _ hx215_2)).trans hx215_2
   replace p215 := eq_true p215
   replace q215 := eq_true q215
   refine start_ (n := 31) (S := fun w' => w'.cell? ⟨gb213, 0, none⟩ = some (.int .i64 ((rd_T73 ((rd_T54 l0_1 x54_3).f1) x62_4).f0)) ∧ w'.cell? ⟨gb213, 1, none⟩ = some (.int .i64 ((rd_T73 ((rd_T54 l0_1 x54_3).f1) x62_4).f1)) ∧ w'.cell? ⟨gb213, 2, none⟩ = some (.string ((rd_T73 ((rd_T54 l0_1 x54_3).f1) x62_4).f2)) ∧ w'.cell? ⟨gb211, 0, none⟩ = some (.string ((rd_T54 l0_1 x54_3).f0)) ∧ w'.cell? ⟨gb211, 1, none⟩ = some (.slice (some ad212) ((rd_T54 l0_1 x54_3).f1).length c210_1) ∧ w'.cell? ⟨gb211, 2, none⟩ = some (.bool ((rd_T54 l0_1 x54_3).f2)) ∧ w'.cell? ⟨gb211, 3, none⟩ = some (.string ((rd_T54 l0_1 x54_3).f3)) ∧ w'.cell? ⟨gb211, 4, none⟩ = some (.slice A210_4 ((rd_T54 l0_1 x54_3).f4).length c210_4) ∧ w'.cell? (ad212.add (((ji43)).toNat * 3)) = some (.int .i64 ((rd_T73 ((rd_T54 l0_1 x54_3).f1) (ji43)).f0)) ∧ w'.cell? ⟨(ad212.add (((ji43)).toNat * 3)).block, (ad212.add (((ji43)).toNat * 3)).off + 1, none⟩ = some (.int .i64 ((rd_T73 ((rd_T54 l0_1 x54_3).f1) (ji43)).f1)) ∧ w'.cell? ⟨(ad212.add (((ji43)).toNat * 3)).block, (ad212.add (((ji43)).toNat * 3)).off + 2, none⟩ = some (.string ((rd_T73 ((rd_T54 l0_1 x54_3).f1) (ji43)).f2))) (ds := []) #[false, false, false, false, false, false, false, false, false, false, false, false, false, false, false, false, false, false, false, false, false, false, false, false, false, false, false, false, false, false, false] (by kernel_rfl) rfl rfl ⟨bc_ BK213.out 0, bc_ BK213.out 1, bc_ BK213.out 2, bc_ BK211.out 0, bc_ BK211.out 1, bc_ BK211.out 2, bc_ BK211.out 3, bc_ BK211.out 4, ((HB.out.cell (World.block_lt_of_cell? w _ hw215_0)).trans hw215_0), ((HB.out.cell (World.block_lt_of_cell? w _ hw215_1)).trans hw215_1), ((HB.out.cell (World.block_lt_of_cell? w _ hw215_2)).trans hw215_2)⟩ (fun hHeld => ?_); refine with_tabW spec_GoodSynod.tab16 spec_GoodSynod.bits16 (fun HT_ HW_ => ?_)
   generalize w51.drew = w52 at BK203 BK211 BK213 HB hx215_0 hx215_1 hx215_2 hHeld ⊢
   refine pu_ 0 (some 67) (h := ?_)
   refine pu_ 2 (some 69) (h := ?_)
   refine pu_ 3 (some 70) (h := ?_)
   refine tk11_ 1 (some 68) (h := ?_)
   refine on_ 4 (some 71) (h := fun K hK => ?_)
   refine goes_ Try.func39 (by kernel_rfl) rfl #[.int .i64 ((rd_T73 ((rd_T54 l0_1 x54_3).f1) x62_4).f0), .int .i64 0, .int .i64 (wrap64 ((l0_0.length : Int) - 1))] (by rfl) rfl rfl nc_ ?_
   with_reducible refine (spec_l1In.calls ((rd_T73 ((rd_T54 l0_1 x54_3).f1) x62_4).f0) 0 (wrap64 ((l0_0.length : Int) - 1)) true _ A40.out).mono ?_
   rintro e w' ⟨rfl, ⟨nd, rfl⟩⟩
   refine ⟨_, rfl, ?_⟩
   refine hK.out _ _ ⟨bc_ BK213.out 0, bc_ BK213.out 1, bc_ BK213.out 2, bc_ BK211.out 0, bc_ BK211.out 1, bc_ BK211.out 2, bc_ BK211.out 3, bc_ BK211.out 4, ((HB.out.cell (World.block_lt_of_cell? w _ hw215_0)).trans hw215_0), ((HB.out.cell (World.block_lt_of_cell? w _ hw215_1)).trans hw215_1), ((HB.out.cell (World.block_lt_of_cell? w _ hw215_2)).trans hw215_2)⟩ (fun hHeld => ?_)
   clear hK K
   refine norm_ nn_ ?_
   refine pu_ 5 (some 72) (h := ?_)
   refine pu_ 6 (some 73) (h := ?_)
   refine pu_ 7 (some 74) (h := ?_)
   refine pu_ 8 (some 75) (h := ?_)
   refine pu_ 9 (some 76) (h := ?_)
   refine pu_ 10 (some 77) (h := ?_)
   refine pu_ 12 (some 79) (h := ?_)
   refine pu_ 13 (some 80) (h := ?_)
   refine pu_ 17 (some 84) (h := ?_)
   refine tk11_ 11 (some 78) (h := ?_)
   refine pu_ 14 (some 81) (h := ?_)
   refine pu_ 15 (some 82) (h := ?_)
   refine tk11_ 16 (some 83) (h := ?_)
   refine tk11_ 18 (some 85) (h := ?_)
   refine pu_ 19 (some 86) (h := ?_)
   refine pu_ 20 (some 87) (h := ?_)
   refine pu_ 21 (some 88) (h := ?_)
   refine pu_ 22 (some 89) (h := ?_)
   refine px_ 23 (some 90) (h := ?_)
   refine px_ 24 (some 91) (h := ?_)
   refine px_ 25 (some 92) (h := ?_)
   refine px_ 26 (some 93) (h := ?_)
   refine px_ 27 (some 94) (h := ?_)
   refine px_ 28 (some 95) (h := ?_)
   refine px_ 29 (some 96) (h := ?_)
   refine pu_ 30 (some 97) (h := ?_)
   refine done_ (done_of HT_.out (by kernel_rfl)) ?_
   try go_wp2
   go_ret
   exact ⟨by first | rfl | (simp [errW_none, errW_some] <;> rfl) | (simp only [← hji43]; first | rfl | (simp [errW_none, errW_some] <;> rfl)) | (simp [*, errW_none, errW_some] <;> rfl), bl_⟩
  rw [if_neg c46] at H
  have c46b0 : decide (((rd_T73 ((rd_T54 l0_1 x54_3).f1) x62_4).f0) ≤ ((rd_T73 ((rd_T54 l0_1 x54_3).f1) (ji43)).f0)) = false := decide_eq_false c46
  clear c46
  replace H := Option.bind_eq_some_iff.mp H
  obtain ⟨t216, A530, H⟩ := H
  replace H : (if t216 = true then (spec_GoodSynod.l2 k4 (l0_0.length : Int) x54_3 l0_1 (l0_1.length : Int) x54_3 ((rd_T54 l0_1 x54_3).f1) (((rd_T54 l0_1 x54_3).f1).length : Int) (wrap64 (x62_4 + 1)) ((rd_T54 l0_1 x54_3).f0) ((rd_T54 l0_1 x54_3).f1) ((rd_T54 l0_1 x54_3).f2) ((rd_T54 l0_1 x54_3).f3) ((rd_T54 l0_1 x54_3).f4)) else (some false)) = some r := H
  have A53 := Aside0.mk A530
  clear A530
  by_cases c54 : t216 = true
  rotate_left
  ·as_aux_lemma =>
   replace c54 := Bool.eq_false_iff.mpr c54
   subst c54
   have H1 : (some false) = some r := by rw [if_neg (show ¬ (false = true) by decide)] at H; exact H
   clear H
   have H := H1
   clear H1
   obtain rfl := Option.some.inj H
   have p212 : 0 ≤ (x62_4 : Int) := of_decide_eq_true (by first | (with_reducible assumption) | assumption)
   have q212 : x62_4 < (((rd_T54 l0_1 x54_3).f1).length : Int) := of_decide_eq_true (by first | (with_reducible assumption) | assumption)
   obtain ⟨ad212, e212, hx212_0, hx212_1, hx212_2⟩ := at_T73 HR210_1.out x62_4 p212 q212
   cases e212
   replace hx212_0 := (HB.out.cell (World.block_lt_of_cell? w _ hx212_0)).trans hx212_0
   replace hx212_1 := (HB.out.cell (World.block_lt_of_cell? w _ hx212_1)).trans hx212_1
   replace hx212_2 := (HB.out.cell (World.block_lt_of_cell? w _ hx212_2)).trans hx212_2
   replace p212 := eq_true p212
   replace q212 := eq_true q212
   try go_wp2_with (first | ((with_reducible refine gate_dst (N := 9) rfl ?_); (try (refine gate_guard (by rfl) ?_; dsimp only)); refine box_event rfl (N := 9) rfl (cs := #[.int .i64 0, .int .i64 0, .string (⟨#[]⟩ : ByteArray)]) (t := 73) gs_ ?_; intro gb213 hg w61 hbox hb; have BK213 := Aside0.mk (hbox); have GW213 := Aside0.mk ((by rw [hg]; exact bz_ : w.heap.size ≤ gb213)); have GE213 := GW213; replace HB := Aside0.mk (below_step bl_ hb); have NB203_213 := nl_ hg BK203; have NB213_203 := nm_ hg BK203; replace BK203 := bb_ BK203 hb; have NB211_213 := nl_ hg BK211; have NB213_211 := nm_ hg BK211; replace BK211 := bb_ BK211 hb; clear hb hbox hg; have hnb62 := NB213_203.out; have hnc62 := NB203_213.out; have hnb63 := NB213_211.out; have hnc63 := NB211_213.out; have hcz64_0 : w61.cell? ⟨gb213, 0, none⟩ = some (.int .i64 0) := bc_ BK213.out 0; have hcz64_1 : w61.cell? ⟨gb213, 1, none⟩ = some (.int .i64 0) := bc_ BK213.out 1; have hcz64_2 : w61.cell? ⟨gb213, 2, none⟩ = some (.string (⟨#[]⟩ : ByteArray)) := bc_ BK213.out 2; have hfz64_0 := blk_frozen BK213.out 0; have hfz64_1 := blk_frozen BK213.out 1; have hfz64_2 := blk_frozen BK213.out 2))
   have n0_ : Aside0 ((((w61.setCell ⟨gb213, 0, none⟩ (.int .i64 ((rd_T73 ((rd_T54 l0_1 x54_3).f1) x62_4).f0))).setCell ⟨gb213, 1, none⟩ (.int .i64 ((rd_T73 ((rd_T54 l0_1 x54_3).f1) x62_4).f1))).setCell ⟨gb213, 2, none⟩ (.string ((rd_T73 ((rd_T54 l0_1 x54_3).f1) x62_4).f2))).heap[gb203]? = some (.cells #[.slice A0_0 l0_0.length c0_0, .slice (some ad210) l0_1.length c0_1] 33 (0, 0))) := ⟨kz_⟩
   have n1_ : Aside0 ((((w61.setCell ⟨gb213, 0, none⟩ (.int .i64 ((rd_T73 ((rd_T54 l0_1 x54_3).f1) x62_4).f0))).setCell ⟨gb213, 1, none⟩ (.int .i64 ((rd_T73 ((rd_T54 l0_1 x54_3).f1) x62_4).f1))).setCell ⟨gb213, 2, none⟩ (.string ((rd_T73 ((rd_T54 l0_1 x54_3).f1) x62_4).f2))).heap[gb211]? = some (.cells #[.string ((rd_T54 l0_1 x54_3).f0), .slice (some ad212) ((rd_T54 l0_1 x54_3).f1).length c210_1, .bool ((rd_T54 l0_1 x54_3).f2), .string ((rd_T54 l0_1 x54_3).f3), .slice A210_4 ((rd_T54 l0_1 x54_3).f4).length c210_4] 54 (0, 0))) := ⟨kz_⟩
   have n2_ : Aside0 ((((w61.setCell ⟨gb213, 0, none⟩ (.int .i64 ((rd_T73 ((rd_T54 l0_1 x54_3).f1) x62_4).f0))).setCell ⟨gb213, 1, none⟩ (.int .i64 ((rd_T73 ((rd_T54 l0_1 x54_3).f1) x62_4).f1))).setCell ⟨gb213, 2, none⟩ (.string ((rd_T73 ((rd_T54 l0_1 x54_3).f1) x62_4).f2))).heap[gb213]? = some (.cells #[.int .i64 ((rd_T73 ((rd_T54 l0_1 x54_3).f1) x62_4).f0), .int .i64 ((rd_T73 ((rd_T54 l0_1 x54_3).f1) x62_4).f1), .string ((rd_T73 ((rd_T54 l0_1 x54_3).f1) x62_4).f2)] 73 (0, 0))) := ⟨by (with_reducible repeat (first | refine blk_drewN ?_ _ | refine blk_drew ?_ | refine blk_alloc ?_ _)); refine blk_put (cs := #[.int .i64 ((rd_T73 ((rd_T54 l0_1 x54_3).f1) x62_4).f0), .int .i64 ((rd_T73 ((rd_T54 l0_1 x54_3).f1) x62_4).f1), .string (⟨#[]⟩ : ByteArray)]) ?_ 2 _ rfl; (with_reducible repeat (first | refine blk_drewN ?_ _ | refine blk_drew ?_ | refine blk_alloc ?_ _)); refine blk_put (cs := #[.int .i64 ((rd_T73 ((rd_T54 l0_1 x54_3).f1) x62_4).f0), .int .i64 0, .string (⟨#[]⟩ : ByteArray)]) ?_ 1 _ rfl; (with_reducible repeat (first | refine blk_drewN ?_ _ | refine blk_drew ?_ | refine blk_alloc ?_ _)); refine blk_put (cs := #[.int .i64 0, .int .i64 0, .string (⟨#[]⟩ : ByteArray)]) ?_ 0 _ rfl; exact kb_ BK213.out⟩
   have n3_ : Aside0 (Below w.heap.size w (((w61.setCell ⟨gb213, 0, none⟩ (.int .i64 ((rd_T73 ((rd_T54 l0_1 x54_3).f1) x62_4).f0))).setCell ⟨gb213, 1, none⟩ (.int .i64 ((rd_T73 ((rd_T54 l0_1 x54_3).f1) x62_4).f1))).setCell ⟨gb213, 2, none⟩ (.string ((rd_T73 ((rd_T54 l0_1 x54_3).f1) x62_4).f2)))) := ⟨bl_⟩
   (try clear BK203)
   (try clear BK211)
   (try clear BK213)
   (try clear HB)
   generalize (((w61.setCell ⟨gb213, 0, none⟩ (.int .i64 ((rd_T73 ((rd_T54 l0_1 x54_3).f1) x62_4).f0))).setCell ⟨gb213, 1, none⟩ (.int .i64 ((rd_T73 ((rd_T54 l0_1 x54_3).f1) x62_4).f1))).setCell ⟨gb213, 2, none⟩ (.string ((rd_T73 ((rd_T54 l0_1 x54_3).f1) x62_4).f2))) = w65 at n0_ n1_ n2_ n3_ ⊢
   have BK203 := n0_
   have BK211 := n1_
   have BK213 := n2_
   have HB := n3_
   clear n0_ n1_ n2_ n3_
   replace BK203 := Aside0.mk (blk_drew BK203.out)
   replace BK211 := Aside0.mk (blk_drew BK211.out)
   replace BK213 := Aside0.mk (blk_drew BK213.out)
   replace HB := Aside0.mk (below_drew1 HB.out)
   have p215 : 0 ≤ ((ji43) : Int) := of_decide_eq_true (by first | (with_reducible assumption) | assumption)
   have q215 : (ji43) < (((rd_T54 l0_1 x54_3).f1).length : Int) := of_decide_eq_true (by first | (with_reducible assumption) | assumption)
   obtain ⟨ad215, e215, hx215_0, hx215_1, hx215_2⟩ := at_T73 HR210_1.out (ji43) p215 q215
   have hw215_2 := hx215_2
   have hw215_1 := hx215_1
   have hw215_0 := hx215_0
   obtain rfl : ad212 = ad215 := (by injection e215)
   replace hx215_0 := (HB.out.cell (World.block_lt_of_cell? w _ hx215_0)).trans hx215_0
   replace hx215_1 := (HB.out.cell (World.block_lt_of_cell? w _ hx215_1)).trans hx215_1
   replace hx215_2 := (HB.out.cell (World.block_lt_of_cell? w _ hx215_2)).trans hx215_2
   replace p215 := eq_true p215
   replace q215 := eq_true q215
   refine start_ (n := 31) (S := fun w' => w'.cell? ⟨gb213, 0, none⟩ = some (.int .i64 ((rd_T73 ((rd_T54 l0_1 x54_3).f1) x62_4).f0)) ∧ w'.cell? ⟨gb213, 1, none⟩ = some (.int .i64 ((rd_T73 ((rd_T54 l0_1 x54_3).f1) x62_4).f1)) ∧ w'.cell? ⟨gb213, 2, none⟩ = some (.string ((rd_T73 ((rd_T54 l0_1 x54_3).f1) x62_4).f2)) ∧ w'.cell? ⟨gb211, 0, none⟩ = some (.string ((rd_T54 l0_1 x54_3).f0)) ∧ w'.cell? ⟨gb211, 1, none⟩ = some (.slice (some ad212) ((rd_T54 l0_1 x54_3).f1).length c210_1) ∧ w'.cell? ⟨gb211, 2, none⟩ = some (.bool ((rd_T54 l0_1 x54_3).f2)) ∧ w'.cell? ⟨gb211, 3, none⟩ = some (.string ((rd_T54 l0_1 x54_3).f3)) ∧ w'.cell? ⟨gb211, 4, none⟩ = some (.slice A210_4 ((rd_T54 l0_1 x54_3).f4).length c210_4) ∧ w'.cell? (ad212.add (((ji43)).toNat * 3)) = some (.int .i64 ((rd_T73 ((rd_T54 l0_1 x54_3).f1) (ji43)).f0)) ∧ w'.cell? ⟨(ad212.add (((ji43)).toNat * 3)).block, (ad212.add (((ji43)).toNat * 3)).off + 1, none⟩ = some (.int .i64 ((rd_T73 ((rd_T54 l0_1 x54_3).f1) (ji43)).f1)) ∧ w'.cell? ⟨(ad212.add (((ji43)).toNat * 3)).block, (ad212.add (((ji43)).toNat * 3)).off + 2, none⟩ = some (.string ((rd_T73 ((rd_T54 l0_1 x54_3).f1) (ji43)).f2))) (ds := []) #[false, false, false, false, false, false, false, false, false, false, false, false, false, false, false, false, false, false, false, false, false, false, false, false, false, false, false, false, false, false, false] (by kernel_rfl) rfl rfl ⟨bc_ BK213.out 0, bc_ BK213.out 1, bc_ BK213.out 2, bc_ BK211.out 0, bc_ BK211.out 1, bc_ BK211.out 2, bc_ BK211.out 3, bc_ BK211.out 4, ((HB.out.cell (World.block_lt_of_cell? w _ hw215_0)).trans hw215_0), ((HB.out.cell (World.block_lt_of_cell? w _ hw215_1)).trans hw215_1), ((HB.out.cell (World.block_lt_of_cell? w _ hw215_2)).trans hw215_2)⟩ (fun hHeld => ?_); refine with_tabW spec_GoodSynod.tab16 spec_GoodSynod.bits16 (fun HT_ HW_ => ?_)
   generalize w65.drew = w66 at BK203 BK211 BK213 HB hx215_0 hx215_1 hx215_2 hHeld ⊢
   refine pu_ 0 (some 67) (h := ?_)
   refine pu_ 2 (some 69) (h := ?_)
   refine pu_ 3 (some 70) (h := ?_)
   refine tk11_ 1 (some 68) (h := ?_)
   refine on_ 4 (some 71) (h := fun K hK => ?_)
   refine goes_ Try.func39 (by kernel_rfl) rfl #[.int .i64 ((rd_T73 ((rd_T54 l0_1 x54_3).f1) x62_4).f0), .int .i64 0, .int .i64 (wrap64 ((l0_0.length : Int) - 1))] (by rfl) rfl rfl nc_ ?_
   with_reducible refine (spec_l1In.calls ((rd_T73 ((rd_T54 l0_1 x54_3).f1) x62_4).f0) 0 (wrap64 ((l0_0.length : Int) - 1)) true _ A40.out).mono ?_
   rintro e w' ⟨rfl, ⟨nd, rfl⟩⟩
   refine ⟨_, rfl, ?_⟩
   refine hK.out _ _ ⟨bc_ BK213.out 0, bc_ BK213.out 1, bc_ BK213.out 2, bc_ BK211.out 0, bc_ BK211.out 1, bc_ BK211.out 2, bc_ BK211.out 3, bc_ BK211.out 4, ((HB.out.cell (World.block_lt_of_cell? w _ hw215_0)).trans hw215_0), ((HB.out.cell (World.block_lt_of_cell? w _ hw215_1)).trans hw215_1), ((HB.out.cell (World.block_lt_of_cell? w _ hw215_2)).trans hw215_2)⟩ (fun hHeld => ?_)
   clear hK K
   refine norm_ nn_ ?_
   refine pu_ 5 (some 72) (h := ?_)
   refine pu_ 6 (some 73) (h := ?_)
   refine pu_ 7 (some 74) (h := ?_)
   refine pu_ 8 (some 75) (h := ?_)
   refine pu_ 9 (some 76) (h := ?_)
   refine pu_ 10 (some 77) (h := ?_)
   refine pu_ 12 (some 79) (h := ?_)
   refine pu_ 13 (some 80) (h := ?_)
   refine pu_ 17 (some 84) (h := ?_)
   refine tk11_ 11 (some 78) (h := ?_)
   refine pu_ 14 (some 81) (h := ?_)
   refine pu_ 15 (some 82) (h := ?_)
   refine tk11_ 16 (some 83) (h := ?_)
   refine tk11_ 18 (some 85) (h := ?_)
   refine pu_ 19 (some 86) (h := ?_)
   refine pu_ 20 (some 87) (h := ?_)
   refine pu_ 21 (some 88) (h := ?_)
   refine pu_ 22 (some 89) (h := ?_)
   refine pu_ 23 (some 90) (h := ?_)
   refine pu_ 25 (some 92) (h := ?_)
   refine pu_ 26 (some 93) (h := ?_)
   refine tk11_ 24 (some 91) (h := ?_)
   refine tk11_ 27 (some 94) (h := ?_)
   refine on_ 28 (some 95) (h := fun K hK => ?_)
   refine goes_ Try.func44 (by kernel_rfl) rfl #[.int .i64 ((rd_T73 ((rd_T54 l0_1 x54_3).f1) x62_4).f1), .int .i64 x54_3, .string ((rd_T73 ((rd_T54 l0_1 x54_3).f1) x62_4).f2)] (by rfl) rfl rfl nc_ ?_
   with_reducible refine (spec_l10Old.calls k4 ((rd_T73 ((rd_T54 l0_1 x54_3).f1) x62_4).f1) x54_3 ((rd_T73 ((rd_T54 l0_1 x54_3).f1) x62_4).f2) false _ A53.out).mono ?_
   rintro e w' ⟨rfl, ⟨nd, rfl⟩⟩
   refine ⟨_, rfl, ?_⟩
   refine hK.out _ _ ⟨bc_ BK213.out 0, bc_ BK213.out 1, bc_ BK213.out 2, bc_ BK211.out 0, bc_ BK211.out 1, bc_ BK211.out 2, bc_ BK211.out 3, bc_ BK211.out 4, ((HB.out.cell (World.block_lt_of_cell? w _ hw215_0)).trans hw215_0), ((HB.out.cell (World.block_lt_of_cell? w _ hw215_1)).trans hw215_1), ((HB.out.cell (World.block_lt_of_cell? w _ hw215_2)).trans hw215_2)⟩ (fun hHeld => ?_)
   clear hK K
   refine norm_ nn_ ?_
   refine pu_ 29 (some 96) (h := ?_)
   refine pu_ 30 (some 97) (h := ?_)
   refine done_ (done_of HT_.out (by kernel_rfl)) ?_
   try go_wp2
   go_ret
   exact ⟨by first | rfl | (simp [errW_none, errW_some] <;> rfl) | (simp only [← hji43]; first | rfl | (simp [errW_none, errW_some] <;> rfl)) | (simp [*, errW_none, errW_some] <;> rfl), bl_⟩
  subst c54
  have H1 : (spec_GoodSynod.l2 k4 (l0_0.length : Int) x54_3 l0_1 (l0_1.length : Int) x54_3 ((rd_T54 l0_1 x54_3).f1) (((rd_T54 l0_1 x54_3).f1).length : Int) (wrap64 (x62_4 + 1)) ((rd_T54 l0_1 x54_3).f0) ((rd_T54 l0_1 x54_3).f1) ((rd_T54 l0_1 x54_3).f2) ((rd_T54 l0_1 x54_3).f3) ((rd_T54 l0_1 x54_3).f4)) = some r := by rw [if_pos rfl] at H; exact H
  clear H
  have H := H1
  clear H1
  have H' := Aside0.mk H
  clear H
  have p212 : 0 ≤ (x62_4 : Int) := of_decide_eq_true (by first | (with_reducible assumption) | assumption)
  have q212 : x62_4 < (((rd_T54 l0_1 x54_3).f1).length : Int) := of_decide_eq_true (by first | (with_reducible assumption) | assumption)
  obtain ⟨ad212, e212, hx212_0, hx212_1, hx212_2⟩ := at_T73 HR210_1.out x62_4 p212 q212
  cases e212
  replace hx212_0 := (HB.out.cell (World.block_lt_of_cell? w _ hx212_0)).trans hx212_0
  replace hx212_1 := (HB.out.cell (World.block_lt_of_cell? w _ hx212_1)).trans hx212_1
  replace hx212_2 := (HB.out.cell (World.block_lt_of_cell? w _ hx212_2)).trans hx212_2
  replace p212 := eq_true p212
  replace q212 := eq_true q212
  try go_wp2_with (first | ((with_reducible refine gate_dst (N := 9) rfl ?_); (try (refine gate_guard (by rfl) ?_; dsimp only)); refine box_event rfl (N := 9) rfl (cs := #[.int .i64 0, .int .i64 0, .string (⟨#[]⟩ : ByteArray)]) (t := 73) gs_ ?_; intro gb213 hg w55 hbox hb; have BK213 := Aside0.mk (hbox); have GW213 := Aside0.mk ((by rw [hg]; exact bz_ : w.heap.size ≤ gb213)); have GE213 := GW213; replace HB := Aside0.mk (below_step bl_ hb); have NB203_213 := nl_ hg BK203; have NB213_203 := nm_ hg BK203; replace BK203 := bb_ BK203 hb; have NB211_213 := nl_ hg BK211; have NB213_211 := nm_ hg BK211; replace BK211 := bb_ BK211 hb; clear hb hbox hg; have hnb56 := NB213_203.out; have hnc56 := NB203_213.out; have hnb57 := NB213_211.out; have hnc57 := NB211_213.out; have hcz58_0 : w55.cell? ⟨gb213, 0, none⟩ = some (.int .i64 0) := bc_ BK213.out 0; have hcz58_1 : w55.cell? ⟨gb213, 1, none⟩ = some (.int .i64 0) := bc_ BK213.out 1; have hcz58_2 : w55.cell? ⟨gb213, 2, none⟩ = some (.string (⟨#[]⟩ : ByteArray)) := bc_ BK213.out 2; have hfz58_0 := blk_frozen BK213.out 0; have hfz58_1 := blk_frozen BK213.out 1; have hfz58_2 := blk_frozen BK213.out 2))
  have n0_ : Aside0 ((((w55.setCell ⟨gb213, 0, none⟩ (.int .i64 ((rd_T73 ((rd_T54 l0_1 x54_3).f1) x62_4).f0))).setCell ⟨gb213, 1, none⟩ (.int .i64 ((rd_T73 ((rd_T54 l0_1 x54_3).f1) x62_4).f1))).setCell ⟨gb213, 2, none⟩ (.string ((rd_T73 ((rd_T54 l0_1 x54_3).f1) x62_4).f2))).heap[gb203]? = some (.cells #[.slice A0_0 l0_0.length c0_0, .slice (some ad210) l0_1.length c0_1] 33 (0, 0))) := ⟨kz_⟩
  have n1_ : Aside0 ((((w55.setCell ⟨gb213, 0, none⟩ (.int .i64 ((rd_T73 ((rd_T54 l0_1 x54_3).f1) x62_4).f0))).setCell ⟨gb213, 1, none⟩ (.int .i64 ((rd_T73 ((rd_T54 l0_1 x54_3).f1) x62_4).f1))).setCell ⟨gb213, 2, none⟩ (.string ((rd_T73 ((rd_T54 l0_1 x54_3).f1) x62_4).f2))).heap[gb211]? = some (.cells #[.string ((rd_T54 l0_1 x54_3).f0), .slice (some ad212) ((rd_T54 l0_1 x54_3).f1).length c210_1, .bool ((rd_T54 l0_1 x54_3).f2), .string ((rd_T54 l0_1 x54_3).f3), .slice A210_4 ((rd_T54 l0_1 x54_3).f4).length c210_4] 54 (0, 0))) := ⟨kz_⟩
  have n2_ : Aside0 ((((w55.setCell ⟨gb213, 0, none⟩ (.int .i64 ((rd_T73 ((rd_T54 l0_1 x54_3).f1) x62_4).f0))).setCell ⟨gb213, 1, none⟩ (.int .i64 ((rd_T73 ((rd_T54 l0_1 x54_3).f1) x62_4).f1))).setCell ⟨gb213, 2, none⟩ (.string ((rd_T73 ((rd_T54 l0_1 x54_3).f1) x62_4).f2))).heap[gb213]? = some (.cells #[.int .i64 ((rd_T73 ((rd_T54 l0_1 x54_3).f1) x62_4).f0), .int .i64 ((rd_T73 ((rd_T54 l0_1 x54_3).f1) x62_4).f1), .string ((rd_T73 ((rd_T54 l0_1 x54_3).f1) x62_4).f2)] 73 (0, 0))) := ⟨by (with_reducible repeat (first | refine blk_drewN ?_ _ | refine blk_drew ?_ | refine blk_alloc ?_ _)); refine blk_put (cs := #[.int .i64 ((rd_T73 ((rd_T54 l0_1 x54_3).f1) x62_4).f0), .int .i64 ((rd_T73 ((rd_T54 l0_1 x54_3).f1) x62_4).f1), .string (⟨#[]⟩ : ByteArray)]) ?_ 2 _ rfl; (with_reducible repeat (first | refine blk_drewN ?_ _ | refine blk_drew ?_ | refine blk_alloc ?_ _)); refine blk_put (cs := #[.int .i64 ((rd_T73 ((rd_T54 l0_1 x54_3).f1) x62_4).f0), .int .i64 0, .string (⟨#[]⟩ : ByteArray)]) ?_ 1 _ rfl; (with_reducible repeat (first | refine blk_drewN ?_ _ | refine blk_drew ?_ | refine blk_alloc ?_ _)); refine blk_put (cs := #[.int .i64 0, .int .i64 0, .string (⟨#[]⟩ : ByteArray)]) ?_ 0 _ rfl; exact kb_ BK213.out⟩
  have n3_ : Aside0 (Below w.heap.size w (((w55.setCell ⟨gb213, 0, none⟩ (.int .i64 ((rd_T73 ((rd_T54 l0_1 x54_3).f1) x62_4).f0))).setCell ⟨gb213, 1, none⟩ (.int .i64 ((rd_T73 ((rd_T54 l0_1 x54_3).f1) x62_4).f1))).setCell ⟨gb213, 2, none⟩ (.string ((rd_T73 ((rd_T54 l0_1 x54_3).f1) x62_4).f2)))) := ⟨bl_⟩
  (try clear BK203)
  (try clear BK211)
  (try clear BK213)
  (try clear HB)
  generalize (((w55.setCell ⟨gb213, 0, none⟩ (.int .i64 ((rd_T73 ((rd_T54 l0_1 x54_3).f1) x62_4).f0))).setCell ⟨gb213, 1, none⟩ (.int .i64 ((rd_T73 ((rd_T54 l0_1 x54_3).f1) x62_4).f1))).setCell ⟨gb213, 2, none⟩ (.string ((rd_T73 ((rd_T54 l0_1 x54_3).f1) x62_4).f2))) = w59 at n0_ n1_ n2_ n3_ ⊢
  have BK203 := n0_
  have BK211 := n1_
  have BK213 := n2_
  have HB := n3_
  clear n0_ n1_ n2_ n3_
  replace BK203 := Aside0.mk (blk_drew BK203.out)
  replace BK211 := Aside0.mk (blk_drew BK211.out)
  replace BK213 := Aside0.mk (blk_drew BK213.out)
  replace HB := Aside0.mk (below_drew1 HB.out)
  have p215 : 0 ≤ ((ji43) : Int) := of_decide_eq_true (by first | (with_reducible assumption) | assumption)
  have q215 : (ji43) < (((rd_T54 l0_1 x54_3).f1).length : Int) := of_decide_eq_true (by first | (with_reducible assumption) | assumption)
  obtain ⟨ad215, e215, hx215_0, hx215_1, hx215_2⟩ := at_T73 HR210_1.out (ji43) p215 q215
  have hw215_2 := hx215_2
  have hw215_1 := hx215_1
  have hw215_0 := hx215_0
  obtain rfl : ad212 = ad215 := (by injection e215)
  replace hx215_0 := (HB.out.cell (World.block_lt_of_cell? w _ hx215_0)).trans hx215_0
  replace hx215_1 := (HB.out.cell (World.block_lt_of_cell? w _ hx215_1)).trans hx215_1
  replace hx215_2 := (HB.out.cell (World.block_lt_of_cell? w _ hx215_2)).trans hx215_2
  replace p215 := eq_true p215
  replace q215 := eq_true q215
  refine start_ (n := 31) (S := fun w' => w'.cell? ⟨gb213, 0, none⟩ = some (.int .i64 ((rd_T73 ((rd_T54 l0_1 x54_3).f1) x62_4).f0)) ∧ w'.cell? ⟨gb213, 1, none⟩ = some (.int .i64 ((rd_T73 ((rd_T54 l0_1 x54_3).f1) x62_4).f1)) ∧ w'.cell? ⟨gb213, 2, none⟩ = some (.string ((rd_T73 ((rd_T54 l0_1 x54_3).f1) x62_4).f2)) ∧ w'.cell? ⟨gb211, 0, none⟩ = some (.string ((rd_T54 l0_1 x54_3).f0)) ∧ w'.cell? ⟨gb211, 1, none⟩ = some (.slice (some ad212) ((rd_T54 l0_1 x54_3).f1).length c210_1) ∧ w'.cell? ⟨gb211, 2, none⟩ = some (.bool ((rd_T54 l0_1 x54_3).f2)) ∧ w'.cell? ⟨gb211, 3, none⟩ = some (.string ((rd_T54 l0_1 x54_3).f3)) ∧ w'.cell? ⟨gb211, 4, none⟩ = some (.slice A210_4 ((rd_T54 l0_1 x54_3).f4).length c210_4) ∧ w'.cell? (ad212.add (((ji43)).toNat * 3)) = some (.int .i64 ((rd_T73 ((rd_T54 l0_1 x54_3).f1) (ji43)).f0)) ∧ w'.cell? ⟨(ad212.add (((ji43)).toNat * 3)).block, (ad212.add (((ji43)).toNat * 3)).off + 1, none⟩ = some (.int .i64 ((rd_T73 ((rd_T54 l0_1 x54_3).f1) (ji43)).f1)) ∧ w'.cell? ⟨(ad212.add (((ji43)).toNat * 3)).block, (ad212.add (((ji43)).toNat * 3)).off + 2, none⟩ = some (.string ((rd_T73 ((rd_T54 l0_1 x54_3).f1) (ji43)).f2))) (ds := []) #[false, false, false, false, false, false, false, false, false, false, false, false, false, false, false, false, false, false, false, false, false, false, false, false, false, false, false, false, false, false, false] (by kernel_rfl) rfl rfl ⟨bc_ BK213.out 0, bc_ BK213.out 1, bc_ BK213.out 2, bc_ BK211.out 0, bc_ BK211.out 1, bc_ BK211.out 2, bc_ BK211.out 3, bc_ BK211.out 4, ((HB.out.cell (World.block_lt_of_cell? w _ hw215_0)).trans hw215_0), ((HB.out.cell (World.block_lt_of_cell? w _ hw215_1)).trans hw215_1), ((HB.out.cell (World.block_lt_of_cell? w _ hw215_2)).trans hw215_2)⟩ (fun hHeld => ?_); refine with_tabW spec_GoodSynod.tab16 spec_GoodSynod.bits16 (fun HT_ HW_ => ?_)
  generalize w59.drew = w60 at BK203 BK211 BK213 HB hx215_0 hx215_1 hx215_2 hHeld ⊢
  refine pu_ 0 (some 67) (h := ?_)
  refine pu_ 2 (some 69) (h := ?_)
  refine pu_ 3 (some 70) (h := ?_)
  refine tk11_ 1 (some 68) (h := ?_)
  refine on_ 4 (some 71) (h := fun K hK => ?_)
  refine goes_ Try.func39 (by kernel_rfl) rfl #[.int .i64 ((rd_T73 ((rd_T54 l0_1 x54_3).f1) x62_4).f0), .int .i64 0, .int .i64 (wrap64 ((l0_0.length : Int) - 1))] (by rfl) rfl rfl nc_ ?_
  with_reducible refine (spec_l1In.calls ((rd_T73 ((rd_T54 l0_1 x54_3).f1) x62_4).f0) 0 (wrap64 ((l0_0.length : Int) - 1)) true _ A40.out).mono ?_
  rintro e w' ⟨rfl, ⟨nd, rfl⟩⟩
  refine ⟨_, rfl, ?_⟩
  refine hK.out _ _ ⟨bc_ BK213.out 0, bc_ BK213.out 1, bc_ BK213.out 2, bc_ BK211.out 0, bc_ BK211.out 1, bc_ BK211.out 2, bc_ BK211.out 3, bc_ BK211.out 4, ((HB.out.cell (World.block_lt_of_cell? w _ hw215_0)).trans hw215_0), ((HB.out.cell (World.block_lt_of_cell? w _ hw215_1)).trans hw215_1), ((HB.out.cell (World.block_lt_of_cell? w _ hw215_2)).trans hw215_2)⟩ (fun hHeld => ?_)
  clear hK K
  refine norm_ nn_ ?_
  refine pu_ 5 (some 72) (h := ?_)
  refine pu_ 6 (some 73) (h := ?_)
  refine pu_ 7 (some 74) (h := ?_)
  refine pu_ 8 (some 75) (h := ?_)
  refine pu_ 9 (some 76) (h := ?_)
  refine pu_ 10 (some 77) (h := ?_)
  refine pu_ 12 (some 79) (h := ?_)
  refine pu_ 13 (some 80) (h := ?_)
  refine pu_ 17 (some 84) (h := ?_)
  refine tk11_ 11 (some 78) (h := ?_)
  refine pu_ 14 (some 81) (h := ?_)
  refine pu_ 15 (some 82) (h := ?_)
  refine tk11_ 16 (some 83) (h := ?_)
  refine tk11_ 18 (some 85) (h := ?_)
  refine pu_ 19 (some 86) (h := ?_)
  refine pu_ 20 (some 87) (h := ?_)
  refine pu_ 21 (some 88) (h := ?_)
  refine pu_ 22 (some 89) (h := ?_)
  refine pu_ 23 (some 90) (h := ?_)
  refine pu_ 25 (some 92) (h := ?_)
  refine pu_ 26 (some 93) (h := ?_)
  refine tk11_ 24 (some 91) (h := ?_)
  refine tk11_ 27 (some 94) (h := ?_)
  refine on_ 28 (some 95) (h := fun K hK => ?_)
  refine goes_ Try.func44 (by kernel_rfl) rfl #[.int .i64 ((rd_T73 ((rd_T54 l0_1 x54_3).f1) x62_4).f1), .int .i64 x54_3, .string ((rd_T73 ((rd_T54 l0_1 x54_3).f1) x62_4).f2)] (by rfl) rfl rfl nc_ ?_
  with_reducible refine (spec_l10Old.calls k4 ((rd_T73 ((rd_T54 l0_1 x54_3).f1) x62_4).f1) x54_3 ((rd_T73 ((rd_T54 l0_1 x54_3).f1) x62_4).f2) true _ A53.out).mono ?_
  rintro e w' ⟨rfl, ⟨nd, rfl⟩⟩
  refine ⟨_, rfl, ?_⟩
  refine hK.out _ _ ⟨bc_ BK213.out 0, bc_ BK213.out 1, bc_ BK213.out 2, bc_ BK211.out 0, bc_ BK211.out 1, bc_ BK211.out 2, bc_ BK211.out 3, bc_ BK211.out 4, ((HB.out.cell (World.block_lt_of_cell? w _ hw215_0)).trans hw215_0), ((HB.out.cell (World.block_lt_of_cell? w _ hw215_1)).trans hw215_1), ((HB.out.cell (World.block_lt_of_cell? w _ hw215_2)).trans hw215_2)⟩ (fun hHeld => ?_)
  clear hK K
  refine norm_ nn_ ?_
  refine pu_ 29 (some 96) (h := ?_)
  refine pu_ 30 (some 97) (h := ?_)
  refine done_ (done_of HT_.out (by kernel_rfl)) ?_
  try go_wp2
  go_roundg k4
  case measure => have := HJ1.out; have := HK2.out; have := HK3.out; have := HK4.out; omega
  case rel => exact ⟨(wrap64 (x62_4 + 1)), (by first | rfl | (simp; done) | (simp [*]; done)), H', ⟨by have := HJ1.out; have := HK2.out; have := HK3.out; have := HK4.out; omega⟩, ⟨by exact kb_ BK203.out⟩, ⟨by exact kb_ BK211.out⟩, ⟨bl_⟩⟩
 rw [if_neg c37] at H
 have c37b0 : decide (x62_4 < (((rd_T54 l0_1 x54_3).f1).length : Int)) = false := decide_eq_false c37
 clear c37
 have H' := Aside0.mk H
 clear H
 have hnb87 := NB211_203.out
 have hnc87 := NB203_211.out
 have hcz88_0 : wr.cell? ⟨gb211, 0, none⟩ = some (.string ((rd_T54 l0_1 x54_3).f0)) := bc_ BK211.out 0
 have hcz88_1 : wr.cell? ⟨gb211, 1, none⟩ = some (.slice A210_1 ((rd_T54 l0_1 x54_3).f1).length c210_1) := bc_ BK211.out 1
 have hcz88_2 : wr.cell? ⟨gb211, 2, none⟩ = some (.bool ((rd_T54 l0_1 x54_3).f2)) := bc_ BK211.out 2
 have hcz88_3 : wr.cell? ⟨gb211, 3, none⟩ = some (.string ((rd_T54 l0_1 x54_3).f3)) := bc_ BK211.out 3
 have hcz88_4 : wr.cell? ⟨gb211, 4, none⟩ = some (.slice A210_4 ((rd_T54 l0_1 x54_3).f4).length c210_4) := bc_ BK211.out 4
 have hfz88_0 := blk_frozen BK211.out 0
 have hfz88_1 := blk_frozen BK211.out 1
 have hfz88_2 := blk_frozen BK211.out 2
 have hfz88_3 := blk_frozen BK211.out 3
 have hfz88_4 := blk_frozen BK211.out 4
 go_wp2
 go_loopg [102] k4 (fun kq v102 w' => ∃ (x102_5 : Int), v102 = .int .i64 x102_5 ∧ Aside0 (spec_GoodSynod.l3 kq (l0_0.length : Int) l0_1 (l0_1.length : Int) x54_3 ((rd_T54 l0_1 x54_3).f4) (((rd_T54 l0_1 x54_3).f4).length : Int) x102_5 ((rd_T54 l0_1 x54_3).f0) ((rd_T54 l0_1 x54_3).f1) ((rd_T54 l0_1 x54_3).f2) ((rd_T54 l0_1 x54_3).f3) ((rd_T54 l0_1 x54_3).f4) = some r) ∧ Aside0 (kq ≤ k4) ∧ Aside0 (w'.heap[gb203]? = some (.cells #[(.slice A0_0 l0_0.length c0_0), (.slice (some ad210) l0_1.length c0_1)] 33 (0, 0))) ∧ Aside0 (w'.heap[gb211]? = some (.cells #[.string ((rd_T54 l0_1 x54_3).f0), (.slice A210_1 ((rd_T54 l0_1 x54_3).f1).length c210_1), .bool ((rd_T54 l0_1 x54_3).f2), .string ((rd_T54 l0_1 x54_3).f3), (.slice A210_4 ((rd_T54 l0_1 x54_3).f4).length c210_4)] 54 (0, 0))) ∧ Aside0 (Below w.heap.size w w'))
 case atStart => exact ⟨(0), (by first | rfl | (simp; done) | (simp [*]; done)), H', ⟨Nat.le_refl _⟩, ⟨by exact kb_ BK203.out⟩, ⟨by exact kb_ BK211.out⟩, ⟨bl_⟩⟩
 clear H'
 try clear c2
 try clear p2
 try clear q2
 try clear hx2
 try clear c3
 try clear c4
 try clear c6
 try clear p6
 try clear c7
 try clear c8
 try clear c21
 try clear p21
 try clear q21
 try clear hx21
 try clear c37
 try clear c37b0
 try clear c38
 try clear c39
 try clear c41
 try clear c44
 try clear p64
 try clear c68
 try clear c76
 try clear c77
 try clear c82
 try clear c83
 try clear c87
 try clear hcz78_0
 try clear hcz78_1
 try clear hcz78_2
 try clear hcz84_0
 try clear hcz84_1
 try clear hcz84_2
 try clear hcz88_0
 try clear hcz88_1
 try clear hcz88_2
 try clear hcz88_3
 try clear hcz88_4
 try clear hfz78_0
 try clear hfz78_1
 try clear hfz78_2
 try clear hfz84_0
 try clear hfz84_1
 try clear hfz84_2
 try clear hfz88_0
 try clear hfz88_1
 try clear hfz88_2
 try clear hfz88_3
 try clear hfz88_4
 try clear hx212_0
 try clear hx212_1
 try clear hx212_2
 try clear p212
 try clear q212
 obtain ⟨x102_5, rfl, HA, HK5, BK203, BK211, HB⟩ := hrel
 cases gk with
 | zero => exact absurd HA.out (by simp [spec_GoodSynod.l3])
 | succ k5 => ?_
 have H := HA.out
 clear HA
 simp only [spec_GoodSynod.l3] at H
 as_aux_lemma =>
 by_cases c89 : x102_5 < (((rd_T54 l0_1 x54_3).f4).length : Int)
 ·as_aux_lemma =>
  rw [if_pos c89] at H
  have c89b0 : decide (x102_5 < (((rd_T54 l0_1 x54_3).f4).length : Int)) = true := decide_eq_true c89
  clear c89
  by_cases c90 : 0 ≤ x102_5
  rotate_left
  ·rw [if_neg c90] at H
   exact absurd H (by simp)
  rw [if_pos c90] at H
  have c90b0 : decide (0 ≤ x102_5) = true := decide_eq_true c90
  clear c90
  by_cases c91 : x102_5 < (((rd_T54 l0_1 x54_3).f4).length : Int)
  rotate_left
  ·rw [if_neg c91] at H
   exact absurd H (by simp)
  rw [if_pos c91] at H
  have c91b0 : decide (x102_5 < (((rd_T54 l0_1 x54_3).f4).length : Int)) = true := decide_eq_true c91
  clear c91
  replace H := Option.bind_eq_some_iff.mp H
  obtain ⟨t219, A920, H⟩ := H
  replace H : (if t219 = true then (if x102_5 > 0 then (if 0 ≤ (wrap64 (x102_5 - 1)) then (if (wrap64 (x102_5 - 1)) < (((rd_T54 l0_1 x54_3).f4).length : Int) then (if (rd ((rd_T54 l0_1 x54_3).f4) (wrap64 (x102_5 - 1))) ≥ (rd ((rd_T54 l0_1 x54_3).f4) x102_5) then (some false) else (spec_GoodSynod.l3 k5 (l0_0.length : Int) l0_1 (l0_1.length : Int) x54_3 ((rd_T54 l0_1 x54_3).f4) (((rd_T54 l0_1 x54_3).f4).length : Int) (wrap64 (x102_5 + 1)) ((rd_T54 l0_1 x54_3).f0) ((rd_T54 l0_1 x54_3).f1) ((rd_T54 l0_1 x54_3).f2) ((rd_T54 l0_1 x54_3).f3) ((rd_T54 l0_1 x54_3).f4))) else (none)) else (none)) else (spec_GoodSynod.l3 k5 (l0_0.length : Int) l0_1 (l0_1.length : Int) x54_3 ((rd_T54 l0_1 x54_3).f4) (((rd_T54 l0_1 x54_3).f4).length : Int) (wrap64 (x102_5 + 1)) ((rd_T54 l0_1 x54_3).f0) ((rd_T54 l0_1 x54_3).f1) ((rd_T54 l0_1 x54_3).f2) ((rd_T54 l0_1 x54_3).f3) ((rd_T54 l0_1 x54_3).f4))) else (some false)) = some r := H
  have A92 := Aside0.mk A920
  clear A920
  by_cases c93 : t219 = true
  rotate_left
  ·as_aux_lemma =>
   replace c93 := Bool.eq_false_iff.mpr c93
   subst c93
   have H1 : (some false) = some r := by rw [if_neg (show ¬ (false = true) by decide)] at H; exact H
   clear H
   have H := H1
   clear H1
   obtain rfl := Option.some.inj H
   have p218 : 0 ≤ (x102_5 : Int) := of_decide_eq_true (by first | (with_reducible assumption) | assumption)
   have q218 : x102_5 < (((rd_T54 l0_1 x54_3).f4).length : Int) := of_decide_eq_true (by first | (with_reducible assumption) | assumption)
   obtain ⟨ad218, e218, hx218_0⟩ := Kd.at_int HR210_4.out x102_5 p218 q218
   cases e218
   replace hx218_0 := (HB.out.cell (World.block_lt_of_cell? w _ hx218_0)).trans hx218_0
   replace p218 := eq_true p218
   replace q218 := eq_true q218
   go_wp2_with (first | ((with_reducible refine gate_callee (f := 39) rfl ?_); refine goesL_ (some 110) rfl rfl Try.func39 (by kernel_rfl) rfl #[.int .i64 (rd ((rd_T54 l0_1 x54_3).f4) x102_5), .int .i64 0, .int .i64 (wrap64 ((l0_0.length : Int) - 1))] rfl nc_ ?_; (with_reducible refine (spec_l1In.calls (rd ((rd_T54 l0_1 x54_3).f4) x102_5) 0 (wrap64 ((l0_0.length : Int) - 1)) false _ A92.out).mono ?_); rintro e w' ⟨rfl, ⟨nd, rfl⟩⟩; refine ⟨_, rfl, ?_⟩))
   go_ret
   exact ⟨ng_, bl_⟩
  subst c93
  have H1 : (if x102_5 > 0 then (if 0 ≤ (wrap64 (x102_5 - 1)) then (if (wrap64 (x102_5 - 1)) < (((rd_T54 l0_1 x54_3).f4).length : Int) then (if (rd ((rd_T54 l0_1 x54_3).f4) (wrap64 (x102_5 - 1))) ≥ (rd ((rd_T54 l0_1 x54_3).f4) x102_5) then (some false) else (spec_GoodSynod.l3 k5 (l0_0.length : Int) l0_1 (l0_1.length : Int) x54_3 ((rd_T54 l0_1 x54_3).f4) (((rd_T54 l0_1 x54_3).f4).length : Int) (wrap64 (x102_5 + 1)) ((rd_T54 l0_1 x54_3).f0) ((rd_T54 l0_1 x54_3).f1) ((rd_T54 l0_1 x54_3).f2) ((rd_T54 l0_1 x54_3).f3) ((rd_T54 l0_1 x54_3).f4))) else (none)) else (none)) else (spec_GoodSynod.l3 k5 (l0_0.length : Int) l0_1 (l0_1.length : Int) x54_3 ((rd_T54 l0_1 x54_3).f4) (((rd_T54 l0_1 x54_3).f4).length : Int) (wrap64 (x102_5 + 1)) ((rd_T54 l0_1 x54_3).f0) ((rd_T54 l0_1 x54_3).f1) ((rd_T54 l0_1 x54_3).f2) ((rd_T54 l0_1 x54_3).f3) ((rd_T54 l0_1 x54_3).f4))) = some r := by rw [if_pos rfl] at H; exact H
  clear H
  have H := H1
  clear H1
  by_cases c94 : x102_5 > 0
  rotate_left
  ·as_aux_lemma =>
   rw [if_neg c94] at H
   have c94b0 : decide (0 < x102_5) = false := decide_eq_false c94
   clear c94
   have H' := Aside0.mk H
   clear H
   have p218 : 0 ≤ (x102_5 : Int) := of_decide_eq_true (by first | (with_reducible assumption) | assumption)
   have q218 : x102_5 < (((rd_T54 l0_1 x54_3).f4).length : Int) := of_decide_eq_true (by first | (with_reducible assumption) | assumption)
   obtain ⟨ad218, e218, hx218_0⟩ := Kd.at_int HR210_4.out x102_5 p218 q218
   cases e218
   replace hx218_0 := (HB.out.cell (World.block_lt_of_cell? w _ hx218_0)).trans hx218_0
   replace p218 := eq_true p218
   replace q218 := eq_true q218
   go_wp2_with (first | ((with_reducible refine gate_callee (f := 39) rfl ?_); refine goesL_ (some 110) rfl rfl Try.func39 (by kernel_rfl) rfl #[.int .i64 (rd ((rd_T54 l0_1 x54_3).f4) x102_5), .int .i64 0, .int .i64 (wrap64 ((l0_0.length : Int) - 1))] rfl nc_ ?_; (with_reducible refine (spec_l1In.calls (rd ((rd_T54 l0_1 x54_3).f4) x102_5) 0 (wrap64 ((l0_0.length : Int) - 1)) true _ A92.out).mono ?_); rintro e w' ⟨rfl, ⟨nd, rfl⟩⟩; refine ⟨_, rfl, ?_⟩))
   go_roundg k5
   case measure => have := HJ1.out; have := HK2.out; have := HK3.out; have := HK4.out; have := HK5.out; omega
   case rel => exact ⟨(wrap64 (x102_5 + 1)), (by first | rfl | (simp; done) | (simp [*]; done)), H', ⟨by have := HJ1.out; have := HK2.out; have := HK3.out; have := HK4.out; have := HK5.out; omega⟩, ⟨by exact kb_ BK203.out⟩, ⟨by exact kb_ BK211.out⟩, ⟨bl_⟩⟩
  rw [if_pos c94] at H
  have c94b0 : decide (0 < x102_5) = true := decide_eq_true c94
  clear c94
  obtain ⟨ji95, hji95⟩ : ∃ j_ : Int, (wrap64 (x102_5 - 1)) = j_ := ⟨_, rfl⟩
  replace H : (if 0 ≤ (ji95) then (if (ji95) < (((rd_T54 l0_1 x54_3).f4).length : Int) then (if (rd ((rd_T54 l0_1 x54_3).f4) (ji95)) ≥ (rd ((rd_T54 l0_1 x54_3).f4) x102_5) then (some false) else (spec_GoodSynod.l3 k5 (l0_0.length : Int) l0_1 (l0_1.length : Int) x54_3 ((rd_T54 l0_1 x54_3).f4) (((rd_T54 l0_1 x54_3).f4).length : Int) (wrap64 (x102_5 + 1)) ((rd_T54 l0_1 x54_3).f0) ((rd_T54 l0_1 x54_3).f1) ((rd_T54 l0_1 x54_3).f2) ((rd_T54 l0_1 x54_3).f3) ((rd_T54 l0_1 x54_3).f4))) else (none)) else (none)) = some r := by first | (rw [hji95] at H; exact H) | (simp only [hji95] at H ⊢; exact H)
  (try rw [hji95] at A92)
  have hji95w : (IntKind.i64.wrap (x102_5 - 1)) = ji95 := (i64_w _).trans hji95
  by_cases c96 : 0 ≤ (ji95)
  rotate_left
  ·rw [if_neg c96] at H
   exact absurd H (by simp)
  rw [if_pos c96] at H
  have c96b0 : decide (0 ≤ (ji95)) = true := decide_eq_true c96
  clear c96
  by_cases c97 : (ji95) < (((rd_T54 l0_1 x54_3).f4).length : Int)
  rotate_left
  ·rw [if_neg c97] at H
   exact absurd H (by simp)
  rw [if_pos c97] at H
  have c97b0 : decide ((ji95) < (((rd_T54 l0_1 x54_3).f4).length : Int)) = true := decide_eq_true c97
  clear c97
  by_cases c98 : (rd ((rd_T54 l0_1 x54_3).f4) (ji95)) ≥ (rd ((rd_T54 l0_1 x54_3).f4) x102_5)
  ·as_aux_lemma =>
   rw [if_pos c98] at H
   have c98b0 : decide ((rd ((rd_T54 l0_1 x54_3).f4) x102_5) ≤ (rd ((rd_T54 l0_1 x54_3).f4) (ji95))) = true := decide_eq_true c98
   clear c98
   obtain rfl := Option.some.inj H
   have p218 : 0 ≤ (x102_5 : Int) := of_decide_eq_true (by first | (with_reducible assumption) | assumption)
   have q218 : x102_5 < (((rd_T54 l0_1 x54_3).f4).length : Int) := of_decide_eq_true (by first | (with_reducible assumption) | assumption)
   obtain ⟨ad218, e218, hx218_0⟩ := Kd.at_int HR210_4.out x102_5 p218 q218
   cases e218
   replace hx218_0 := (HB.out.cell (World.block_lt_of_cell? w _ hx218_0)).trans hx218_0
   replace p218 := eq_true p218
   replace q218 := eq_true q218
   go_wp2_with (first | ((with_reducible refine gate_callee (f := 39) rfl ?_); refine goesL_ (some 110) rfl rfl Try.func39 (by kernel_rfl) rfl #[.int .i64 (rd ((rd_T54 l0_1 x54_3).f4) x102_5), .int .i64 0, .int .i64 (wrap64 ((l0_0.length : Int) - 1))] rfl nc_ ?_; (with_reducible refine (spec_l1In.calls (rd ((rd_T54 l0_1 x54_3).f4) x102_5) 0 (wrap64 ((l0_0.length : Int) - 1)) true _ A92.out).mono ?_); rintro e w' ⟨rfl, ⟨nd, rfl⟩⟩; refine ⟨_, rfl, ?_⟩; have hnb99 := NB211_203.out; have hnc99 := NB203_211.out; have hcz100_0 : wr.cell? ⟨gb211, 0, none⟩ = some (.string ((rd_T54 l0_1 x54_3).f0)) := bc_ BK211.out 0; have hcz100_1 : wr.cell? ⟨gb211, 1, none⟩ = some (.slice A210_1 ((rd_T54 l0_1 x54_3).f1).length c210_1) := bc_ BK211.out 1; have hcz100_2 : wr.cell? ⟨gb211, 2, none⟩ = some (.bool ((rd_T54 l0_1 x54_3).f2)) := bc_ BK211.out 2; have hcz100_3 : wr.cell? ⟨gb211, 3, none⟩ = some (.string ((rd_T54 l0_1 x54_3).f3)) := bc_ BK211.out 3; have hcz100_4 : wr.cell? ⟨gb211, 4, none⟩ = some (.slice (some ad218) ((rd_T54 l0_1 x54_3).f4).length c210_4) := bc_ BK211.out 4; have hfz100_0 := blk_frozen BK211.out 0; have hfz100_1 := blk_frozen BK211.out 1; have hfz100_2 := blk_frozen BK211.out 2; have hfz100_3 := blk_frozen BK211.out 3; have hfz100_4 := blk_frozen BK211.out 4; have p220 : 0 ≤ ((ji95) : Int) := of_decide_eq_true (by first | (with_reducible assumption) | assumption); have q220 : (ji95) < (((rd_T54 l0_1 x54_3).f4).length : Int) := of_decide_eq_true (by first | (with_reducible assumption) | assumption); obtain ⟨ad220, e220, hx220_0⟩ := Kd.at_int HR210_4.out (ji95) p220 q220; obtain rfl : ad218 = ad220 := (by injection e220); replace hx220_0 := (HB.out.cell (World.block_lt_of_cell? w _ hx220_0)).trans hx220_0; replace p220 := eq_true p220; replace q220 := eq_true q220))
   go_ret
   exact ⟨by first | rfl | (simp [errW_none, errW_some] <;> rfl) | (simp only [← hji95]; first | rfl | (simp [errW_none, errW_some] <;> rfl)) | (simp [*, errW_none, errW_some] <;> rfl), bl_⟩
  rw [if_neg c98] at H
  have c98b0 : decide ((rd ((rd_T54 l0_1 x54_3).f4) x102_5) ≤ (rd ((rd_T54 l0_1 x54_3).f4) (ji95))) = false := decide_eq_false c98
  clear c98
  have H' := Aside0.mk H
  clear H
  have p218 : 0 ≤ (x102_5 : Int) := of_decide_eq_true (by first | (with_reducible assumption) | assumption)
  have q218 : x102_5 < (((rd_T54 l0_1 x54_3).f4).length : Int) := of_decide_eq_true (by first | (with_reducible assumption) | assumption)
  obtain ⟨ad218, e218, hx218_0⟩ := Kd.at_int HR210_4.out x102_5 p218 q218
  cases e218
  replace hx218_0 := (HB.out.cell (World.block_lt_of_cell? w _ hx218_0)).trans hx218_0
  replace p218 := eq_true p218
  replace q218 := eq_true q218
  go_wp2_with (first | ((with_reducible refine gate_callee (f := 39) rfl ?_); refine goesL_ (some 110) rfl rfl Try.func39 (by kernel_rfl) rfl #[.int .i64 (rd ((rd_T54 l0_1 x54_3).f4) x102_5), .int .i64 0, .int .i64 (wrap64 ((l0_0.length : Int) - 1))] rfl nc_ ?_; (with_reducible refine (spec_l1In.calls (rd ((rd_T54 l0_1 x54_3).f4) x102_5) 0 (wrap64 ((l0_0.length : Int) - 1)) true _ A92.out).mono ?_); rintro e w' ⟨rfl, ⟨nd, rfl⟩⟩; refine ⟨_, rfl, ?_⟩; have hnb101 := NB211_203.out; have hnc101 := NB203_211.out; have hcz102_0 : wr.cell? ⟨gb211, 0, none⟩ = some (.string ((rd_T54 l0_1 x54_3).f0)) := bc_ BK211.out 0; have hcz102_1 : wr.cell? ⟨gb211, 1, none⟩ = some (.slice A210_1 ((rd_T54 l0_1 x54_3).f1).length c210_1) := bc_ BK211.out 1; have hcz102_2 : wr.cell? ⟨gb211, 2, none⟩ = some (.bool ((rd_T54 l0_1 x54_3).f2)) := bc_ BK211.out 2; have hcz102_3 : wr.cell? ⟨gb211, 3, none⟩ = some (.string ((rd_T54 l0_1 x54_3).f3)) := bc_ BK211.out 3; have hcz102_4 : wr.cell? ⟨gb211, 4, none⟩ = some (.slice (some ad218) ((rd_T54 l0_1 x54_3).f4).length c210_4) := bc_ BK211.out 4; have hfz102_0 := blk_frozen BK211.out 0; have hfz102_1 := blk_frozen BK211.out 1; have hfz102_2 := blk_frozen BK211.out 2; have hfz102_3 := blk_frozen BK211.out 3; have hfz102_4 := blk_frozen BK211.out 4; have p220 : 0 ≤ ((ji95) : Int) := of_decide_eq_true (by first | (with_reducible assumption) | assumption); have q220 : (ji95) < (((rd_T54 l0_1 x54_3).f4).length : Int) := of_decide_eq_true (by first | (with_reducible assumption) | assumption); obtain ⟨ad220, e220, hx220_0⟩ := Kd.at_int HR210_4.out (ji95) p220 q220; obtain rfl : ad218 = ad220 := (by injection e220); replace hx220_0 := (HB.out.cell (World.block_lt_of_cell? w _ hx220_0)).trans hx220_0; replace p220 := eq_true p220; replace q220 := eq_true q220))
  go_roundg k5
  case measure => have := HJ1.out; have := HK2.out; have := HK3.out; have := HK4.out; have := HK5.out; omega
  case rel => exact ⟨(wrap64 (x102_5 + 1)), (by first | rfl | (simp; done) | (simp [*]; done)), H', ⟨by have := HJ1.out; have := HK2.out; have := HK3.out; have := HK4.out; have := HK5.out; omega⟩, ⟨by exact kb_ BK203.out⟩, ⟨by exact kb_ BK211.out⟩, ⟨bl_⟩⟩
 rw [if_neg c89] at H
 have c89b0 : decide (x102_5 < (((rd_T54 l0_1 x54_3).f4).length : Int)) = false := decide_eq_false c89
 clear c89
 replace H := Option.bind_eq_some_iff.mp H
 obtain ⟨t221, A1030, H⟩ := H
 replace H : (if t221 = true then (if (((rd_T54 l0_1 x54_3).f2) != (decide ((wrap64 (2 * (((rd_T54 l0_1 x54_3).f1).length : Int))) > (l0_0.length : Int)))) = true then (some false) else (if (wrap64 (2 * (((rd_T54 l0_1 x54_3).f1).length : Int))) > (l0_0.length : Int) then ((spec_l10Value.f k5 ((rd_T54 l0_1 x54_3).f0) ((rd_T54 l0_1 x54_3).f1) ((rd_T54 l0_1 x54_3).f2) ((rd_T54 l0_1 x54_3).f3) ((rd_T54 l0_1 x54_3).f4)).bind fun t222 => (if ((rd_T54 l0_1 x54_3).f3).toList = t222.toList then (if ((wrap64 (2 * (((rd_T54 l0_1 x54_3).f1).length : Int))) > (l0_0.length : Int)) then (spec_GoodSynod.l1 k5 (l0_0.length : Int) l0_1 (l0_1.length : Int) (wrap64 (x54_3 + 1))) else (if ((rd_T54 l0_1 x54_3).f3).toList = ([] : List UInt8) then (if (((rd_T54 l0_1 x54_3).f4).length : Int) > 0 then (some false) else (spec_GoodSynod.l1 k5 (l0_0.length : Int) l0_1 (l0_1.length : Int) (wrap64 (x54_3 + 1)))) else (some false))) else (some false))) else (if ((wrap64 (2 * (((rd_T54 l0_1 x54_3).f1).length : Int))) > (l0_0.length : Int)) then (spec_GoodSynod.l1 k5 (l0_0.length : Int) l0_1 (l0_1.length : Int) (wrap64 (x54_3 + 1))) else (if ((rd_T54 l0_1 x54_3).f3).toList = ([] : List UInt8) then (if (((rd_T54 l0_1 x54_3).f4).length : Int) > 0 then (some false) else (spec_GoodSynod.l1 k5 (l0_0.length : Int) l0_1 (l0_1.length : Int) (wrap64 (x54_3 + 1)))) else (some false))))) else (some false)) = some r := H
 have A103 := Aside0.mk A1030
 clear A1030
 as_aux_lemma =>
 by_cases c104 : t221 = true
 rotate_left
 ·as_aux_lemma =>
  replace c104 := Bool.eq_false_iff.mpr c104
  subst c104
  have H1 : (some false) = some r := by rw [if_neg (show ¬ (false = true) by decide)] at H; exact H
  clear H
  have H := H1
  clear H1
  obtain rfl := Option.some.inj H
  have hnb150 := NB211_203.out
  have hnc150 := NB203_211.out
  have hcz151_0 : wr.cell? ⟨gb211, 0, none⟩ = some (.string ((rd_T54 l0_1 x54_3).f0)) := bc_ BK211.out 0
  have hcz151_1 : wr.cell? ⟨gb211, 1, none⟩ = some (.slice A210_1 ((rd_T54 l0_1 x54_3).f1).length c210_1) := bc_ BK211.out 1
  have hcz151_2 : wr.cell? ⟨gb211, 2, none⟩ = some (.bool ((rd_T54 l0_1 x54_3).f2)) := bc_ BK211.out 2
  have hcz151_3 : wr.cell? ⟨gb211, 3, none⟩ = some (.string ((rd_T54 l0_1 x54_3).f3)) := bc_ BK211.out 3
  have hcz151_4 : wr.cell? ⟨gb211, 4, none⟩ = some (.slice A210_4 ((rd_T54 l0_1 x54_3).f4).length c210_4) := bc_ BK211.out 4
  have hfz151_0 := blk_frozen BK211.out 0
  have hfz151_1 := blk_frozen BK211.out 1
  have hfz151_2 := blk_frozen BK211.out 2
  have hfz151_3 := blk_frozen BK211.out 3
  have hfz151_4 := blk_frozen BK211.out 4
  try go_wp2
  replace BK203 := Aside0.mk (blk_drew BK203.out)
  replace BK211 := Aside0.mk (blk_drew BK211.out)
  replace HB := Aside0.mk (below_drew1 HB.out)
  refine start_ (n := 35) (S := fun w' => w'.cell? ⟨gb211, 0, none⟩ = some (.string ((rd_T54 l0_1 x54_3).f0)) ∧ w'.cell? ⟨gb211, 1, none⟩ = some (.slice A210_1 ((rd_T54 l0_1 x54_3).f1).length c210_1) ∧ w'.cell? ⟨gb211, 2, none⟩ = some (.bool ((rd_T54 l0_1 x54_3).f2)) ∧ w'.cell? ⟨gb211, 3, none⟩ = some (.string ((rd_T54 l0_1 x54_3).f3)) ∧ w'.cell? ⟨gb211, 4, none⟩ = some (.slice A210_4 ((rd_T54 l0_1 x54_3).f4).length c210_4)) (ds := []) #[false, false, false, false, false, false, false, false, false, false, false, false, false, false, false, false, false, false, false, false, false, false, false, false, false, false, false, false, false, false, false, false, false, false, false] (by kernel_rfl) rfl rfl ⟨bc_ BK211.out 0, bc_ BK211.out 1, bc_ BK211.out 2, bc_ BK211.out 3, bc_ BK211.out 4⟩ (fun hHeld => ?_); refine with_tabW spec_GoodSynod.tab26 spec_GoodSynod.bits26 (fun HT_ HW_ => ?_)
  generalize wr.drew = w152 at BK203 BK211 HB hHeld ⊢
  refine pu_ 0 (some 133) (h := ?_)
  refine tk5_ 1 (some 134) (h := ?_)
  refine on_ 2 (some 135) (h := fun K hK => ?_)
  refine goes_ Try.func40 (by kernel_rfl) rfl #[.string ((rd_T54 l0_1 x54_3).f0)] (by rfl) rfl rfl nc_ ?_
  with_reducible refine (spec_l1Value.calls k5 ((rd_T54 l0_1 x54_3).f0) false _ A103.out).mono ?_
  rintro e w' ⟨rfl, ⟨nd, rfl⟩⟩
  refine ⟨_, rfl, ?_⟩
  refine hK.out _ _ ⟨bc_ BK211.out 0, bc_ BK211.out 1, bc_ BK211.out 2, bc_ BK211.out 3, bc_ BK211.out 4⟩ (fun hHeld => ?_)
  clear hK K
  refine norm_ nn_ ?_
  refine pu_ 3 (some 136) (h := ?_)
  refine pu_ 4 (some 137) (h := ?_)
  refine px_ 5 (some 138) (h := ?_)
  refine px_ 6 (some 139) (h := ?_)
  refine px_ 7 (some 140) (h := ?_)
  refine px_ 8 (some 141) (h := ?_)
  refine pu_ 9 (some 142) (h := ?_)
  refine pu_ 10 (some 143) (h := ?_)
  refine px_ 11 (some 144) (h := ?_)
  refine px_ 12 (some 145) (h := ?_)
  refine px_ 13 (some 146) (h := ?_)
  refine px_ 14 (some 147) (h := ?_)
  refine px_ 15 (some 148) (h := ?_)
  refine px_ 16 (some 149) (h := ?_)
  refine px_ 17 (some 150) (h := ?_)
  refine px_ 18 (some 151) (h := ?_)
  refine pu_ 19 (some 152) (h := ?_)
  refine pu_ 20 (some 153) (h := ?_)
  refine px_ 21 (some 154) (h := ?_)
  refine px_ 22 (some 155) (h := ?_)
  refine px_ 23 (some 156) (h := ?_)
  refine px_ 24 (some 157) (h := ?_)
  refine px_ 25 (some 158) (h := ?_)
  refine px_ 26 (some 159) (h := ?_)
  refine px_ 27 (some 160) (h := ?_)
  refine px_ 28 (some 161) (h := ?_)
  refine px_ 29 (some 162) (h := ?_)
  refine px_ 30 (some 163) (h := ?_)
  refine px_ 31 (some 164) (h := ?_)
  refine px_ 32 (some 165) (h := ?_)
  refine px_ 33 (some 166) (h := ?_)
  refine pu_ 34 (some 167) (h := ?_)
  refine done_ (done_of HT_.out (by kernel_rfl)) ?_
  try go_wp2
  go_ret
  exact ⟨ng_, bl_⟩
 subst c104
 have H1 : (if (((rd_T54 l0_1 x54_3).f2) != (decide ((wrap64 (2 * (((rd_T54 l0_1 x54_3).f1).length : Int))) > (l0_0.length : Int)))) = true then (some false) else (if (wrap64 (2 * (((rd_T54 l0_1 x54_3).f1).length : Int))) > (l0_0.length : Int) then ((spec_l10Value.f k5 ((rd_T54 l0_1 x54_3).f0) ((rd_T54 l0_1 x54_3).f1) ((rd_T54 l0_1 x54_3).f2) ((rd_T54 l0_1 x54_3).f3) ((rd_T54 l0_1 x54_3).f4)).bind fun t222 => (if ((rd_T54 l0_1 x54_3).f3).toList = t222.toList then (if ((wrap64 (2 * (((rd_T54 l0_1 x54_3).f1).length : Int))) > (l0_0.length : Int)) then (spec_GoodSynod.l1 k5 (l0_0.length : Int) l0_1 (l0_1.length : Int) (wrap64 (x54_3 + 1))) else (if ((rd_T54 l0_1 x54_3).f3).toList = ([] : List UInt8) then (if (((rd_T54 l0_1 x54_3).f4).length : Int) > 0 then (some false) else (spec_GoodSynod.l1 k5 (l0_0.length : Int) l0_1 (l0_1.length : Int) (wrap64 (x54_3 + 1)))) else (some false))) else (some false))) else (if ((wrap64 (2 * (((rd_T54 l0_1 x54_3).f1).length : Int))) > (l0_0.length : Int)) then (spec_GoodSynod.l1 k5 (l0_0.length : Int) l0_1 (l0_1.length : Int) (wrap64 (x54_3 + 1))) else (if ((rd_T54 l0_1 x54_3).f3).toList = ([] : List UInt8) then (if (((rd_T54 l0_1 x54_3).f4).length : Int) > 0 then (some false) else (spec_GoodSynod.l1 k5 (l0_0.length : Int) l0_1 (l0_1.length : Int) (wrap64 (x54_3 + 1)))) else (some false))))) = some r := by rw [if_pos rfl] at H; exact H
 clear H
 have H := H1
 clear H1
 as_aux_lemma =>
 by_cases c105 : (((rd_T54 l0_1 x54_3).f2) != (decide ((wrap64 (2 * (((rd_T54 l0_1 x54_3).f1).length : Int))) > (l0_0.length : Int)))) = true
 ·as_aux_lemma =>
  rw [if_pos c105] at H
  have c105b0 : (((rd_T54 l0_1 x54_3).f2) != (decide ((wrap64 (2 * (((rd_T54 l0_1 x54_3).f1).length : Int))) > (l0_0.length : Int)))) = true := c105
  (try (have c105b1 : decide (((rd_T54 l0_1 x54_3).f2) = (decide ((wrap64 (2 * (((rd_T54 l0_1 x54_3).f1).length : Int))) > (l0_0.length : Int)))) = false := by simpa using c105))
  (try (have c105b2 : (((rd_T54 l0_1 x54_3).f2) == (decide ((wrap64 (2 * (((rd_T54 l0_1 x54_3).f1).length : Int))) > (l0_0.length : Int)))) = false := by simpa using c105))
  (try (have c105b3 : ¬ (((rd_T54 l0_1 x54_3).f2) = (decide ((wrap64 (2 * (((rd_T54 l0_1 x54_3).f1).length : Int))) > (l0_0.length : Int)))) := by simpa using c105))
  clear c105
  obtain rfl := Option.some.inj H
  have hnb106 := NB211_203.out
  have hnc106 := NB203_211.out
  have hcz107_0 : wr.cell? ⟨gb211, 0, none⟩ = some (.string ((rd_T54 l0_1 x54_3).f0)) := bc_ BK211.out 0
  have hcz107_1 : wr.cell? ⟨gb211, 1, none⟩ = some (.slice A210_1 ((rd_T54 l0_1 x54_3).f1).length c210_1) := bc_ BK211.out 1
  have hcz107_2 : wr.cell? ⟨gb211, 2, none⟩ = some (.bool ((rd_T54 l0_1 x54_3).f2)) := bc_ BK211.out 2
  have hcz107_3 : wr.cell? ⟨gb211, 3, none⟩ = some (.string ((rd_T54 l0_1 x54_3).f3)) := bc_ BK211.out 3
  have hcz107_4 : wr.cell? ⟨gb211, 4, none⟩ = some (.slice A210_4 ((rd_T54 l0_1 x54_3).f4).length c210_4) := bc_ BK211.out 4
  have hfz107_0 := blk_frozen BK211.out 0
  have hfz107_1 := blk_frozen BK211.out 1
  have hfz107_2 := blk_frozen BK211.out 2
  have hfz107_3 := blk_frozen BK211.out 3
  have hfz107_4 := blk_frozen BK211.out 4
  try go_wp2
  replace BK203 := Aside0.mk (blk_drew BK203.out)
  replace BK211 := Aside0.mk (blk_drew BK211.out)
  replace HB := Aside0.mk (below_drew1 HB.out)
  refine start_ (n := 35) (S := fun w' => w'.cell? ⟨gb211, 0, none⟩ = some (.string ((rd_T54 l0_1 x54_3).f0)) ∧ w'.cell? ⟨gb211, 1, none⟩ = some (.slice A210_1 ((rd_T54 l0_1 x54_3).f1).length c210_1) ∧ w'.cell? ⟨gb211, 2, none⟩ = some (.bool ((rd_T54 l0_1 x54_3).f2)) ∧ w'.cell? ⟨gb211, 3, none⟩ = some (.string ((rd_T54 l0_1 x54_3).f3)) ∧ w'.cell? ⟨gb211, 4, none⟩ = some (.slice A210_4 ((rd_T54 l0_1 x54_3).f4).length c210_4)) (ds := []) #[false, false, false, false, false, false, false, false, false, false, false, false, false, false, false, false, false, false, false, false, false, false, false, false, false, false, false, false, false, false, false, false, false, false, false] (by kernel_rfl) rfl rfl ⟨bc_ BK211.out 0, bc_ BK211.out 1, bc_ BK211.out 2, bc_ BK211.out 3, bc_ BK211.out 4⟩ (fun hHeld => ?_); refine with_tabW spec_GoodSynod.tab26 spec_GoodSynod.bits26 (fun HT_ HW_ => ?_)
  generalize wr.drew = w108 at BK203 BK211 HB hHeld ⊢
  refine pu_ 0 (some 133) (h := ?_)
  refine tk5_ 1 (some 134) (h := ?_)
  refine on_ 2 (some 135) (h := fun K hK => ?_)
  refine goes_ Try.func40 (by kernel_rfl) rfl #[.string ((rd_T54 l0_1 x54_3).f0)] (by rfl) rfl rfl nc_ ?_
  with_reducible refine (spec_l1Value.calls k5 ((rd_T54 l0_1 x54_3).f0) true _ A103.out).mono ?_
  rintro e w' ⟨rfl, ⟨nd, rfl⟩⟩
  refine ⟨_, rfl, ?_⟩
  refine hK.out _ _ ⟨bc_ BK211.out 0, bc_ BK211.out 1, bc_ BK211.out 2, bc_ BK211.out 3, bc_ BK211.out 4⟩ (fun hHeld => ?_)
  clear hK K
  refine norm_ nn_ ?_
  refine pu_ 3 (some 136) (h := ?_)
  refine pu_ 4 (some 137) (h := ?_)
  refine pu_ 5 (some 138) (h := ?_)
  refine pu_ 7 (some 140) (h := ?_)
  refine tk5_ 6 (some 139) (h := ?_)
  refine pu_ 8 (some 141) (h := ?_)
  refine pu_ 9 (some 142) (h := ?_)
  refine pu_ 10 (some 143) (h := ?_)
  refine px_ 11 (some 144) (h := ?_)
  refine px_ 12 (some 145) (h := ?_)
  refine px_ 13 (some 146) (h := ?_)
  refine px_ 14 (some 147) (h := ?_)
  refine px_ 15 (some 148) (h := ?_)
  refine px_ 16 (some 149) (h := ?_)
  refine px_ 17 (some 150) (h := ?_)
  refine px_ 18 (some 151) (h := ?_)
  refine pu_ 19 (some 152) (h := ?_)
  refine pu_ 20 (some 153) (h := ?_)
  refine px_ 21 (some 154) (h := ?_)
  refine px_ 22 (some 155) (h := ?_)
  refine px_ 23 (some 156) (h := ?_)
  refine px_ 24 (some 157) (h := ?_)
  refine px_ 25 (some 158) (h := ?_)
  refine px_ 26 (some 159) (h := ?_)
  refine px_ 27 (some 160) (h := ?_)
  refine px_ 28 (some 161) (h := ?_)
  refine px_ 29 (some 162) (h := ?_)
  refine px_ 30 (some 163) (h := ?_)
  refine px_ 31 (some 164) (h := ?_)
  refine px_ 32 (some 165) (h := ?_)
  refine px_ 33 (some 166) (h := ?_)
  refine pu_ 34 (some 167) (h := ?_)
  refine done_ (done_of HT_.out (by kernel_rfl)) ?_
  try go_wp2
  go_ret
  exact ⟨ng_, bl_⟩
 rw [if_neg c105] at H
 have c105b0 : (((rd_T54 l0_1 x54_3).f2) != (decide ((wrap64 (2 * (((rd_T54 l0_1 x54_3).f1).length : Int))) > (l0_0.length : Int)))) = false := by simpa using c105
 (try (have c105b1 : decide (((rd_T54 l0_1 x54_3).f2) = (decide ((wrap64 (2 * (((rd_T54 l0_1 x54_3).f1).length : Int))) > (l0_0.length : Int)))) = true := by simpa using c105))
 (try (have c105b2 : (((rd_T54 l0_1 x54_3).f2) == (decide ((wrap64 (2 * (((rd_T54 l0_1 x54_3).f1).length : Int))) > (l0_0.length : Int)))) = true := by simpa using c105))
 clear c105
 as_aux_lemma =>
 by_cases c109 : (wrap64 (2 * (((rd_T54 l0_1 x54_3).f1).length : Int))) > (l0_0.length : Int)
 rotate_left
 ·as_aux_lemma =>
  rw [if_neg c109] at H
  have c109b0 : decide ((l0_0.length : Int) < (wrap64 (2 * (((rd_T54 l0_1 x54_3).f1).length : Int)))) = false := decide_eq_false c109
  clear c109
  have ef2 : ((rd_T54 l0_1 x54_3).f2) = false := by have q_ := c105b0; rw [show (decide ((wrap64 (2 * (((rd_T54 l0_1 x54_3).f1).length : Int))) > (l0_0.length : Int))) = false from c109b0] at q_; simpa using q_
  rw [ef2] at BK211
  (try rw [ef2] at H)
  by_cases c135 : ((wrap64 (2 * (((rd_T54 l0_1 x54_3).f1).length : Int))) > (l0_0.length : Int))
  · exact absurd c135 (of_decide_eq_false c109b0)
  rw [if_neg c135] at H
  have c135b0 : decide ((l0_0.length : Int) < (wrap64 (2 * (((rd_T54 l0_1 x54_3).f1).length : Int)))) = false := decide_eq_false c135
  clear c135
  by_cases c139 : ((rd_T54 l0_1 x54_3).f3).toList = ([] : List UInt8)
  rotate_left
  ·as_aux_lemma =>
   rw [if_neg c139] at H
   have c139b0 : (((rd_T54 l0_1 x54_3).f3).toList == ([] : List UInt8)) = false := beq_eq_false_iff_ne.mpr c139
   have c139b1 : (((rd_T54 l0_1 x54_3).f3).toList != ([] : List UInt8)) = true := bne_iff_ne.mpr c139
   obtain rfl := Option.some.inj H
   have hnb147 := NB211_203.out
   have hnc147 := NB203_211.out
   have hcz148_0 : wr.cell? ⟨gb211, 0, none⟩ = some (.string ((rd_T54 l0_1 x54_3).f0)) := bc_ BK211.out 0
   have hcz148_1 : wr.cell? ⟨gb211, 1, none⟩ = some (.slice A210_1 ((rd_T54 l0_1 x54_3).f1).length c210_1) := bc_ BK211.out 1
   have hcz148_2 : wr.cell? ⟨gb211, 2, none⟩ = some (.bool false) := bc_ BK211.out 2
   have hcz148_3 : wr.cell? ⟨gb211, 3, none⟩ = some (.string ((rd_T54 l0_1 x54_3).f3)) := bc_ BK211.out 3
   have hcz148_4 : wr.cell? ⟨gb211, 4, none⟩ = some (.slice A210_4 ((rd_T54 l0_1 x54_3).f4).length c210_4) := bc_ BK211.out 4
   have hfz148_0 := blk_frozen BK211.out 0
   have hfz148_1 := blk_frozen BK211.out 1
   have hfz148_2 := blk_frozen BK211.out 2
   have hfz148_3 := blk_frozen BK211.out 3
   have hfz148_4 := blk_frozen BK211.out 4
   try go_wp2
   replace BK203 := Aside0.mk (blk_drew BK203.out)
   replace BK211 := Aside0.mk (blk_drew BK211.out)
   replace HB := Aside0.mk (below_drew1 HB.out)
   refine start_ (n := 35) (S := fun w' => w'.cell? ⟨gb211, 0, none⟩ = some (.string ((rd_T54 l0_1 x54_3).f0)) ∧ w'.cell? ⟨gb211, 1, none⟩ = some (.slice A210_1 ((rd_T54 l0_1 x54_3).f1).length c210_1) ∧ w'.cell? ⟨gb211, 2, none⟩ = some (.bool false) ∧ w'.cell? ⟨gb211, 3, none⟩ = some (.string ((rd_T54 l0_1 x54_3).f3)) ∧ w'.cell? ⟨gb211, 4, none⟩ = some (.slice A210_4 ((rd_T54 l0_1 x54_3).f4).length c210_4)) (ds := []) #[false, false, false, false, false, false, false, false, false, false, false, false, false, false, false, false, false, false, false, false, false, false, false, false, false, false, false, false, false, false, false, false, false, false, false] (by kernel_rfl) rfl rfl ⟨bc_ BK211.out 0, bc_ BK211.out 1, bc_ BK211.out 2, bc_ BK211.out 3, bc_ BK211.out 4⟩ (fun hHeld => ?_); refine with_tabW spec_GoodSynod.tab26 spec_GoodSynod.bits26 (fun HT_ HW_ => ?_)
   generalize wr.drew = w149 at BK203 BK211 HB hHeld ⊢
   refine pu_ 0 (some 133) (h := ?_)
   refine tk5_ 1 (some 134) (h := ?_)
   refine on_ 2 (some 135) (h := fun K hK => ?_)
   refine goes_ Try.func40 (by kernel_rfl) rfl #[.string ((rd_T54 l0_1 x54_3).f0)] (by rfl) rfl rfl nc_ ?_
   with_reducible refine (spec_l1Value.calls k5 ((rd_T54 l0_1 x54_3).f0) true _ A103.out).mono ?_
   rintro e w' ⟨rfl, ⟨nd, rfl⟩⟩
   refine ⟨_, rfl, ?_⟩
   refine hK.out _ _ ⟨bc_ BK211.out 0, bc_ BK211.out 1, bc_ BK211.out 2, bc_ BK211.out 3, bc_ BK211.out 4⟩ (fun hHeld => ?_)
   clear hK K
   refine norm_ nn_ ?_
   refine pu_ 3 (some 136) (h := ?_)
   refine pu_ 4 (some 137) (h := ?_)
   refine pu_ 5 (some 138) (h := ?_)
   refine pu_ 7 (some 140) (h := ?_)
   refine tk5_ 6 (some 139) (h := ?_)
   refine pu_ 8 (some 141) (h := ?_)
   refine pu_ 9 (some 142) (h := ?_)
   refine pu_ 10 (some 143) (h := ?_)
   refine pu_ 11 (some 144) (h := ?_)
   refine pu_ 12 (some 145) (h := ?_)
   refine px_ 13 (some 146) (h := ?_)
   refine px_ 14 (some 147) (h := ?_)
   refine px_ 15 (some 148) (h := ?_)
   refine px_ 16 (some 149) (h := ?_)
   refine px_ 17 (some 150) (h := ?_)
   refine pu_ 18 (some 151) (h := ?_)
   refine pu_ 19 (some 152) (h := ?_)
   refine pu_ 20 (some 153) (h := ?_)
   refine pu_ 21 (some 154) (h := ?_)
   refine pu_ 22 (some 155) (h := ?_)
   refine pu_ 23 (some 156) (h := ?_)
   refine pu_ 24 (some 157) (h := ?_)
   refine tk5_ 25 (some 158) (h := ?_)
   refine pu_ 26 (some 159) (h := ?_)
   refine pu_ 27 (some 160) (h := ?_)
   refine px_ 28 (some 161) (h := ?_)
   refine px_ 29 (some 162) (h := ?_)
   refine px_ 30 (some 163) (h := ?_)
   refine px_ 31 (some 164) (h := ?_)
   refine pu_ 32 (some 165) (h := ?_)
   refine pu_ 33 (some 166) (h := ?_)
   refine pu_ 34 (some 167) (h := ?_)
   refine done_ (done_of HT_.out (by kernel_rfl)) ?_
   try go_wp2
   go_ret
   exact ⟨ng_, bl_⟩
  rw [if_pos c139] at H
  have c139b0 : (((rd_T54 l0_1 x54_3).f3).toList == ([] : List UInt8)) = true := beq_iff_eq.mpr c139
  have c139b1 : (((rd_T54 l0_1 x54_3).f3).toList != ([] : List UInt8)) = false := bne_eq_false_iff_eq.mpr c139
  clear c139
  by_cases c140 : (((rd_T54 l0_1 x54_3).f4).length : Int) > 0
  ·as_aux_lemma =>
   rw [if_pos c140] at H
   have c140b0 : decide (0 < (((rd_T54 l0_1 x54_3).f4).length : Int)) = true := decide_eq_true c140
   have c140b1 : decide (0 < ((rd_T54 l0_1 x54_3).f4).length) = true := decide_eq_true (by omega)
   clear c140
   obtain rfl := Option.some.inj H
   have hnb141 := NB211_203.out
   have hnc141 := NB203_211.out
   have hcz142_0 : wr.cell? ⟨gb211, 0, none⟩ = some (.string ((rd_T54 l0_1 x54_3).f0)) := bc_ BK211.out 0
   have hcz142_1 : wr.cell? ⟨gb211, 1, none⟩ = some (.slice A210_1 ((rd_T54 l0_1 x54_3).f1).length c210_1) := bc_ BK211.out 1
   have hcz142_2 : wr.cell? ⟨gb211, 2, none⟩ = some (.bool false) := bc_ BK211.out 2
   have hcz142_3 : wr.cell? ⟨gb211, 3, none⟩ = some (.string ((rd_T54 l0_1 x54_3).f3)) := bc_ BK211.out 3
   have hcz142_4 : wr.cell? ⟨gb211, 4, none⟩ = some (.slice A210_4 ((rd_T54 l0_1 x54_3).f4).length c210_4) := bc_ BK211.out 4
   have hfz142_0 := blk_frozen BK211.out 0
   have hfz142_1 := blk_frozen BK211.out 1
   have hfz142_2 := blk_frozen BK211.out 2
   have hfz142_3 := blk_frozen BK211.out 3
   have hfz142_4 := blk_frozen BK211.out 4
   try go_wp2
   replace BK203 := Aside0.mk (blk_drew BK203.out)
   replace BK211 := Aside0.mk (blk_drew BK211.out)
   replace HB := Aside0.mk (below_drew1 HB.out)
   refine start_ (n := 35) (S := fun w' => w'.cell? ⟨gb211, 0, none⟩ = some (.string ((rd_T54 l0_1 x54_3).f0)) ∧ w'.cell? ⟨gb211, 1, none⟩ = some (.slice A210_1 ((rd_T54 l0_1 x54_3).f1).length c210_1) ∧ w'.cell? ⟨gb211, 2, none⟩ = some (.bool false) ∧ w'.cell? ⟨gb211, 3, none⟩ = some (.string ((rd_T54 l0_1 x54_3).f3)) ∧ w'.cell? ⟨gb211, 4, none⟩ = some (.slice A210_4 ((rd_T54 l0_1 x54_3).f4).length c210_4)) (ds := []) #[false, false, false, false, false, false, false, false, false, false, false, false, false, false, false, false, false, false, false, false, false, false, false, false, false, false, false, false, false, false, false, false, false, false, false] (by kernel_rfl) rfl rfl ⟨bc_ BK211.out 0, bc_ BK211.out 1, bc_ BK211.out 2, bc_ BK211.out 3, bc_ BK211.out 4⟩ (fun hHeld => ?_); refine with_tabW spec_GoodSynod.tab26 spec_GoodSynod.bits26 (fun HT_ HW_ => ?_)
   generalize wr.drew = w143 at BK203 BK211 HB hHeld ⊢
   refine pu_ 0 (some 133) (h := ?_)
   refine tk5_ 1 (some 134) (h := ?_)
   refine on_ 2 (some 135) (h := fun K hK => ?_)
   refine goes_ Try.func40 (by kernel_rfl) rfl #[.string ((rd_T54 l0_1 x54_3).f0)] (by rfl) rfl rfl nc_ ?_
   with_reducible refine (spec_l1Value.calls k5 ((rd_T54 l0_1 x54_3).f0) true _ A103.out).mono ?_
   rintro e w' ⟨rfl, ⟨nd, rfl⟩⟩
   refine ⟨_, rfl, ?_⟩
   refine hK.out _ _ ⟨bc_ BK211.out 0, bc_ BK211.out 1, bc_ BK211.out 2, bc_ BK211.out 3, bc_ BK211.out 4⟩ (fun hHeld => ?_)
   clear hK K
   refine norm_ nn_ ?_
   refine pu_ 3 (some 136) (h := ?_)
   refine pu_ 4 (some 137) (h := ?_)
   refine pu_ 5 (some 138) (h := ?_)
   refine pu_ 7 (some 140) (h := ?_)
   refine tk5_ 6 (some 139) (h := ?_)
   refine pu_ 8 (some 141) (h := ?_)
   refine pu_ 9 (some 142) (h := ?_)
   refine pu_ 10 (some 143) (h := ?_)
   refine pu_ 11 (some 144) (h := ?_)
   refine pu_ 12 (some 145) (h := ?_)
   refine px_ 13 (some 146) (h := ?_)
   refine px_ 14 (some 147) (h := ?_)
   refine px_ 15 (some 148) (h := ?_)
   refine px_ 16 (some 149) (h := ?_)
   refine px_ 17 (some 150) (h := ?_)
   refine pu_ 18 (some 151) (h := ?_)
   refine pu_ 19 (some 152) (h := ?_)
   refine pu_ 20 (some 153) (h := ?_)
   refine pu_ 21 (some 154) (h := ?_)
   refine pu_ 22 (some 155) (h := ?_)
   refine pu_ 23 (some 156) (h := ?_)
   refine pu_ 24 (some 157) (h := ?_)
   refine tk5_ 25 (some 158) (h := ?_)
   refine pu_ 26 (some 159) (h := ?_)
   refine pu_ 27 (some 160) (h := ?_)
   refine pu_ 28 (some 161) (h := ?_)
   refine tk5_ 29 (some 162) (h := ?_)
   refine pu_ 30 (some 163) (h := ?_)
   refine pu_ 31 (some 164) (h := ?_)
   refine pu_ 32 (some 165) (h := ?_)
   refine pu_ 33 (some 166) (h := ?_)
   refine pu_ 34 (some 167) (h := ?_)
   refine done_ (done_of HT_.out (by kernel_rfl)) ?_
   try go_wp2
   go_ret
   exact ⟨ng_, bl_⟩
  rw [if_neg c140] at H
  have c140b0 : decide (0 < (((rd_T54 l0_1 x54_3).f4).length : Int)) = false := decide_eq_false c140
  have c140b1 : decide (0 < ((rd_T54 l0_1 x54_3).f4).length) = false := decide_eq_false (by omega)
  clear c140
  have H' := Aside0.mk H
  clear H
  have hnb144 := NB211_203.out
  have hnc144 := NB203_211.out
  have hcz145_0 : wr.cell? ⟨gb211, 0, none⟩ = some (.string ((rd_T54 l0_1 x54_3).f0)) := bc_ BK211.out 0
  have hcz145_1 : wr.cell? ⟨gb211, 1, none⟩ = some (.slice A210_1 ((rd_T54 l0_1 x54_3).f1).length c210_1) := bc_ BK211.out 1
  have hcz145_2 : wr.cell? ⟨gb211, 2, none⟩ = some (.bool false) := bc_ BK211.out 2
  have hcz145_3 : wr.cell? ⟨gb211, 3, none⟩ = some (.string ((rd_T54 l0_1 x54_3).f3)) := bc_ BK211.out 3
  have hcz145_4 : wr.cell? ⟨gb211, 4, none⟩ = some (.slice A210_4 ((rd_T54 l0_1 x54_3).f4).length c210_4) := bc_ BK211.out 4
  have hfz145_0 := blk_frozen BK211.out 0
  have hfz145_1 := blk_frozen BK211.out 1
  have hfz145_2 := blk_frozen BK211.out 2
  have hfz145_3 := blk_frozen BK211.out 3
  have hfz145_4 := blk_frozen BK211.out 4
  try go_wp2
  replace BK203 := Aside0.mk (blk_drew BK203.out)
  replace BK211 := Aside0.mk (blk_drew BK211.out)
  replace HB := Aside0.mk (below_drew1 HB.out)
  refine start_ (n := 35) (S := fun w' => w'.cell? ⟨gb211, 0, none⟩ = some (.string ((rd_T54 l0_1 x54_3).f0)) ∧ w'.cell? ⟨gb211, 1, none⟩ = some (.slice A210_1 ((rd_T54 l0_1 x54_3).f1).length c210_1) ∧ w'.cell? ⟨gb211, 2, none⟩ = some (.bool false) ∧ w'.cell? ⟨gb211, 3, none⟩ = some (.string ((rd_T54 l0_1 x54_3).f3)) ∧ w'.cell? ⟨gb211, 4, none⟩ = some (.slice A210_4 ((rd_T54 l0_1 x54_3).f4).length c210_4)) (ds := []) #[false, false, false, false, false, false, false, false, false, false, false, false, false, false, false, false, false, false, false, false, false, false, false, false, false, false, false, false, false, false, false, false, false, false, false] (by kernel_rfl) rfl rfl ⟨bc_ BK211.out 0, bc_ BK211.out 1, bc_ BK211.out 2, bc_ BK211.out 3, bc_ BK211.out 4⟩ (fun hHeld => ?_); refine with_tabW spec_GoodSynod.tab26 spec_GoodSynod.bits26 (fun HT_ HW_ => ?_)
  generalize wr.drew = w146 at BK203 BK211 HB hHeld ⊢
  refine pu_ 0 (some 133) (h := ?_)
  refine tk5_ 1 (some 134) (h := ?_)
  refine on_ 2 (some 135) (h := fun K hK => ?_)
  refine goes_ Try.func40 (by kernel_rfl) rfl #[.string ((rd_T54 l0_1 x54_3).f0)] (by rfl) rfl rfl nc_ ?_
  with_reducible refine (spec_l1Value.calls k5 ((rd_T54 l0_1 x54_3).f0) true _ A103.out).mono ?_
  rintro e w' ⟨rfl, ⟨nd, rfl⟩⟩
  refine ⟨_, rfl, ?_⟩
  refine hK.out _ _ ⟨bc_ BK211.out 0, bc_ BK211.out 1, bc_ BK211.out 2, bc_ BK211.out 3, bc_ BK211.out 4⟩ (fun hHeld => ?_)
  clear hK K
  refine norm_ nn_ ?_
  refine pu_ 3 (some 136) (h := ?_)
  refine pu_ 4 (some 137) (h := ?_)
  refine pu_ 5 (some 138) (h := ?_)
  refine pu_ 7 (some 140) (h := ?_)
  refine tk5_ 6 (some 139) (h := ?_)
  refine pu_ 8 (some 141) (h := ?_)
  refine pu_ 9 (some 142) (h := ?_)
  refine pu_ 10 (some 143) (h := ?_)
  refine pu_ 11 (some 144) (h := ?_)
  refine pu_ 12 (some 145) (h := ?_)
  refine px_ 13 (some 146) (h := ?_)
  refine px_ 14 (some 147) (h := ?_)
  refine px_ 15 (some 148) (h := ?_)
  refine px_ 16 (some 149) (h := ?_)
  refine px_ 17 (some 150) (h := ?_)
  refine pu_ 18 (some 151) (h := ?_)
  refine pu_ 19 (some 152) (h := ?_)
  refine pu_ 20 (some 153) (h := ?_)
  refine pu_ 21 (some 154) (h := ?_)
  refine pu_ 22 (some 155) (h := ?_)
  refine pu_ 23 (some 156) (h := ?_)
  refine pu_ 24 (some 157) (h := ?_)
  refine tk5_ 25 (some 158) (h := ?_)
  refine pu_ 26 (some 159) (h := ?_)
  refine pu_ 27 (some 160) (h := ?_)
  refine pu_ 28 (some 161) (h := ?_)
  refine tk5_ 29 (some 162) (h := ?_)
  refine pu_ 30 (some 163) (h := ?_)
  refine pu_ 31 (some 164) (h := ?_)
  refine pu_ 32 (some 165) (h := ?_)
  refine pu_ 33 (some 166) (h := ?_)
  refine pu_ 34 (some 167) (h := ?_)
  refine done_ (done_of HT_.out (by kernel_rfl)) ?_
  try go_wp2
  go_roundg k5
  case measure => have := HJ1.out; have := HK2.out; have := HK3.out; have := HK4.out; have := HK5.out; omega
  case rel => exact ⟨(wrap64 (x54_3 + 1)), (by first | rfl | (simp; done) | (simp [*]; done)), H', ⟨by have := HJ1.out; have := HK2.out; have := HK3.out; have := HK4.out; have := HK5.out; omega⟩, ⟨by exact kb_ BK203.out⟩, ⟨bl_⟩⟩
 rw [if_pos c109] at H
 have c109b0 : decide ((l0_0.length : Int) < (wrap64 (2 * (((rd_T54 l0_1 x54_3).f1).length : Int)))) = true := decide_eq_true c109
 clear c109
 have ef2 : ((rd_T54 l0_1 x54_3).f2) = true := by have q_ := c105b0; rw [show (decide ((wrap64 (2 * (((rd_T54 l0_1 x54_3).f1).length : Int))) > (l0_0.length : Int))) = true from c109b0] at q_; simpa using q_
 rw [ef2] at BK211
 (try rw [ef2] at H)
 replace H := Option.bind_eq_some_iff.mp H
 obtain ⟨t222, A1100, H⟩ := H
 replace H : (if ((rd_T54 l0_1 x54_3).f3).toList = t222.toList then (if ((wrap64 (2 * (((rd_T54 l0_1 x54_3).f1).length : Int))) > (l0_0.length : Int)) then (spec_GoodSynod.l1 k5 (l0_0.length : Int) l0_1 (l0_1.length : Int) (wrap64 (x54_3 + 1))) else (if ((rd_T54 l0_1 x54_3).f3).toList = ([] : List UInt8) then (if (((rd_T54 l0_1 x54_3).f4).length : Int) > 0 then (some false) else (spec_GoodSynod.l1 k5 (l0_0.length : Int) l0_1 (l0_1.length : Int) (wrap64 (x54_3 + 1)))) else (some false))) else (some false)) = some r := H
 have A110 := Aside0.mk A1100
 clear A1100
 as_aux_lemma =>
 by_cases c111 : ((rd_T54 l0_1 x54_3).f3).toList = t222.toList
 rotate_left
 ·as_aux_lemma =>
  rw [if_neg c111] at H
  have c111b0 : (((rd_T54 l0_1 x54_3).f3).toList == t222.toList) = false := beq_eq_false_iff_ne.mpr c111
  have c111b1 : (((rd_T54 l0_1 x54_3).f3).toList != t222.toList) = true := bne_iff_ne.mpr c111
  obtain rfl := Option.some.inj H
  have hnb131 := NB211_203.out
  have hnc131 := NB203_211.out
  have hcz132_0 : wr.cell? ⟨gb211, 0, none⟩ = some (.string ((rd_T54 l0_1 x54_3).f0)) := bc_ BK211.out 0
  have hcz132_1 : wr.cell? ⟨gb211, 1, none⟩ = some (.slice A210_1 ((rd_T54 l0_1 x54_3).f1).length c210_1) := bc_ BK211.out 1
  have hcz132_2 : wr.cell? ⟨gb211, 2, none⟩ = some (.bool true) := bc_ BK211.out 2
  have hcz132_3 : wr.cell? ⟨gb211, 3, none⟩ = some (.string ((rd_T54 l0_1 x54_3).f3)) := bc_ BK211.out 3
  have hcz132_4 : wr.cell? ⟨gb211, 4, none⟩ = some (.slice A210_4 ((rd_T54 l0_1 x54_3).f4).length c210_4) := bc_ BK211.out 4
  have hfz132_0 := blk_frozen BK211.out 0
  have hfz132_1 := blk_frozen BK211.out 1
  have hfz132_2 := blk_frozen BK211.out 2
  have hfz132_3 := blk_frozen BK211.out 3
  have hfz132_4 := blk_frozen BK211.out 4
  try go_wp2
  replace BK203 := Aside0.mk (blk_drew BK203.out)
  replace BK211 := Aside0.mk (blk_drew BK211.out)
  replace HB := Aside0.mk (below_drew1 HB.out)
  refine start_ (n := 35) (S := fun w' => w'.cell? ⟨gb211, 0, none⟩ = some (.string ((rd_T54 l0_1 x54_3).f0)) ∧ w'.cell? ⟨gb211, 1, none⟩ = some (.slice A210_1 ((rd_T54 l0_1 x54_3).f1).length c210_1) ∧ w'.cell? ⟨gb211, 2, none⟩ = some (.bool true) ∧ w'.cell? ⟨gb211, 3, none⟩ = some (.string ((rd_T54 l0_1 x54_3).f3)) ∧ w'.cell? ⟨gb211, 4, none⟩ = some (.slice A210_4 ((rd_T54 l0_1 x54_3).f4).length c210_4)) (ds := []) #[false, false, false, false, false, false, false, false, false, false, false, false, false, false, false, false, false, false, false, false, false, false, false, false, false, false, false, false, false, false, false, false, false, false, false] (by kernel_rfl) rfl rfl ⟨bc_ BK211.out 0, bc_ BK211.out 1, bc_ BK211.out 2, bc_ BK211.out 3, bc_ BK211.out 4⟩ (fun hHeld => ?_); refine with_tabW spec_GoodSynod.tab26 spec_GoodSynod.bits26 (fun HT_ HW_ => ?_)
  generalize wr.drew = w133 at BK203 BK211 HB hHeld ⊢
  refine pu_ 0 (some 133) (h := ?_)
  refine tk5_ 1 (some 134) (h := ?_)
  refine on_ 2 (some 135) (h := fun K hK => ?_)
  refine goes_ Try.func40 (by kernel_rfl) rfl #[.string ((rd_T54 l0_1 x54_3).f0)] (by rfl) rfl rfl nc_ ?_
  with_reducible refine (spec_l1Value.calls k5 ((rd_T54 l0_1 x54_3).f0) true _ A103.out).mono ?_
  rintro e w' ⟨rfl, ⟨nd, rfl⟩⟩
  refine ⟨_, rfl, ?_⟩
  refine hK.out _ _ ⟨bc_ BK211.out 0, bc_ BK211.out 1, bc_ BK211.out 2, bc_ BK211.out 3, bc_ BK211.out 4⟩ (fun hHeld => ?_)
  clear hK K
  refine norm_ nn_ ?_
  refine pu_ 3 (some 136) (h := ?_)
  refine pu_ 4 (some 137) (h := ?_)
  refine pu_ 5 (some 138) (h := ?_)
  refine pu_ 7 (some 140) (h := ?_)
  refine tk5_ 6 (some 139) (h := ?_)
  refine pu_ 8 (some 141) (h := ?_)
  refine pu_ 9 (some 142) (h := ?_)
  refine pu_ 10 (some 143) (h := ?_)
  refine pu_ 11 (some 144) (h := ?_)
  refine pu_ 12 (some 145) (h := ?_)
  refine pu_ 13 (some 146) (h := ?_)
  refine tk5_ 14 (some 147) (h := ?_)
  refine tk5_ 15 (some 148) (h := ?_)
  refine on_ 16 (some 149) (h := fun K hK => ?_)
  refine goes_ Try.func45 (by kernel_rfl) rfl #[.agg #[.string ((rd_T54 l0_1 x54_3).f0), .slice A210_1 ((rd_T54 l0_1 x54_3).f1).length c210_1, .bool true, .string ((rd_T54 l0_1 x54_3).f3), .slice A210_4 ((rd_T54 l0_1 x54_3).f4).length c210_4]] (by rfl) rfl rfl nc_ ?_
  with_reducible refine (spec_l10Value.calls k5 ((rd_T54 l0_1 x54_3).f0) _ _ ((rd_T54 l0_1 x54_3).f1) true ((rd_T54 l0_1 x54_3).f3) _ _ ((rd_T54 l0_1 x54_3).f4) t222 _ ?side1 ?side2 ?side3 ?side4 A110.out).mono ?_
  (case side1 => exact kc_ (Kd.C_below HR210_1.out bl_))
  (case side2 => exact HC210_1.out)
  (case side3 => exact kc_ (Kd.C_below HR210_4.out bl_))
  (case side4 => exact HC210_4.out)
  rintro e w134 ⟨rfl, hb⟩
  refine ⟨_, rfl, ?_⟩
  replace BK203 := bb_ BK203 hb
  replace BK211 := bb_ BK211 hb
  replace HB := Aside0.mk (below_step bl_ hb)
  clear hb
  refine hK.out _ _ ⟨bc_ BK211.out 0, bc_ BK211.out 1, bc_ BK211.out 2, bc_ BK211.out 3, bc_ BK211.out 4⟩ (fun hHeld => ?_)
  clear hK K
  refine norm_ nn_ ?_
  refine pu_ 17 (some 150) (h := ?_)
  refine pu_ 18 (some 151) (h := ?_)
  refine pu_ 19 (some 152) (h := ?_)
  refine pu_ 20 (some 153) (h := ?_)
  refine px_ 21 (some 154) (h := ?_)
  refine px_ 22 (some 155) (h := ?_)
  refine px_ 23 (some 156) (h := ?_)
  refine px_ 24 (some 157) (h := ?_)
  refine px_ 25 (some 158) (h := ?_)
  refine px_ 26 (some 159) (h := ?_)
  refine px_ 27 (some 160) (h := ?_)
  refine px_ 28 (some 161) (h := ?_)
  refine px_ 29 (some 162) (h := ?_)
  refine px_ 30 (some 163) (h := ?_)
  refine px_ 31 (some 164) (h := ?_)
  refine px_ 32 (some 165) (h := ?_)
  refine px_ 33 (some 166) (h := ?_)
  refine pu_ 34 (some 167) (h := ?_)
  refine done_ (done_of HT_.out (by kernel_rfl)) ?_
  try go_wp2
  go_ret
  exact ⟨ng_, bl_⟩
 rw [if_pos c111] at H
 have c111b0 : (((rd_T54 l0_1 x54_3).f3).toList == t222.toList) = true := beq_iff_eq.mpr c111
 have c111b1 : (((rd_T54 l0_1 x54_3).f3).toList != t222.toList) = false := bne_eq_false_iff_eq.mpr c111
 clear c111
 as_aux_lemma =>
 by_cases c112 : ((wrap64 (2 * (((rd_T54 l0_1 x54_3).f1).length : Int))) > (l0_0.length : Int))
 ·as_aux_lemma =>
  rw [if_pos c112] at H
  have c112b0 : decide ((l0_0.length : Int) < (wrap64 (2 * (((rd_T54 l0_1 x54_3).f1).length : Int)))) = true := decide_eq_true c112
  clear c112
  have H' := Aside0.mk H
  clear H
  have hnb113 := NB211_203.out
  have hnc113 := NB203_211.out
  have hcz114_0 : wr.cell? ⟨gb211, 0, none⟩ = some (.string ((rd_T54 l0_1 x54_3).f0)) := bc_ BK211.out 0
  have hcz114_1 : wr.cell? ⟨gb211, 1, none⟩ = some (.slice A210_1 ((rd_T54 l0_1 x54_3).f1).length c210_1) := bc_ BK211.out 1
  have hcz114_2 : wr.cell? ⟨gb211, 2, none⟩ = some (.bool true) := bc_ BK211.out 2
  have hcz114_3 : wr.cell? ⟨gb211, 3, none⟩ = some (.string ((rd_T54 l0_1 x54_3).f3)) := bc_ BK211.out 3
  have hcz114_4 : wr.cell? ⟨gb211, 4, none⟩ = some (.slice A210_4 ((rd_T54 l0_1 x54_3).f4).length c210_4) := bc_ BK211.out 4
  have hfz114_0 := blk_frozen BK211.out 0
  have hfz114_1 := blk_frozen BK211.out 1
  have hfz114_2 := blk_frozen BK211.out 2
  have hfz114_3 := blk_frozen BK211.out 3
  have hfz114_4 := blk_frozen BK211.out 4
  try go_wp2
  replace BK203 := Aside0.mk (blk_drew BK203.out)
  replace BK211 := Aside0.mk (blk_drew BK211.out)
  replace HB := Aside0.mk (below_drew1 HB.out)
  refine start_ (n := 35) (S := fun w' => w'.cell? ⟨gb211, 0, none⟩ = some (.string ((rd_T54 l0_1 x54_3).f0)) ∧ w'.cell? ⟨gb211, 1, none⟩ = some (.slice A210_1 ((rd_T54 l0_1 x54_3).f1).length c210_1) ∧ w'.cell? ⟨gb211, 2, none⟩ = some (.bool true) ∧ w'.cell? ⟨gb211, 3, none⟩ = some (.string ((rd_T54 l0_1 x54_3).f3)) ∧ w'.cell? ⟨gb211, 4, none⟩ = some (.slice A210_4 ((rd_T54 l0_1 x54_3).f4).length c210_4)) (ds := []) #[false, false, false, false, false, false, false, false, false, false, false, false, false, false, false, false, false, false, false, false, false, false, false, false, false, false, false, false, false, false, false, false, false, false, false] (by kernel_rfl) rfl rfl ⟨bc_ BK211.out 0, bc_ BK211.out 1, bc_ BK211.out 2, bc_ BK211.out 3, bc_ BK211.out 4⟩ (fun hHeld => ?_); refine with_tabW spec_GoodSynod.tab26 spec_GoodSynod.bits26 (fun HT_ HW_ => ?_)
  generalize wr.drew = w115 at BK203 BK211 HB hHeld ⊢
  refine pu_ 0 (some 133) (h := ?_)
  refine tk5_ 1 (some 134) (h := ?_)
  refine on_ 2 (some 135) (h := fun K hK => ?_)
  refine goes_ Try.func40 (by kernel_rfl) rfl #[.string ((rd_T54 l0_1 x54_3).f0)] (by rfl) rfl rfl nc_ ?_
  with_reducible refine (spec_l1Value.calls k5 ((rd_T54 l0_1 x54_3).f0) true _ A103.out).mono ?_
  rintro e w' ⟨rfl, ⟨nd, rfl⟩⟩
  refine ⟨_, rfl, ?_⟩
  refine hK.out _ _ ⟨bc_ BK211.out 0, bc_ BK211.out 1, bc_ BK211.out 2, bc_ BK211.out 3, bc_ BK211.out 4⟩ (fun hHeld => ?_)
  clear hK K
  refine norm_ nn_ ?_
  refine pu_ 3 (some 136) (h := ?_)
  refine pu_ 4 (some 137) (h := ?_)
  refine pu_ 5 (some 138) (h := ?_)
  refine pu_ 7 (some 140) (h := ?_)
  refine tk5_ 6 (some 139) (h := ?_)
  refine pu_ 8 (some 141) (h := ?_)
  refine pu_ 9 (some 142) (h := ?_)
  refine pu_ 10 (some 143) (h := ?_)
  refine pu_ 11 (some 144) (h := ?_)
  refine pu_ 12 (some 145) (h := ?_)
  refine pu_ 13 (some 146) (h := ?_)
  refine tk5_ 14 (some 147) (h := ?_)
  refine tk5_ 15 (some 148) (h := ?_)
  refine on_ 16 (some 149) (h := fun K hK => ?_)
  refine goes_ Try.func45 (by kernel_rfl) rfl #[.agg #[.string ((rd_T54 l0_1 x54_3).f0), .slice A210_1 ((rd_T54 l0_1 x54_3).f1).length c210_1, .bool true, .string ((rd_T54 l0_1 x54_3).f3), .slice A210_4 ((rd_T54 l0_1 x54_3).f4).length c210_4]] (by rfl) rfl rfl nc_ ?_
  with_reducible refine (spec_l10Value.calls k5 ((rd_T54 l0_1 x54_3).f0) _ _ ((rd_T54 l0_1 x54_3).f1) true ((rd_T54 l0_1 x54_3).f3) _ _ ((rd_T54 l0_1 x54_3).f4) t222 _ ?side1 ?side2 ?side3 ?side4 A110.out).mono ?_
  (case side1 => exact kc_ (Kd.C_below HR210_1.out bl_))
  (case side2 => exact HC210_1.out)
  (case side3 => exact kc_ (Kd.C_below HR210_4.out bl_))
  (case side4 => exact HC210_4.out)
  rintro e w116 ⟨rfl, hb⟩
  refine ⟨_, rfl, ?_⟩
  replace BK203 := bb_ BK203 hb
  replace BK211 := bb_ BK211 hb
  replace HB := Aside0.mk (below_step bl_ hb)
  clear hb
  refine hK.out _ _ ⟨bc_ BK211.out 0, bc_ BK211.out 1, bc_ BK211.out 2, bc_ BK211.out 3, bc_ BK211.out 4⟩ (fun hHeld => ?_)
  clear hK K
  refine norm_ nn_ ?_
  refine pu_ 17 (some 150) (h := ?_)
  refine pu_ 18 (some 151) (h := ?_)
  refine pu_ 19 (some 152) (h := ?_)
  refine pu_ 20 (some 153) (h := ?_)
  refine pu_ 21 (some 154) (h := ?_)
  refine pu_ 22 (some 155) (h := ?_)
  refine pu_ 23 (some 156) (h := ?_)
  refine px_ 24 (some 157) (h := ?_)
  refine px_ 25 (some 158) (h := ?_)
  refine px_ 26 (some 159) (h := ?_)
  refine px_ 27 (some 160) (h := ?_)
  refine px_ 28 (some 161) (h := ?_)
  refine px_ 29 (some 162) (h := ?_)
  refine px_ 30 (some 163) (h := ?_)
  refine px_ 31 (some 164) (h := ?_)
  refine px_ 32 (some 165) (h := ?_)
  refine pu_ 33 (some 166) (h := ?_)
  refine pu_ 34 (some 167) (h := ?_)
  refine done_ (done_of HT_.out (by kernel_rfl)) ?_
  try go_wp2
  go_roundg k5
  case measure => have := HJ1.out; have := HK2.out; have := HK3.out; have := HK4.out; have := HK5.out; omega
  case rel => exact ⟨(wrap64 (x54_3 + 1)), (by first | rfl | (simp; done) | (simp [*]; done)), H', ⟨by have := HJ1.out; have := HK2.out; have := HK3.out; have := HK4.out; have := HK5.out; omega⟩, ⟨by exact kb_ BK203.out⟩, ⟨bl_⟩⟩
 exact absurd (of_decide_eq_true c109b0) c112

end Go.Proofs.Ytjpaoeeeiklfnaa.PSY
