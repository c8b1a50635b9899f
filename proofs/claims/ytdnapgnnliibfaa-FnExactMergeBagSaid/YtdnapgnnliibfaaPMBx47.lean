/- What this text proves: the machine calls of these functions return what the plain functions say. Conditions: as each theorem says. Printed by a program of this session out of the translation. -/
import Derived.Test.YtdnapgnnliibfaaPMBx0
import Derived.Test.YtdnapgnnliibfaaPMBx2
import Derived.Test.YtdnapgnnliibfaaPMBx3
import Derived.Test.YtdnapgnnliibfaaPMBx18
import Derived.Test.YtdnapgnnliibfaaPMBx21
import Derived.Test.YtdnapgnnliibfaaPMBx24
namespace Go.Proofs.Ytdnapgnnliibfaa.PMB
open Go.RowKit Go.Proofs.YtdnapgnnliibfaaW.PrintWords Go.Proofs.YtdnapgnnliibfaaW.PrintLast Go.Proofs.YtdnapgnnliibfaaW.PrintMore
attribute [local go_sem] max2_int min2_int max_two min_two max_three min_three max_four min_four   -- for this text's walks alone
set_option linter.unusedVariables false
set_option linter.unusedSimpArgs false

/-! ### laws_FnExactMergeBag: function 5 -/
mutual
def laws_FnExactMergeBag.j0 : Nat → Bool → Bool → Bool → List (S72) → List (S72) → List (S72) → List (S72) → List (S48) → List (S48) → List (S48) → List (S48) → List (S48) → List (S48) → List (S48) → List (S48) → Option (Bool)
 | 0, _, _, _, _, _, _, _, _, _, _, _, _, _, _, _ => none
 | k + 1, x7, x11, x53, x662000, x662001, x663000, x663001, x685000, x685001, x692000, x692001, x699000, x699001, x707000, x707001 => if x53 = true then (none) else ((laws_toBag.f k x662000 x662001).bind fun bt708 => ((laws_eqBag.f k x692000 x692001 bt708.1 bt708.2).bind fun t714 => (if t714 = true then ((laws_toBag.f k x663000 x663001).bind fun bt715 => ((laws_eqBag.f k x699000 x699001 bt715.1 bt715.2).bind fun t721 => (if t721 = true then ((laws_markBag.f k x692000 x692001 1).bind fun bt722 => ((laws_markBag.f k x699000 x699001 bt722.1).bind fun bt725 => (if bt725.1 < 0 then (none) else ((laws_eqBag.f k x707000 x707001 x685000 x685001).bind fun t728 => (if t728 = true then (laws_FnExactMergeBag.j1 k x7 (x11 != x7) x662000 x662001 x663000 x663001 x685000 x685001 x707000 x707001) else (none)))))) else (none)))) else (none))))
def laws_FnExactMergeBag.j1 : Nat → Bool → Bool → List (S72) → List (S72) → List (S72) → List (S72) → List (S48) → List (S48) → List (S48) → List (S48) → Option (Bool)
 | 0, _, _, _, _, _, _, _, _, _, _ => none
 | k + 1, x7, x82, x662000, x662001, x663000, x663001, x685000, x685001, x707000, x707001 => if x82 = true then (none) else ((laws_markBag.f k x707000 x707001 1).bind fun bt729 => ((laws_heldBag.f k bt729.2.1 bt729.2.2 1).bind fun t732 => (if t732 < 0 then (none) else (if t732 = bt729.1 then ((laws_toBag.f k x662000 x662001).bind fun bt733 => ((laws_toBag.f k x663000 x663001).bind fun bt739 => ((impl_MergeBag.f k bt733.1 bt733.2 bt739.1 bt739.2).bind fun bt745 => ((laws_eqBag.f k bt745.1 bt745.2.1 x685000 x685001).bind fun t753 => (if t753 = true then (laws_FnExactMergeBag.j2 k bt729.1 (bt745.2.2 != x7) bt729.2.1 bt729.2.2) else (none)))))) else (none)))))
def laws_FnExactMergeBag.j2 : Nat → Int → Bool → List (S48) → List (S48) → Option (Bool)
 | 0, _, _, _, _ => none
 | k + 1, x13, x110, x707000, x707001 => if x110 = true then (none) else ((laws_heldBag.f k x707000 x707001 1).bind fun t754 => (if t754 < 0 then (none) else (if t754 = x13 then (some true) else (none))))
end
def laws_FnExactMergeBag.f (k : Nat) (l0_0 : List (S72)) (l0_1 : List (S72)) (l1_0 : List (S72)) (l1_1 : List (S72)) : Option (Bool) := (laws_szBag.f k l0_0 l0_1 1048576).bind fun t663 => (if t663 < 0 then (some true) else ((laws_szBag.f k l1_0 l1_1 t663).bind fun t664 => (if t664 < 0 then (some true) else ((laws_toBag.f k l0_0 l0_1).bind fun bt665 => ((laws_toBag.f k l1_0 l1_1).bind fun bt671 => ((spec_MergeBag.f k bt665.1 bt665.2 bt671.1 bt671.2).bind fun bt677 => ((laws_toBag.f k l0_0 l0_1).bind fun bt685 => ((laws_toBag.f k l1_0 l1_1).bind fun bt692 => ((impl_MergeBag.f k bt685.1 bt685.2 bt692.1 bt692.2).bind fun bt699 => ((laws_eqBag.f k bt699.1 bt699.2.1 bt677.1 bt677.2.1).bind fun t707 => (if t707 = true then (laws_FnExactMergeBag.j0 k bt677.2.2 bt699.2.2 (bt699.2.2 != bt677.2.2) l0_0 l0_1 l1_0 l1_1 bt677.1 bt677.2.1 bt685.1 bt685.2 bt692.1 bt692.2 bt699.1 bt699.2.1) else (none))))))))))))
theorem laws_FnExactMergeBag.mono_l : ∀ k, (∀ y0 y1 y2 y3 y4 y5 y6 y7 y8 y9 y10 y11 y12 y13 y14, LeO (laws_FnExactMergeBag.j0 k y0 y1 y2 y3 y4 y5 y6 y7 y8 y9 y10 y11 y12 y13 y14) (laws_FnExactMergeBag.j0 (k + 1) y0 y1 y2 y3 y4 y5 y6 y7 y8 y9 y10 y11 y12 y13 y14)) ∧ (∀ y0 y1 y2 y3 y4 y5 y6 y7 y8 y9, LeO (laws_FnExactMergeBag.j1 k y0 y1 y2 y3 y4 y5 y6 y7 y8 y9) (laws_FnExactMergeBag.j1 (k + 1) y0 y1 y2 y3 y4 y5 y6 y7 y8 y9)) ∧ (∀ y0 y1 y2 y3, LeO (laws_FnExactMergeBag.j2 k y0 y1 y2 y3) (laws_FnExactMergeBag.j2 (k + 1) y0 y1 y2 y3))
 | 0 => ⟨fun _ _ _ _ _ _ _ _ _ _ _ _ _ _ _ r h => by simp [laws_FnExactMergeBag.j0] at h, fun _ _ _ _ _ _ _ _ _ _ r h => by simp [laws_FnExactMergeBag.j1] at h, fun _ _ _ _ r h => by simp [laws_FnExactMergeBag.j2] at h⟩
 | k + 1 => by
  obtain ⟨ih0, ih1, ih2⟩ := laws_FnExactMergeBag.mono_l k
  refine ⟨?_, ?_, ?_⟩
  ·intro y0 y1 y2 y3 y4 y5 y6 y7 y8 y9 y10 y11 y12 y13 y14
   unfold laws_FnExactMergeBag.j0
   repeat' first
   | (with_reducible exact ih0 _ _ _ _ _ _ _ _ _ _ _ _ _ _ _)
   | (with_reducible exact ih1 _ _ _ _ _ _ _ _ _ _)
   | (with_reducible exact ih2 _ _ _ _)
   | (with_reducible exact impl_MergeBag.mono _ _ _ _ _)
   | (with_reducible exact laws_eqBag.mono _ _ _ _ _)
   | (with_reducible exact laws_heldBag.mono _ _ _ _)
   | (with_reducible exact laws_markBag.mono _ _ _ _)
   | (with_reducible exact laws_szBag.mono _ _ _ _)
   | (with_reducible exact laws_toBag.mono _ _ _)
   | (with_reducible exact spec_MergeBag.mono _ _ _ _ _)
   | (with_reducible exact LeO.refl _)
   | (with_reducible exact LeO.none _)
   | (with_reducible refine LeO.ite ?_ ?_)
   | (with_reducible refine LeO.bind ?_ (fun _ => ?_))
   | exact ih0 _ _ _ _ _ _ _ _ _ _ _ _ _ _ _
   | exact ih1 _ _ _ _ _ _ _ _ _ _
   | exact ih2 _ _ _ _
   | exact impl_MergeBag.mono _ _ _ _ _
   | exact laws_eqBag.mono _ _ _ _ _
   | exact laws_heldBag.mono _ _ _ _
   | exact laws_markBag.mono _ _ _ _
   | exact laws_szBag.mono _ _ _ _
   | exact laws_toBag.mono _ _ _
   | exact spec_MergeBag.mono _ _ _ _ _
   | exact LeO.none _
   | refine LeO.ite ?_ ?_
   | refine LeO.bind ?_ (fun _ => ?_)
  ·intro y0 y1 y2 y3 y4 y5 y6 y7 y8 y9
   unfold laws_FnExactMergeBag.j1
   repeat' first
   | (with_reducible exact ih0 _ _ _ _ _ _ _ _ _ _ _ _ _ _ _)
   | (with_reducible exact ih1 _ _ _ _ _ _ _ _ _ _)
   | (with_reducible exact ih2 _ _ _ _)
   | (with_reducible exact impl_MergeBag.mono _ _ _ _ _)
   | (with_reducible exact laws_eqBag.mono _ _ _ _ _)
   | (with_reducible exact laws_heldBag.mono _ _ _ _)
   | (with_reducible exact laws_markBag.mono _ _ _ _)
   | (with_reducible exact laws_szBag.mono _ _ _ _)
   | (with_reducible exact laws_toBag.mono _ _ _)
   | (with_reducible exact spec_MergeBag.mono _ _ _ _ _)
   | (with_reducible exact LeO.refl _)
   | (with_reducible exact LeO.none _)
   | (with_reducible refine LeO.ite ?_ ?_)
   | (with_reducible refine LeO.bind ?_ (fun _ => ?_))
   | exact ih0 _ _ _ _ _ _ _ _ _ _ _ _ _ _ _
   | exact ih1 _ _ _ _ _ _ _ _ _ _
   | exact ih2 _ _ _ _
   | exact impl_MergeBag.mono _ _ _ _ _
   | exact laws_eqBag.mono _ _ _ _ _
   | exact laws_heldBag.mono _ _ _ _
   | exact laws_markBag.mono _ _ _ _
   | exact laws_szBag.mono _ _ _ _
   | exact laws_toBag.mono _ _ _
   | exact spec_MergeBag.mono _ _ _ _ _
   | exact LeO.none _
   | refine LeO.ite ?_ ?_
   | refine LeO.bind ?_ (fun _ => ?_)
  ·intro y0 y1 y2 y3
   unfold laws_FnExactMergeBag.j2
   repeat' first
   | (with_reducible exact ih0 _ _ _ _ _ _ _ _ _ _ _ _ _ _ _)
   | (with_reducible exact ih1 _ _ _ _ _ _ _ _ _ _)
   | (with_reducible exact ih2 _ _ _ _)
   | (with_reducible exact impl_MergeBag.mono _ _ _ _ _)
   | (with_reducible exact laws_eqBag.mono _ _ _ _ _)
   | (with_reducible exact laws_heldBag.mono _ _ _ _)
   | (with_reducible exact laws_markBag.mono _ _ _ _)
   | (with_reducible exact laws_szBag.mono _ _ _ _)
   | (with_reducible exact laws_toBag.mono _ _ _)
   | (with_reducible exact spec_MergeBag.mono _ _ _ _ _)
   | (with_reducible exact LeO.refl _)
   | (with_reducible exact LeO.none _)
   | (with_reducible refine LeO.ite ?_ ?_)
   | (with_reducible refine LeO.bind ?_ (fun _ => ?_))
   | exact ih0 _ _ _ _ _ _ _ _ _ _ _ _ _ _ _
   | exact ih1 _ _ _ _ _ _ _ _ _ _
   | exact ih2 _ _ _ _
   | exact impl_MergeBag.mono _ _ _ _ _
   | exact laws_eqBag.mono _ _ _ _ _
   | exact laws_heldBag.mono _ _ _ _
   | exact laws_markBag.mono _ _ _ _
   | exact laws_szBag.mono _ _ _ _
   | exact laws_toBag.mono _ _ _
   | exact spec_MergeBag.mono _ _ _ _ _
   | exact LeO.none _
   | refine LeO.ite ?_ ?_
   | refine LeO.bind ?_ (fun _ => ?_)
def laws_FnExactMergeBag.T8 : Bool × List (List Nat × List Nat) := (true, [([], []), ([0], [0]), ([], []), ([2, 1], [2]), ([1, 3, 3], [1, 3]), ([4], [4]), ([5], [5]), ([5], [5]), ([], []), ([8, 6, 4, 0, 1, 2, 3, 4, 5, 6, 8], [6, 8]), ([7, 9, 0, 1, 2, 3, 4, 5, 6, 7, 8, 9], [7])])
def laws_FnExactMergeBag.B8 : List Nat := [0, 1, 0, 7, 15, 31, 63, 63, 0, 383, 1023]
theorem laws_FnExactMergeBag.tab8 : rtab .any (opsOf Try.f5 8) = laws_FnExactMergeBag.T8 := by kernel_rfl
theorem laws_FnExactMergeBag.bits8 : waitsOk laws_FnExactMergeBag.T8.2 laws_FnExactMergeBag.B8 = true := by kernel_rfl
def laws_FnExactMergeBag.T31 : Bool × List (List Nat × List Nat) := (true, [([], []), ([0], [0]), ([], []), ([2, 1], [2]), ([1, 3, 3], [1, 3]), ([4], [4]), ([5], [5]), ([5], [5]), ([], []), ([8, 6, 4, 0, 1, 2, 3, 4, 5, 6, 8], [6, 8]), ([7, 9, 0, 1, 2, 3, 4, 5, 6, 7, 8, 9], [7])])
def laws_FnExactMergeBag.B31 : List Nat := [0, 1, 0, 7, 15, 31, 63, 63, 0, 383, 1023]
theorem laws_FnExactMergeBag.tab31 : rtab .any (opsOf Try.f5 31) = laws_FnExactMergeBag.T31 := by kernel_rfl
theorem laws_FnExactMergeBag.bits31 : waitsOk laws_FnExactMergeBag.T31.2 laws_FnExactMergeBag.B31 = true := by kernel_rfl
set_option maxHeartbeats 8000000 in
set_option maxRecDepth 100000 in
theorem laws_FnExactMergeBag.calls (k : Nat) (A0_0 : Option Addr) (c0_0 : Nat) (l0_0 : List (S72)) (A0_1 : Option Addr) (c0_1 : Nat) (l0_1 : List (S72)) (A1_0 : Option Addr) (c1_0 : Nat) (l1_0 : List (S72)) (A1_1 : Option Addr) (c1_1 : Nat) (l1_1 : List (S72)) (r : Bool) (w : World) (hr0_0 : Kd.C k72 w A0_0 l0_0.length l0_0) (hc0_0 : l0_0.length ≤ c0_0) (hr0_1 : Kd.C k72 w A0_1 l0_1.length l0_1) (hc0_1 : l0_1.length ≤ c0_1) (hr1_0 : Kd.C k72 w A1_0 l1_0.length l1_0) (hc1_0 : l1_0.length ≤ c1_0) (hr1_1 : Kd.C k72 w A1_1 l1_1.length l1_1) (hc1_1 : l1_1.length ≤ c1_1) (h : laws_FnExactMergeBag.f k l0_0 l0_1 l1_0 l1_1 = some r) :
  Calls Try.prog 5 #[.agg #[.slice A0_0 l0_0.length c0_0, .slice A0_1 l0_1.length c0_1], .agg #[.slice A1_0 l1_0.length c1_0, .slice A1_1 l1_1.length c1_1]] w fun e w' => e = .returned (.bool r) ∧ Below w.heap.size w w' := by
 have hu24 := Try.underlying24
 have hu29 := Try.underlying29
 have HR0_0 := Aside0.mk hr0_0
 have HC0_0 := Aside0.mk hc0_0
 clear hr0_0 hc0_0
 have HR0_1 := Aside0.mk hr0_1
 have HC0_1 := Aside0.mk hc0_1
 clear hr0_1 hc0_1
 have HR1_0 := Aside0.mk hr1_0
 have HC1_0 := Aside0.mk hc1_0
 clear hr1_0 hc1_0
 have HR1_1 := Aside0.mk hr1_1
 have HC1_1 := Aside0.mk hc1_1
 clear hr1_1 hc1_1
 have HB := Aside0.mk (Below.refl w.heap.size w)
 have H : ((laws_szBag.f k l0_0 l0_1 1048576).bind fun t663 => (if t663 < 0 then (some true) else ((laws_szBag.f k l1_0 l1_1 t663).bind fun t664 => (if t664 < 0 then (some true) else ((laws_toBag.f k l0_0 l0_1).bind fun bt665 => ((laws_toBag.f k l1_0 l1_1).bind fun bt671 => ((spec_MergeBag.f k bt665.1 bt665.2 bt671.1 bt671.2).bind fun bt677 => ((laws_toBag.f k l0_0 l0_1).bind fun bt685 => ((laws_toBag.f k l1_0 l1_1).bind fun bt692 => ((impl_MergeBag.f k bt685.1 bt685.2 bt692.1 bt692.2).bind fun bt699 => ((laws_eqBag.f k bt699.1 bt699.2.1 bt677.1 bt677.2.1).bind fun t707 => (if t707 = true then (laws_FnExactMergeBag.j0 k bt677.2.2 bt699.2.2 (bt699.2.2 != bt677.2.2) l0_0 l0_1 l1_0 l1_1 bt677.1 bt677.2.1 bt685.1 bt685.2 bt692.1 bt692.2 bt699.1 bt699.2.1) else (none))))))))))))) = some r := h
 clear h
 replace H := Option.bind_eq_some_iff.mp H
 obtain ⟨t663, A30, H⟩ := H
 replace H : (if t663 < 0 then (some true) else ((laws_szBag.f k l1_0 l1_1 t663).bind fun t664 => (if t664 < 0 then (some true) else ((laws_toBag.f k l0_0 l0_1).bind fun bt665 => ((laws_toBag.f k l1_0 l1_1).bind fun bt671 => ((spec_MergeBag.f k bt665.1 bt665.2 bt671.1 bt671.2).bind fun bt677 => ((laws_toBag.f k l0_0 l0_1).bind fun bt685 => ((laws_toBag.f k l1_0 l1_1).bind fun bt692 => ((impl_MergeBag.f k bt685.1 bt685.2 bt692.1 bt692.2).bind fun bt699 => ((laws_eqBag.f k bt699.1 bt699.2.1 bt677.1 bt677.2.1).bind fun t707 => (if t707 = true then (laws_FnExactMergeBag.j0 k bt677.2.2 bt699.2.2 (bt699.2.2 != bt677.2.2) l0_0 l0_1 l1_0 l1_1 bt677.1 bt677.2.1 bt685.1 bt685.2 bt692.1 bt692.2 bt699.1 bt699.2.1) else (none)))))))))))) = some r := H
 have A3 := Aside0.mk A30
 clear A30
 by_cases c4 : t663 < 0
 ·rw [if_pos c4] at H
  have c4b0 : decide (t663 < 0) = true := decide_eq_true c4
  clear c4
  obtain rfl := Option.some.inj H
  go_enter Try.func5, Try.ntmps5
  go_wp2_with (first | ((with_reducible refine gate_dst (N := 2) rfl ?_); refine box_event rfl (N := 2) rfl (cs := #[.slice A0_0 l0_0.length c0_0, .slice A0_1 l0_1.length c0_1]) (t := 24) gs_ ?_; intro gb661 hg w5 hbox hb; have BK661 := Aside0.mk (hbox); have GW661 := Aside0.mk ((by rw [hg]; exact bz_ : w.heap.size ≤ gb661)); have GE661 := GW661; replace HB := Aside0.mk (below_step bl_ hb); clear hb hbox hg) | ((with_reducible refine gate_dst (N := 3) rfl ?_); refine box_event rfl (N := 3) rfl (cs := #[.slice A1_0 l1_0.length c1_0, .slice A1_1 l1_1.length c1_1]) (t := 24) gs_ ?_; intro gb662 hg w6 hbox hb; have BK662 := Aside0.mk (hbox); have GW662 := Aside0.mk ((by rw [hg]; exact bz_ : w.heap.size ≤ gb662)); have GE662 := GW662; replace HB := Aside0.mk (below_step bl_ hb); have NB661_662 := nl_ hg BK661; have NB662_661 := nm_ hg BK661; replace BK661 := bb_ BK661 hb; clear hb hbox hg; have hnb7 := NB661_662.out; have hnc7 := NB662_661.out; have hcz8_0 : w6.cell? ⟨gb661, 0, none⟩ = some (.slice A0_0 l0_0.length c0_0) := bc_ BK661.out 0; have hcz8_1 : w6.cell? ⟨gb661, 1, none⟩ = some (.slice A0_1 l0_1.length c0_1) := bc_ BK661.out 1; have hfz8_0 := blk_frozen BK661.out 0; have hfz8_1 := blk_frozen BK661.out 1) | ((with_reducible refine gate_callee (f := 8) rfl ?_); refine goesL_ (some 19) rfl rfl Try.func8 (by kernel_rfl) rfl #[.agg #[.slice A0_0 l0_0.length c0_0, .slice A0_1 l0_1.length c0_1], .int .i64 1048576] rfl nc_ ?_; (with_reducible refine (laws_szBag.calls k _ _ l0_0 _ _ l0_1 1048576 t663 _ ?side1 ?side2 ?side3 ?side4 A3.out).mono ?_); (case side1 => exact kc_ (Kd.C_below HR0_0.out HB.out)); (case side2 => exact HC0_0.out); (case side3 => exact kc_ (Kd.C_below HR0_1.out HB.out)); (case side4 => exact HC0_1.out); rintro e w9 ⟨rfl, hb⟩; refine ⟨_, rfl, ?_⟩; replace BK661 := bb_ BK661 hb; replace BK662 := bb_ BK662 hb; replace HB := Aside0.mk (below_step bl_ hb); clear hb))
  go_ret
  exact ⟨ng_, bl_⟩
 rw [if_neg c4] at H
 have c4b0 : decide (t663 < 0) = false := decide_eq_false c4
 clear c4
 replace H := Option.bind_eq_some_iff.mp H
 obtain ⟨t664, A100, H⟩ := H
 replace H : (if t664 < 0 then (some true) else ((laws_toBag.f k l0_0 l0_1).bind fun bt665 => ((laws_toBag.f k l1_0 l1_1).bind fun bt671 => ((spec_MergeBag.f k bt665.1 bt665.2 bt671.1 bt671.2).bind fun bt677 => ((laws_toBag.f k l0_0 l0_1).bind fun bt685 => ((laws_toBag.f k l1_0 l1_1).bind fun bt692 => ((impl_MergeBag.f k bt685.1 bt685.2 bt692.1 bt692.2).bind fun bt699 => ((laws_eqBag.f k bt699.1 bt699.2.1 bt677.1 bt677.2.1).bind fun t707 => (if t707 = true then (laws_FnExactMergeBag.j0 k bt677.2.2 bt699.2.2 (bt699.2.2 != bt677.2.2) l0_0 l0_1 l1_0 l1_1 bt677.1 bt677.2.1 bt685.1 bt685.2 bt692.1 bt692.2 bt699.1 bt699.2.1) else (none)))))))))) = some r := H
 have A10 := Aside0.mk A100
 clear A100
 by_cases c11 : t664 < 0
 ·rw [if_pos c11] at H
  have c11b0 : decide (t664 < 0) = true := decide_eq_true c11
  clear c11
  obtain rfl := Option.some.inj H
  go_enter Try.func5, Try.ntmps5
  go_wp2_with (first | ((with_reducible refine gate_dst (N := 2) rfl ?_); refine box_event rfl (N := 2) rfl (cs := #[.slice A0_0 l0_0.length c0_0, .slice A0_1 l0_1.length c0_1]) (t := 24) gs_ ?_; intro gb661 hg w12 hbox hb; have BK661 := Aside0.mk (hbox); have GW661 := Aside0.mk ((by rw [hg]; exact bz_ : w.heap.size ≤ gb661)); have GE661 := GW661; replace HB := Aside0.mk (below_step bl_ hb); clear hb hbox hg) | ((with_reducible refine gate_dst (N := 3) rfl ?_); refine box_event rfl (N := 3) rfl (cs := #[.slice A1_0 l1_0.length c1_0, .slice A1_1 l1_1.length c1_1]) (t := 24) gs_ ?_; intro gb662 hg w13 hbox hb; have BK662 := Aside0.mk (hbox); have GW662 := Aside0.mk ((by rw [hg]; exact bz_ : w.heap.size ≤ gb662)); have GE662 := GW662; replace HB := Aside0.mk (below_step bl_ hb); have NB661_662 := nl_ hg BK661; have NB662_661 := nm_ hg BK661; replace BK661 := bb_ BK661 hb; clear hb hbox hg; have hnb14 := NB661_662.out; have hnc14 := NB662_661.out; have hcz15_0 : w13.cell? ⟨gb661, 0, none⟩ = some (.slice A0_0 l0_0.length c0_0) := bc_ BK661.out 0; have hcz15_1 : w13.cell? ⟨gb661, 1, none⟩ = some (.slice A0_1 l0_1.length c0_1) := bc_ BK661.out 1; have hfz15_0 := blk_frozen BK661.out 0; have hfz15_1 := blk_frozen BK661.out 1) | ((with_reducible refine gate_callee (f := 8) rfl ?_); refine goesL_ (some 19) rfl rfl Try.func8 (by kernel_rfl) rfl #[.agg #[.slice A0_0 l0_0.length c0_0, .slice A0_1 l0_1.length c0_1], .int .i64 1048576] rfl nc_ ?_; (with_reducible refine (laws_szBag.calls k _ _ l0_0 _ _ l0_1 1048576 t663 _ ?side1 ?side2 ?side3 ?side4 A3.out).mono ?_); (case side1 => exact kc_ (Kd.C_below HR0_0.out HB.out)); (case side2 => exact HC0_0.out); (case side3 => exact kc_ (Kd.C_below HR0_1.out HB.out)); (case side4 => exact HC0_1.out); rintro e w16 ⟨rfl, hb⟩; refine ⟨_, rfl, ?_⟩; replace BK661 := bb_ BK661 hb; replace BK662 := bb_ BK662 hb; replace HB := Aside0.mk (below_step bl_ hb); clear hb; have hcz17_0 : w16.cell? ⟨gb662, 0, none⟩ = some (.slice A1_0 l1_0.length c1_0) := bc_ BK662.out 0; have hcz17_1 : w16.cell? ⟨gb662, 1, none⟩ = some (.slice A1_1 l1_1.length c1_1) := bc_ BK662.out 1; have hfz17_0 := blk_frozen BK662.out 0; have hfz17_1 := blk_frozen BK662.out 1) | ((with_reducible refine gate_callee (f := 8) rfl ?_); refine goesL_ (some 24) rfl rfl Try.func8 (by kernel_rfl) rfl #[.agg #[.slice A1_0 l1_0.length c1_0, .slice A1_1 l1_1.length c1_1], .int .i64 t663] rfl nc_ ?_; (with_reducible refine (laws_szBag.calls k _ _ l1_0 _ _ l1_1 t663 t664 _ ?side1 ?side2 ?side3 ?side4 A10.out).mono ?_); (case side1 => exact kc_ (Kd.C_below HR1_0.out HB.out)); (case side2 => exact HC1_0.out); (case side3 => exact kc_ (Kd.C_below HR1_1.out HB.out)); (case side4 => exact HC1_1.out); rintro e w18 ⟨rfl, hb⟩; refine ⟨_, rfl, ?_⟩; replace BK661 := bb_ BK661 hb; replace BK662 := bb_ BK662 hb; replace HB := Aside0.mk (below_step bl_ hb); clear hb))
  go_ret
  exact ⟨ng_, bl_⟩
 rw [if_neg c11] at H
 have c11b0 : decide (t664 < 0) = false := decide_eq_false c11
 clear c11
 replace H := Option.bind_eq_some_iff.mp H
 obtain ⟨⟨t665, t668⟩, A190, H⟩ := H
 replace H : ((laws_toBag.f k l1_0 l1_1).bind fun bt671 => ((spec_MergeBag.f k t665 t668 bt671.1 bt671.2).bind fun bt677 => ((laws_toBag.f k l0_0 l0_1).bind fun bt685 => ((laws_toBag.f k l1_0 l1_1).bind fun bt692 => ((impl_MergeBag.f k bt685.1 bt685.2 bt692.1 bt692.2).bind fun bt699 => ((laws_eqBag.f k bt699.1 bt699.2.1 bt677.1 bt677.2.1).bind fun t707 => (if t707 = true then (laws_FnExactMergeBag.j0 k bt677.2.2 bt699.2.2 (bt699.2.2 != bt677.2.2) l0_0 l0_1 l1_0 l1_1 bt677.1 bt677.2.1 bt685.1 bt685.2 bt692.1 bt692.2 bt699.1 bt699.2.1) else (none)))))))) = some r := H
 have A19 := Aside0.mk A190
 clear A190
 replace H := Option.bind_eq_some_iff.mp H
 obtain ⟨⟨t671, t674⟩, A200, H⟩ := H
 replace H : ((spec_MergeBag.f k t665 t668 t671 t674).bind fun bt677 => ((laws_toBag.f k l0_0 l0_1).bind fun bt685 => ((laws_toBag.f k l1_0 l1_1).bind fun bt692 => ((impl_MergeBag.f k bt685.1 bt685.2 bt692.1 bt692.2).bind fun bt699 => ((laws_eqBag.f k bt699.1 bt699.2.1 bt677.1 bt677.2.1).bind fun t707 => (if t707 = true then (laws_FnExactMergeBag.j0 k bt677.2.2 bt699.2.2 (bt699.2.2 != bt677.2.2) l0_0 l0_1 l1_0 l1_1 bt677.1 bt677.2.1 bt685.1 bt685.2 bt692.1 bt692.2 bt699.1 bt699.2.1) else (none))))))) = some r := H
 have A20 := Aside0.mk A200
 clear A200
 replace H := Option.bind_eq_some_iff.mp H
 obtain ⟨⟨t677, t680, t683⟩, A210, H⟩ := H
 replace H : ((laws_toBag.f k l0_0 l0_1).bind fun bt685 => ((laws_toBag.f k l1_0 l1_1).bind fun bt692 => ((impl_MergeBag.f k bt685.1 bt685.2 bt692.1 bt692.2).bind fun bt699 => ((laws_eqBag.f k bt699.1 bt699.2.1 t677 t680).bind fun t707 => (if t707 = true then (laws_FnExactMergeBag.j0 k t683 bt699.2.2 (bt699.2.2 != t683) l0_0 l0_1 l1_0 l1_1 t677 t680 bt685.1 bt685.2 bt692.1 bt692.2 bt699.1 bt699.2.1) else (none)))))) = some r := H
 have A21 := Aside0.mk A210
 clear A210
 replace H := Option.bind_eq_some_iff.mp H
 obtain ⟨⟨t685, t688⟩, A220, H⟩ := H
 replace H : ((laws_toBag.f k l1_0 l1_1).bind fun bt692 => ((impl_MergeBag.f k t685 t688 bt692.1 bt692.2).bind fun bt699 => ((laws_eqBag.f k bt699.1 bt699.2.1 t677 t680).bind fun t707 => (if t707 = true then (laws_FnExactMergeBag.j0 k t683 bt699.2.2 (bt699.2.2 != t683) l0_0 l0_1 l1_0 l1_1 t677 t680 t685 t688 bt692.1 bt692.2 bt699.1 bt699.2.1) else (none))))) = some r := H
 have A22 := Aside0.mk A220
 clear A220
 replace H := Option.bind_eq_some_iff.mp H
 obtain ⟨⟨t692, t695⟩, A230, H⟩ := H
 replace H : ((impl_MergeBag.f k t685 t688 t692 t695).bind fun bt699 => ((laws_eqBag.f k bt699.1 bt699.2.1 t677 t680).bind fun t707 => (if t707 = true then (laws_FnExactMergeBag.j0 k t683 bt699.2.2 (bt699.2.2 != t683) l0_0 l0_1 l1_0 l1_1 t677 t680 t685 t688 t692 t695 bt699.1 bt699.2.1) else (none)))) = some r := H
 have A23 := Aside0.mk A230
 clear A230
 replace H := Option.bind_eq_some_iff.mp H
 obtain ⟨⟨t699, t702, t705⟩, A240, H⟩ := H
 replace H : ((laws_eqBag.f k t699 t702 t677 t680).bind fun t707 => (if t707 = true then (laws_FnExactMergeBag.j0 k t683 t705 (t705 != t683) l0_0 l0_1 l1_0 l1_1 t677 t680 t685 t688 t692 t695 t699 t702) else (none))) = some r := H
 have A24 := Aside0.mk A240
 clear A240
 have HC25 := Aside0.mk H
 clear H
 go_enter Try.func5, Try.ntmps5
 try go_wp2_with (first | ((with_reducible refine gate_dst (N := 2) rfl ?_); refine box_event rfl (N := 2) rfl (cs := #[.slice A0_0 l0_0.length c0_0, .slice A0_1 l0_1.length c0_1]) (t := 24) gs_ ?_; intro gb661 hg w26 hbox hb; have BK661 := Aside0.mk (hbox); have GW661 := Aside0.mk ((by rw [hg]; exact bz_ : w.heap.size ≤ gb661)); have GE661 := GW661; replace HB := Aside0.mk (below_step bl_ hb); clear hb hbox hg) | ((with_reducible refine gate_dst (N := 3) rfl ?_); refine box_event rfl (N := 3) rfl (cs := #[.slice A1_0 l1_0.length c1_0, .slice A1_1 l1_1.length c1_1]) (t := 24) gs_ ?_; intro gb662 hg w27 hbox hb; have BK662 := Aside0.mk (hbox); have GW662 := Aside0.mk ((by rw [hg]; exact bz_ : w.heap.size ≤ gb662)); have GE662 := GW662; replace HB := Aside0.mk (below_step bl_ hb); have NB661_662 := nl_ hg BK661; have NB662_661 := nm_ hg BK661; replace BK661 := bb_ BK661 hb; clear hb hbox hg; have hnb28 := NB661_662.out; have hnc28 := NB662_661.out; have hcz29_0 : w27.cell? ⟨gb661, 0, none⟩ = some (.slice A0_0 l0_0.length c0_0) := bc_ BK661.out 0; have hcz29_1 : w27.cell? ⟨gb661, 1, none⟩ = some (.slice A0_1 l0_1.length c0_1) := bc_ BK661.out 1; have hfz29_0 := blk_frozen BK661.out 0; have hfz29_1 := blk_frozen BK661.out 1) | ((with_reducible refine gate_callee (f := 8) rfl ?_); refine goesL_ (some 19) rfl rfl Try.func8 (by kernel_rfl) rfl #[.agg #[.slice A0_0 l0_0.length c0_0, .slice A0_1 l0_1.length c0_1], .int .i64 1048576] rfl nc_ ?_; (with_reducible refine (laws_szBag.calls k _ _ l0_0 _ _ l0_1 1048576 t663 _ ?side1 ?side2 ?side3 ?side4 A3.out).mono ?_); (case side1 => exact kc_ (Kd.C_below HR0_0.out HB.out)); (case side2 => exact HC0_0.out); (case side3 => exact kc_ (Kd.C_below HR0_1.out HB.out)); (case side4 => exact HC0_1.out); rintro e w30 ⟨rfl, hb⟩; refine ⟨_, rfl, ?_⟩; replace BK661 := bb_ BK661 hb; replace BK662 := bb_ BK662 hb; replace HB := Aside0.mk (below_step bl_ hb); clear hb; have hcz31_0 : w30.cell? ⟨gb662, 0, none⟩ = some (.slice A1_0 l1_0.length c1_0) := bc_ BK662.out 0; have hcz31_1 : w30.cell? ⟨gb662, 1, none⟩ = some (.slice A1_1 l1_1.length c1_1) := bc_ BK662.out 1; have hfz31_0 := blk_frozen BK662.out 0; have hfz31_1 := blk_frozen BK662.out 1) | ((with_reducible refine gate_callee (f := 8) rfl ?_); refine goesL_ (some 24) rfl rfl Try.func8 (by kernel_rfl) rfl #[.agg #[.slice A1_0 l1_0.length c1_0, .slice A1_1 l1_1.length c1_1], .int .i64 t663] rfl nc_ ?_; (with_reducible refine (laws_szBag.calls k _ _ l1_0 _ _ l1_1 t663 t664 _ ?side1 ?side2 ?side3 ?side4 A10.out).mono ?_); (case side1 => exact kc_ (Kd.C_below HR1_0.out HB.out)); (case side2 => exact HC1_0.out); (case side3 => exact kc_ (Kd.C_below HR1_1.out HB.out)); (case side4 => exact HC1_1.out); rintro e w32 ⟨rfl, hb⟩; refine ⟨_, rfl, ?_⟩; replace BK661 := bb_ BK661 hb; replace BK662 := bb_ BK662 hb; replace HB := Aside0.mk (below_step bl_ hb); clear hb))
 replace BK661 := Aside0.mk (blk_drew BK661.out)
 replace BK662 := Aside0.mk (blk_drew BK662.out)
 replace HB := Aside0.mk (below_drew1 HB.out)
 refine start_ (n := 11) (S := fun w' => w'.cell? ⟨gb661, 0, none⟩ = some (.slice A0_0 l0_0.length c0_0) ∧ w'.cell? ⟨gb661, 1, none⟩ = some (.slice A0_1 l0_1.length c0_1) ∧ w'.cell? ⟨gb662, 0, none⟩ = some (.slice A1_0 l1_0.length c1_0) ∧ w'.cell? ⟨gb662, 1, none⟩ = some (.slice A1_1 l1_1.length c1_1)) (ds := []) #[false, false, false, false, false, false, false, false, false, false, false] (by kernel_rfl) rfl rfl ⟨bc_ BK661.out 0, bc_ BK661.out 1, bc_ BK662.out 0, bc_ BK662.out 1⟩ (fun hHeld => ?_); refine with_tabW laws_FnExactMergeBag.tab8 laws_FnExactMergeBag.bits8 (fun HT_ HW_ => ?_)
 generalize w32.drew = w33 at BK661 BK662 HB hHeld ⊢
 refine tk4_ 0 (some 28) (h := ?_)
 refine tk4_ 2 (some 30) (h := ?_)
 refine join_ (σ := Value × Value × Value × Value × Value × Value × Nat) 2 #[true, true, true, true, true, true, true, true, true, false, false] (fun s_ => [(29, .agg #[s_.1, s_.2.1]), (31, .agg #[s_.2.2.1, s_.2.2.2.1]), (32, .tuple #[.agg #[s_.2.2.2.2.1, s_.2.2.2.2.2.1], .bool t683]), (6, .pointer (some ⟨s_.2.2.2.2.2.2, 0, none⟩)), (27, .tuple #[.agg #[s_.2.2.2.2.1, s_.2.2.2.2.2.1], .bool t683]), (33, .agg #[s_.2.2.2.2.1, s_.2.2.2.2.2.1]), (34, .bool t683)]) (fun s_ w' => (w'.cell? ⟨gb661, 0, none⟩ = some (.slice A0_0 l0_0.length c0_0) ∧ w'.cell? ⟨gb661, 1, none⟩ = some (.slice A0_1 l0_1.length c0_1) ∧ w'.cell? ⟨gb662, 0, none⟩ = some (.slice A1_0 l1_0.length c1_0) ∧ w'.cell? ⟨gb662, 1, none⟩ = some (.slice A1_1 l1_1.length c1_1)) ∧ (Kd.R k48 48 w' w.heap.size (fun k_ => some k_ ≠ (s_.2.1 : Value).ownBlock ∧ some k_ ≠ (s_.2.2.1 : Value).ownBlock ∧ some k_ ≠ (s_.2.2.2.1 : Value).ownBlock ∧ some k_ ≠ (s_.2.2.2.2.1 : Value).ownBlock ∧ some k_ ≠ (s_.2.2.2.2.2.1 : Value).ownBlock) s_.1 t665) ∧ (Kd.R k48 48 w' w.heap.size (fun k_ => some k_ ≠ (s_.1 : Value).ownBlock ∧ some k_ ≠ (s_.2.2.1 : Value).ownBlock ∧ some k_ ≠ (s_.2.2.2.1 : Value).ownBlock ∧ some k_ ≠ (s_.2.2.2.2.1 : Value).ownBlock ∧ some k_ ≠ (s_.2.2.2.2.2.1 : Value).ownBlock) s_.2.1 t668) ∧ (Kd.R k48 48 w' w.heap.size (fun k_ => some k_ ≠ (s_.1 : Value).ownBlock ∧ some k_ ≠ (s_.2.1 : Value).ownBlock ∧ some k_ ≠ (s_.2.2.2.1 : Value).ownBlock ∧ some k_ ≠ (s_.2.2.2.2.1 : Value).ownBlock ∧ some k_ ≠ (s_.2.2.2.2.2.1 : Value).ownBlock) s_.2.2.1 t671) ∧ (Kd.R k48 48 w' w.heap.size (fun k_ => some k_ ≠ (s_.1 : Value).ownBlock ∧ some k_ ≠ (s_.2.1 : Value).ownBlock ∧ some k_ ≠ (s_.2.2.1 : Value).ownBlock ∧ some k_ ≠ (s_.2.2.2.2.1 : Value).ownBlock ∧ some k_ ≠ (s_.2.2.2.2.2.1 : Value).ownBlock) s_.2.2.2.1 t674) ∧ (Kd.R k48 48 w' w.heap.size (fun k_ => some k_ ≠ (s_.1 : Value).ownBlock ∧ some k_ ≠ (s_.2.1 : Value).ownBlock ∧ some k_ ≠ (s_.2.2.1 : Value).ownBlock ∧ some k_ ≠ (s_.2.2.2.1 : Value).ownBlock ∧ some k_ ≠ (s_.2.2.2.2.2.1 : Value).ownBlock) s_.2.2.2.2.1 t677) ∧ (Kd.R k48 48 w' w.heap.size (fun k_ => some k_ ≠ (s_.1 : Value).ownBlock ∧ some k_ ≠ (s_.2.1 : Value).ownBlock ∧ some k_ ≠ (s_.2.2.1 : Value).ownBlock ∧ some k_ ≠ (s_.2.2.2.1 : Value).ownBlock ∧ some k_ ≠ (s_.2.2.2.2.1 : Value).ownBlock) s_.2.2.2.2.2.1 t680) ∧ (w'.heap[gb661]? = some (.cells #[.slice A0_0 l0_0.length c0_0, .slice A0_1 l0_1.length c0_1] 24 (0, 0))) ∧ (w'.heap[gb662]? = some (.cells #[.slice A1_0 l1_0.length c1_0, .slice A1_1 l1_1.length c1_1] 24 (0, 0))) ∧ (w'.heap[s_.2.2.2.2.2.2]? = some (.cells #[.slice none 0 0, .slice none 0 0] 29 (0, 0))) ∧ (w.heap.size ≤ s_.2.2.2.2.2.2) ∧ (w.heap.size ≤ s_.2.2.2.2.2.2) ∧ (gb661 ≠ s_.2.2.2.2.2.2) ∧ (s_.2.2.2.2.2.2 ≠ gb661) ∧ (gb662 ≠ s_.2.2.2.2.2.2) ∧ (s_.2.2.2.2.2.2 ≠ gb662) ∧ (Below w.heap.size w w')) ?_ ?_
 rotate_left
 ·intro hCont
  refine tw_ 1 8 (some 29) (some 6) (h1 := fun K hK => ?_) (h2 := fun K hK => ?_)
  ·skip
   refine goes_ Try.func10 (by kernel_rfl) rfl #[.agg #[.slice A0_0 l0_0.length c0_0, .slice A0_1 l0_1.length c0_1]] (by rfl) rfl rfl nc_ ?_
   with_reducible refine (laws_toBag.calls k _ _ l0_0 _ _ l0_1 t665 t668 _ ?side1 ?side2 ?side3 ?side4 A19.out).mono ?_
   (case side1 => exact kc_ (Kd.C_below HR0_0.out HB.out))
   (case side2 => exact HC0_0.out)
   (case side3 => exact kc_ (Kd.C_below HR0_1.out HB.out))
   (case side4 => exact HC0_1.out)
   rintro e w34 ⟨v666, v669, rfl, ho0, ho1, hb⟩
   refine ⟨_, rfl, ?_⟩
   have HO667 := Aside0.mk (Kd.R_lower ho0 bz_)
   have HO670 := Aside0.mk (Kd.R_lower ho1 bz_)
   replace BK661 := bb_ BK661 hb
   replace BK662 := bb_ BK662 hb
   replace HB := Aside0.mk (below_step bl_ hb)
   clear hb ho0 ho1
   refine hK.out _ _ ⟨bc_ BK661.out 0, bc_ BK661.out 1, bc_ BK662.out 0, bc_ BK662.out 1⟩ (fun hHeld => ?_)
   clear hK K
   refine norm_ nn_ ?_
   refine tw_ 3 8 (some 31) (some 6) (h1 := fun K hK => ?_) (h2 := fun K hK => ?_)
   ·skip
    refine goes_ Try.func10 (by kernel_rfl) rfl #[.agg #[.slice A1_0 l1_0.length c1_0, .slice A1_1 l1_1.length c1_1]] (by rfl) rfl rfl nc_ ?_
    with_reducible refine (laws_toBag.calls k _ _ l1_0 _ _ l1_1 t671 t674 _ ?side1 ?side2 ?side3 ?side4 A20.out).mono ?_
    (case side1 => exact kc_ (Kd.C_below HR1_0.out HB.out))
    (case side2 => exact HC1_0.out)
    (case side3 => exact kc_ (Kd.C_below HR1_1.out HB.out))
    (case side4 => exact HC1_1.out)
    rintro e w35 ⟨v672, v675, rfl, ho0, ho1, hb⟩
    refine ⟨_, rfl, ?_⟩
    have HO673 := Aside0.mk (Kd.R_lower (rn_ (rn_ ho0 HO667.out) HO670.out) bz_)
    have HO676 := Aside0.mk (Kd.R_lower (rn_ (rn_ ho1 HO667.out) HO670.out) bz_)
    replace HO667 := rp2_ HO667 hb ho0 ho1
    replace HO670 := rp2_ HO670 hb ho0 ho1
    replace BK661 := bb_ BK661 hb
    replace BK662 := bb_ BK662 hb
    replace HB := Aside0.mk (below_step bl_ hb)
    clear hb ho0 ho1
    obtain ⟨Ao36, co36, eo36⟩ := Kd.R_slice HO667.out
    (first | subst eo36 | (injection eo36 with f1_ f2_ f3_; have f4_ := f1_.symm; have f5_ := f3_.symm; clear f1_ f2_ f3_; subst f4_; subst f5_))
    obtain ⟨Ao37, co37, eo37⟩ := Kd.R_slice HO670.out
    (first | subst eo37 | (injection eo37 with f1_ f2_ f3_; have f4_ := f1_.symm; have f5_ := f3_.symm; clear f1_ f2_ f3_; subst f4_; subst f5_))
    obtain ⟨Ao38, co38, eo38⟩ := Kd.R_slice HO673.out
    (first | subst eo38 | (injection eo38 with f1_ f2_ f3_; have f4_ := f1_.symm; have f5_ := f3_.symm; clear f1_ f2_ f3_; subst f4_; subst f5_))
    obtain ⟨Ao39, co39, eo39⟩ := Kd.R_slice HO676.out
    (first | subst eo39 | (injection eo39 with f1_ f2_ f3_; have f4_ := f1_.symm; have f5_ := f3_.symm; clear f1_ f2_ f3_; subst f4_; subst f5_))
    refine hK.out _ _ ⟨bc_ BK661.out 0, bc_ BK661.out 1, bc_ BK662.out 0, bc_ BK662.out 1⟩ (fun hHeld => ?_)
    clear hK K
    refine norm_ nn_ ?_
    refine tw_ 4 8 (some 32) (some 6) (h1 := fun K hK => ?_) (h2 := fun K hK => ?_)
    ·skip
     refine goes_ Try.func17 (by kernel_rfl) rfl #[.agg #[.slice Ao36 t665.length co36, .slice Ao37 t668.length co37], .agg #[.slice Ao38 t671.length co38, .slice Ao39 t674.length co39]] (by rfl) rfl rfl nc_ ?_
     with_reducible refine (spec_MergeBag.calls k (fun k_ => some k_ = (.slice Ao36 t665.length co36 : Value).ownBlock) _ _ t665 _ _ t668 (fun k_ => some k_ = (.slice Ao38 t671.length co38 : Value).ownBlock) _ _ t671 _ _ t674 t677 t680 t683 _ ?side1 ?side2 ?side3 ?side4 ?side5 ?side6 A21.out).mono ?_
     (case side1 => exact Kd.R_V (Kd.R_tight rfl (Kd.R_types (Kd.R_types (HO667.out) BK661.out (by decide)) BK662.out (by decide))))
     (case side2 => exact kc_ (Kd.R_reads' HO670.out).2.2)
     (case side3 => exact (Kd.R_reads' HO670.out).2.1)
     (case side4 => exact Kd.R_V (Kd.R_tight rfl (Kd.R_types (Kd.R_types (HO673.out) BK661.out (by decide)) BK662.out (by decide))))
     (case side5 => exact kc_ (Kd.R_reads' HO676.out).2.2)
     (case side6 => exact (Kd.R_reads' HO676.out).2.1)
     rintro e w40 ⟨v678, v681, rfl, ho0, ho1, hb⟩
     refine ⟨_, rfl, ?_⟩
     have HO679 := Aside0.mk (Kd.R_lower (rn_ (rn_ (rn_ (rn_ (Kd.R_mono (ok' := fun k_ => some k_ ≠ (v681 : Value).ownBlock) ho0 (fun _ hk_ => hk_.2)) HO667.out) HO670.out) HO673.out) HO676.out) bz_)
     have HO682 := Aside0.mk (Kd.R_lower (rn_ (rn_ (rn_ (rn_ (Kd.R_mono (ok' := fun k_ => some k_ ≠ (v678 : Value).ownBlock) ho1 (fun _ hk_ => hk_.2)) HO667.out) HO670.out) HO673.out) HO676.out) bz_)
     replace HO667 := rp2_ HO667 hb ho0 ho1
     replace HO670 := rp2_ HO670 hb ho0 ho1
     replace HO673 := rp2_ HO673 hb ho0 ho1
     replace HO676 := rp2_ HO676 hb ho0 ho1
     replace BK661 := bb_ BK661 hb
     replace BK662 := bb_ BK662 hb
     replace HB := Aside0.mk (below_step bl_ hb)
     clear hb ho0 ho1
     refine hK.out _ _ ⟨bc_ BK661.out 0, bc_ BK661.out 1, bc_ BK662.out 0, bc_ BK662.out 1⟩ (fun hHeld => ?_)
     clear hK K
     refine norm_ nn_ ?_
     refine pu_ 5 (some 27) (h := ?_)
     refine pu_ 6 (some 33) (h := ?_)
     refine pu_ 7 (some 34) (h := ?_)
     refine on_ 8 (some 6) (h := fun K hK => ?_)
     refine box_step rfl (N := 6) rfl (cs := #[.slice none 0 0, .slice none 0 0]) (t := 29) gs_ ?_
     intro gb684 hg w41 hbox hb
     replace HO667 := rb_ HO667 hb
     replace HO670 := rb_ HO670 hb
     replace HO673 := rb_ HO673 hb
     replace HO676 := rb_ HO676 hb
     replace HO679 := rb_ HO679 hb
     replace HO682 := rb_ HO682 hb
     have BK684 := Aside0.mk (hbox)
     have GW684 := Aside0.mk ((by rw [hg]; exact bz_ : w.heap.size ≤ gb684))
     have GE684 := GW684
     replace HB := Aside0.mk (below_step bl_ hb)
     have NB661_684 := nl_ hg BK661
     have NB684_661 := nm_ hg BK661
     replace BK661 := bb_ BK661 hb
     have NB662_684 := nl_ hg BK662
     have NB684_662 := nm_ hg BK662
     replace BK662 := bb_ BK662 hb
     clear hb hbox hg
     refine hK.out _ _ ⟨bc_ BK661.out 0, bc_ BK661.out 1, bc_ BK662.out 0, bc_ BK662.out 1⟩ (fun hHeld => ?_)
     clear hK K
     refine norm_ nn_ ?_
     exact norm_ (by simp only [putAll, Act.put, List.setIfInBounds_toArray, List.set_cons_zero, List.set_cons_succ]) (hCont (.slice Ao36 t665.length co36, .slice Ao37 t668.length co37, .slice Ao38 t671.length co38, .slice Ao39 t674.length co39, v678, v681, gb684) _ ⟨hHeld, kp_ HO667.out, kp_ HO670.out, kp_ HO673.out, kp_ HO676.out, kp_ HO679.out, kp_ HO682.out, kb_ BK661.out, kb_ BK662.out, kb_ BK684.out, GW684.out, GE684.out, NB661_684.out, NB684_661.out, NB662_684.out, NB684_662.out, bl_⟩)
    ·skip
     refine box_step rfl (N := 6) rfl (cs := #[.slice none 0 0, .slice none 0 0]) (t := 29) gs_ ?_
     intro gb684 hg w36 hbox hb
     replace HO667 := rb_ HO667 hb
     replace HO670 := rb_ HO670 hb
     replace HO673 := rb_ HO673 hb
     replace HO676 := rb_ HO676 hb
     have BK684 := Aside0.mk (hbox)
     have GW684 := Aside0.mk ((by rw [hg]; exact bz_ : w.heap.size ≤ gb684))
     have GE684 := GW684
     replace HB := Aside0.mk (below_step bl_ hb)
     have NB661_684 := nl_ hg BK661
     have NB684_661 := nm_ hg BK661
     replace BK661 := bb_ BK661 hb
     have NB662_684 := nl_ hg BK662
     have NB684_662 := nm_ hg BK662
     replace BK662 := bb_ BK662 hb
     clear hb hbox hg
     obtain ⟨Ao37, co37, eo37⟩ := Kd.R_slice HO667.out
     (first | subst eo37 | (injection eo37 with f1_ f2_ f3_; have f4_ := f1_.symm; have f5_ := f3_.symm; clear f1_ f2_ f3_; subst f4_; subst f5_))
     obtain ⟨Ao38, co38, eo38⟩ := Kd.R_slice HO670.out
     (first | subst eo38 | (injection eo38 with f1_ f2_ f3_; have f4_ := f1_.symm; have f5_ := f3_.symm; clear f1_ f2_ f3_; subst f4_; subst f5_))
     obtain ⟨Ao39, co39, eo39⟩ := Kd.R_slice HO673.out
     (first | subst eo39 | (injection eo39 with f1_ f2_ f3_; have f4_ := f1_.symm; have f5_ := f3_.symm; clear f1_ f2_ f3_; subst f4_; subst f5_))
     obtain ⟨Ao40, co40, eo40⟩ := Kd.R_slice HO676.out
     (first | subst eo40 | (injection eo40 with f1_ f2_ f3_; have f4_ := f1_.symm; have f5_ := f3_.symm; clear f1_ f2_ f3_; subst f4_; subst f5_))
     refine hK.out _ _ ⟨bc_ BK661.out 0, bc_ BK661.out 1, bc_ BK662.out 0, bc_ BK662.out 1⟩ (fun hHeld => ?_)
     clear hK K
     refine norm_ nn_ ?_
     refine on_ 4 (some 32) (h := fun K hK => ?_)
     refine goes_ Try.func17 (by kernel_rfl) rfl #[.agg #[.slice Ao37 t665.length co37, .slice Ao38 t668.length co38], .agg #[.slice Ao39 t671.length co39, .slice Ao40 t674.length co40]] (by rfl) rfl rfl nc_ ?_
     with_reducible refine (spec_MergeBag.calls k (fun k_ => some k_ = (.slice Ao37 t665.length co37 : Value).ownBlock) _ _ t665 _ _ t668 (fun k_ => some k_ = (.slice Ao39 t671.length co39 : Value).ownBlock) _ _ t671 _ _ t674 t677 t680 t683 _ ?side1 ?side2 ?side3 ?side4 ?side5 ?side6 A21.out).mono ?_
     (case side1 => exact Kd.R_V (Kd.R_tight rfl (Kd.R_types (Kd.R_types (Kd.R_types (HO667.out) BK661.out (by decide)) BK662.out (by decide)) BK684.out (by decide))))
     (case side2 => exact kc_ (Kd.R_reads' HO670.out).2.2)
     (case side3 => exact (Kd.R_reads' HO670.out).2.1)
     (case side4 => exact Kd.R_V (Kd.R_tight rfl (Kd.R_types (Kd.R_types (Kd.R_types (HO673.out) BK661.out (by decide)) BK662.out (by decide)) BK684.out (by decide))))
     (case side5 => exact kc_ (Kd.R_reads' HO676.out).2.2)
     (case side6 => exact (Kd.R_reads' HO676.out).2.1)
     rintro e w41 ⟨v678, v681, rfl, ho0, ho1, hb⟩
     refine ⟨_, rfl, ?_⟩
     have HO679 := Aside0.mk (Kd.R_lower (rn_ (rn_ (rn_ (rn_ (Kd.R_mono (ok' := fun k_ => some k_ ≠ (v681 : Value).ownBlock) ho0 (fun _ hk_ => hk_.2)) HO667.out) HO670.out) HO673.out) HO676.out) bz_)
     have HO682 := Aside0.mk (Kd.R_lower (rn_ (rn_ (rn_ (rn_ (Kd.R_mono (ok' := fun k_ => some k_ ≠ (v678 : Value).ownBlock) ho1 (fun _ hk_ => hk_.2)) HO667.out) HO670.out) HO673.out) HO676.out) bz_)
     replace HO667 := rp2_ HO667 hb ho0 ho1
     replace HO670 := rp2_ HO670 hb ho0 ho1
     replace HO673 := rp2_ HO673 hb ho0 ho1
     replace HO676 := rp2_ HO676 hb ho0 ho1
     replace BK661 := bb_ BK661 hb
     replace BK662 := bb_ BK662 hb
     replace BK684 := bb_ BK684 hb
     replace HB := Aside0.mk (below_step bl_ hb)
     clear hb ho0 ho1
     refine hK.out _ _ ⟨bc_ BK661.out 0, bc_ BK661.out 1, bc_ BK662.out 0, bc_ BK662.out 1⟩ (fun hHeld => ?_)
     clear hK K
     refine norm_ nn_ ?_
     refine pu_ 5 (some 27) (h := ?_)
     refine pu_ 6 (some 33) (h := ?_)
     refine pu_ 7 (some 34) (h := ?_)
     exact norm_ (by simp only [putAll, Act.put, List.setIfInBounds_toArray, List.set_cons_zero, List.set_cons_succ]) (hCont (.slice Ao37 t665.length co37, .slice Ao38 t668.length co38, .slice Ao39 t671.length co39, .slice Ao40 t674.length co40, v678, v681, gb684) _ ⟨hHeld, kp_ HO667.out, kp_ HO670.out, kp_ HO673.out, kp_ HO676.out, kp_ HO679.out, kp_ HO682.out, kb_ BK661.out, kb_ BK662.out, kb_ BK684.out, GW684.out, GE684.out, NB661_684.out, NB684_661.out, NB662_684.out, NB684_662.out, bl_⟩)
   ·skip
    refine box_step rfl (N := 6) rfl (cs := #[.slice none 0 0, .slice none 0 0]) (t := 29) gs_ ?_
    intro gb684 hg w35 hbox hb
    replace HO667 := rb_ HO667 hb
    replace HO670 := rb_ HO670 hb
    have BK684 := Aside0.mk (hbox)
    have GW684 := Aside0.mk ((by rw [hg]; exact bz_ : w.heap.size ≤ gb684))
    have GE684 := GW684
    replace HB := Aside0.mk (below_step bl_ hb)
    have NB661_684 := nl_ hg BK661
    have NB684_661 := nm_ hg BK661
    replace BK661 := bb_ BK661 hb
    have NB662_684 := nl_ hg BK662
    have NB684_662 := nm_ hg BK662
    replace BK662 := bb_ BK662 hb
    clear hb hbox hg
    refine hK.out _ _ ⟨bc_ BK661.out 0, bc_ BK661.out 1, bc_ BK662.out 0, bc_ BK662.out 1⟩ (fun hHeld => ?_)
    clear hK K
    refine norm_ nn_ ?_
    refine on_ 3 (some 31) (h := fun K hK => ?_)
    refine goes_ Try.func10 (by kernel_rfl) rfl #[.agg #[.slice A1_0 l1_0.length c1_0, .slice A1_1 l1_1.length c1_1]] (by rfl) rfl rfl nc_ ?_
    with_reducible refine (laws_toBag.calls k _ _ l1_0 _ _ l1_1 t671 t674 _ ?side1 ?side2 ?side3 ?side4 A20.out).mono ?_
    (case side1 => exact kc_ (Kd.C_below HR1_0.out HB.out))
    (case side2 => exact HC1_0.out)
    (case side3 => exact kc_ (Kd.C_below HR1_1.out HB.out))
    (case side4 => exact HC1_1.out)
    rintro e w36 ⟨v672, v675, rfl, ho0, ho1, hb⟩
    refine ⟨_, rfl, ?_⟩
    have HO673 := Aside0.mk (Kd.R_lower (rn_ (rn_ ho0 HO667.out) HO670.out) bz_)
    have HO676 := Aside0.mk (Kd.R_lower (rn_ (rn_ ho1 HO667.out) HO670.out) bz_)
    replace HO667 := rp2_ HO667 hb ho0 ho1
    replace HO670 := rp2_ HO670 hb ho0 ho1
    replace BK661 := bb_ BK661 hb
    replace BK662 := bb_ BK662 hb
    replace BK684 := bb_ BK684 hb
    replace HB := Aside0.mk (below_step bl_ hb)
    clear hb ho0 ho1
    obtain ⟨Ao37, co37, eo37⟩ := Kd.R_slice HO667.out
    (first | subst eo37 | (injection eo37 with f1_ f2_ f3_; have f4_ := f1_.symm; have f5_ := f3_.symm; clear f1_ f2_ f3_; subst f4_; subst f5_))
    obtain ⟨Ao38, co38, eo38⟩ := Kd.R_slice HO670.out
    (first | subst eo38 | (injection eo38 with f1_ f2_ f3_; have f4_ := f1_.symm; have f5_ := f3_.symm; clear f1_ f2_ f3_; subst f4_; subst f5_))
    obtain ⟨Ao39, co39, eo39⟩ := Kd.R_slice HO673.out
    (first | subst eo39 | (injection eo39 with f1_ f2_ f3_; have f4_ := f1_.symm; have f5_ := f3_.symm; clear f1_ f2_ f3_; subst f4_; subst f5_))
    obtain ⟨Ao40, co40, eo40⟩ := Kd.R_slice HO676.out
    (first | subst eo40 | (injection eo40 with f1_ f2_ f3_; have f4_ := f1_.symm; have f5_ := f3_.symm; clear f1_ f2_ f3_; subst f4_; subst f5_))
    refine hK.out _ _ ⟨bc_ BK661.out 0, bc_ BK661.out 1, bc_ BK662.out 0, bc_ BK662.out 1⟩ (fun hHeld => ?_)
    clear hK K
    refine norm_ nn_ ?_
    refine on_ 4 (some 32) (h := fun K hK => ?_)
    refine goes_ Try.func17 (by kernel_rfl) rfl #[.agg #[.slice Ao37 t665.length co37, .slice Ao38 t668.length co38], .agg #[.slice Ao39 t671.length co39, .slice Ao40 t674.length co40]] (by rfl) rfl rfl nc_ ?_
    with_reducible refine (spec_MergeBag.calls k (fun k_ => some k_ = (.slice Ao37 t665.length co37 : Value).ownBlock) _ _ t665 _ _ t668 (fun k_ => some k_ = (.slice Ao39 t671.length co39 : Value).ownBlock) _ _ t671 _ _ t674 t677 t680 t683 _ ?side1 ?side2 ?side3 ?side4 ?side5 ?side6 A21.out).mono ?_
    (case side1 => exact Kd.R_V (Kd.R_tight rfl (Kd.R_types (Kd.R_types (Kd.R_types (HO667.out) BK661.out (by decide)) BK662.out (by decide)) BK684.out (by decide))))
    (case side2 => exact kc_ (Kd.R_reads' HO670.out).2.2)
    (case side3 => exact (Kd.R_reads' HO670.out).2.1)
    (case side4 => exact Kd.R_V (Kd.R_tight rfl (Kd.R_types (Kd.R_types (Kd.R_types (HO673.out) BK661.out (by decide)) BK662.out (by decide)) BK684.out (by decide))))
    (case side5 => exact kc_ (Kd.R_reads' HO676.out).2.2)
    (case side6 => exact (Kd.R_reads' HO676.out).2.1)
    rintro e w41 ⟨v678, v681, rfl, ho0, ho1, hb⟩
    refine ⟨_, rfl, ?_⟩
    have HO679 := Aside0.mk (Kd.R_lower (rn_ (rn_ (rn_ (rn_ (Kd.R_mono (ok' := fun k_ => some k_ ≠ (v681 : Value).ownBlock) ho0 (fun _ hk_ => hk_.2)) HO667.out) HO670.out) HO673.out) HO676.out) bz_)
    have HO682 := Aside0.mk (Kd.R_lower (rn_ (rn_ (rn_ (rn_ (Kd.R_mono (ok' := fun k_ => some k_ ≠ (v678 : Value).ownBlock) ho1 (fun _ hk_ => hk_.2)) HO667.out) HO670.out) HO673.out) HO676.out) bz_)
    replace HO667 := rp2_ HO667 hb ho0 ho1
    replace HO670 := rp2_ HO670 hb ho0 ho1
    replace HO673 := rp2_ HO673 hb ho0 ho1
    replace HO676 := rp2_ HO676 hb ho0 ho1
    replace BK661 := bb_ BK661 hb
    replace BK662 := bb_ BK662 hb
    replace BK684 := bb_ BK684 hb
    replace HB := Aside0.mk (below_step bl_ hb)
    clear hb ho0 ho1
    refine hK.out _ _ ⟨bc_ BK661.out 0, bc_ BK661.out 1, bc_ BK662.out 0, bc_ BK662.out 1⟩ (fun hHeld => ?_)
    clear hK K
    refine norm_ nn_ ?_
    refine pu_ 5 (some 27) (h := ?_)
    refine pu_ 6 (some 33) (h := ?_)
    refine pu_ 7 (some 34) (h := ?_)
    exact norm_ (by simp only [putAll, Act.put, List.setIfInBounds_toArray, List.set_cons_zero, List.set_cons_succ]) (hCont (.slice Ao37 t665.length co37, .slice Ao38 t668.length co38, .slice Ao39 t671.length co39, .slice Ao40 t674.length co40, v678, v681, gb684) _ ⟨hHeld, kp_ HO667.out, kp_ HO670.out, kp_ HO673.out, kp_ HO676.out, kp_ HO679.out, kp_ HO682.out, kb_ BK661.out, kb_ BK662.out, kb_ BK684.out, GW684.out, GE684.out, NB661_684.out, NB684_661.out, NB662_684.out, NB684_662.out, bl_⟩)
  ·skip
   refine box_step rfl (N := 6) rfl (cs := #[.slice none 0 0, .slice none 0 0]) (t := 29) gs_ ?_
   intro gb684 hg w34 hbox hb
   have BK684 := Aside0.mk (hbox)
   have GW684 := Aside0.mk ((by rw [hg]; exact bz_ : w.heap.size ≤ gb684))
   have GE684 := GW684
   replace HB := Aside0.mk (below_step bl_ hb)
   have NB661_684 := nl_ hg BK661
   have NB684_661 := nm_ hg BK661
   replace BK661 := bb_ BK661 hb
   have NB662_684 := nl_ hg BK662
   have NB684_662 := nm_ hg BK662
   replace BK662 := bb_ BK662 hb
   clear hb hbox hg
   refine hK.out _ _ ⟨bc_ BK661.out 0, bc_ BK661.out 1, bc_ BK662.out 0, bc_ BK662.out 1⟩ (fun hHeld => ?_)
   clear hK K
   refine norm_ nn_ ?_
   refine on_ 1 (some 29) (h := fun K hK => ?_)
   refine goes_ Try.func10 (by kernel_rfl) rfl #[.agg #[.slice A0_0 l0_0.length c0_0, .slice A0_1 l0_1.length c0_1]] (by rfl) rfl rfl nc_ ?_
   with_reducible refine (laws_toBag.calls k _ _ l0_0 _ _ l0_1 t665 t668 _ ?side1 ?side2 ?side3 ?side4 A19.out).mono ?_
   (case side1 => exact kc_ (Kd.C_below HR0_0.out HB.out))
   (case side2 => exact HC0_0.out)
   (case side3 => exact kc_ (Kd.C_below HR0_1.out HB.out))
   (case side4 => exact HC0_1.out)
   rintro e w35 ⟨v666, v669, rfl, ho0, ho1, hb⟩
   refine ⟨_, rfl, ?_⟩
   have HO667 := Aside0.mk (Kd.R_lower ho0 bz_)
   have HO670 := Aside0.mk (Kd.R_lower ho1 bz_)
   replace BK661 := bb_ BK661 hb
   replace BK662 := bb_ BK662 hb
   replace BK684 := bb_ BK684 hb
   replace HB := Aside0.mk (below_step bl_ hb)
   clear hb ho0 ho1
   refine hK.out _ _ ⟨bc_ BK661.out 0, bc_ BK661.out 1, bc_ BK662.out 0, bc_ BK662.out 1⟩ (fun hHeld => ?_)
   clear hK K
   refine norm_ nn_ ?_
   refine on_ 3 (some 31) (h := fun K hK => ?_)
   refine goes_ Try.func10 (by kernel_rfl) rfl #[.agg #[.slice A1_0 l1_0.length c1_0, .slice A1_1 l1_1.length c1_1]] (by rfl) rfl rfl nc_ ?_
   with_reducible refine (laws_toBag.calls k _ _ l1_0 _ _ l1_1 t671 t674 _ ?side1 ?side2 ?side3 ?side4 A20.out).mono ?_
   (case side1 => exact kc_ (Kd.C_below HR1_0.out HB.out))
   (case side2 => exact HC1_0.out)
   (case side3 => exact kc_ (Kd.C_below HR1_1.out HB.out))
   (case side4 => exact HC1_1.out)
   rintro e w36 ⟨v672, v675, rfl, ho0, ho1, hb⟩
   refine ⟨_, rfl, ?_⟩
   have HO673 := Aside0.mk (Kd.R_lower (rn_ (rn_ ho0 HO667.out) HO670.out) bz_)
   have HO676 := Aside0.mk (Kd.R_lower (rn_ (rn_ ho1 HO667.out) HO670.out) bz_)
   replace HO667 := rp2_ HO667 hb ho0 ho1
   replace HO670 := rp2_ HO670 hb ho0 ho1
   replace BK661 := bb_ BK661 hb
   replace BK662 := bb_ BK662 hb
   replace BK684 := bb_ BK684 hb
   replace HB := Aside0.mk (below_step bl_ hb)
   clear hb ho0 ho1
   obtain ⟨Ao37, co37, eo37⟩ := Kd.R_slice HO667.out
   (first | subst eo37 | (injection eo37 with f1_ f2_ f3_; have f4_ := f1_.symm; have f5_ := f3_.symm; clear f1_ f2_ f3_; subst f4_; subst f5_))
   obtain ⟨Ao38, co38, eo38⟩ := Kd.R_slice HO670.out
   (first | subst eo38 | (injection eo38 with f1_ f2_ f3_; have f4_ := f1_.symm; have f5_ := f3_.symm; clear f1_ f2_ f3_; subst f4_; subst f5_))
   obtain ⟨Ao39, co39, eo39⟩ := Kd.R_slice HO673.out
   (first | subst eo39 | (injection eo39 with f1_ f2_ f3_; have f4_ := f1_.symm; have f5_ := f3_.symm; clear f1_ f2_ f3_; subst f4_; subst f5_))
   obtain ⟨Ao40, co40, eo40⟩ := Kd.R_slice HO676.out
   (first | subst eo40 | (injection eo40 with f1_ f2_ f3_; have f4_ := f1_.symm; have f5_ := f3_.symm; clear f1_ f2_ f3_; subst f4_; subst f5_))
   refine hK.out _ _ ⟨bc_ BK661.out 0, bc_ BK661.out 1, bc_ BK662.out 0, bc_ BK662.out 1⟩ (fun hHeld => ?_)
   clear hK K
   refine norm_ nn_ ?_
   refine on_ 4 (some 32) (h := fun K hK => ?_)
   refine goes_ Try.func17 (by kernel_rfl) rfl #[.agg #[.slice Ao37 t665.length co37, .slice Ao38 t668.length co38], .agg #[.slice Ao39 t671.length co39, .slice Ao40 t674.length co40]] (by rfl) rfl rfl nc_ ?_
   with_reducible refine (spec_MergeBag.calls k (fun k_ => some k_ = (.slice Ao37 t665.length co37 : Value).ownBlock) _ _ t665 _ _ t668 (fun k_ => some k_ = (.slice Ao39 t671.length co39 : Value).ownBlock) _ _ t671 _ _ t674 t677 t680 t683 _ ?side1 ?side2 ?side3 ?side4 ?side5 ?side6 A21.out).mono ?_
   (case side1 => exact Kd.R_V (Kd.R_tight rfl (Kd.R_types (Kd.R_types (Kd.R_types (HO667.out) BK661.out (by decide)) BK662.out (by decide)) BK684.out (by decide))))
   (case side2 => exact kc_ (Kd.R_reads' HO670.out).2.2)
   (case side3 => exact (Kd.R_reads' HO670.out).2.1)
   (case side4 => exact Kd.R_V (Kd.R_tight rfl (Kd.R_types (Kd.R_types (Kd.R_types (HO673.out) BK661.out (by decide)) BK662.out (by decide)) BK684.out (by decide))))
   (case side5 => exact kc_ (Kd.R_reads' HO676.out).2.2)
   (case side6 => exact (Kd.R_reads' HO676.out).2.1)
   rintro e w41 ⟨v678, v681, rfl, ho0, ho1, hb⟩
   refine ⟨_, rfl, ?_⟩
   have HO679 := Aside0.mk (Kd.R_lower (rn_ (rn_ (rn_ (rn_ (Kd.R_mono (ok' := fun k_ => some k_ ≠ (v681 : Value).ownBlock) ho0 (fun _ hk_ => hk_.2)) HO667.out) HO670.out) HO673.out) HO676.out) bz_)
   have HO682 := Aside0.mk (Kd.R_lower (rn_ (rn_ (rn_ (rn_ (Kd.R_mono (ok' := fun k_ => some k_ ≠ (v678 : Value).ownBlock) ho1 (fun _ hk_ => hk_.2)) HO667.out) HO670.out) HO673.out) HO676.out) bz_)
   replace HO667 := rp2_ HO667 hb ho0 ho1
   replace HO670 := rp2_ HO670 hb ho0 ho1
   replace HO673 := rp2_ HO673 hb ho0 ho1
   replace HO676 := rp2_ HO676 hb ho0 ho1
   replace BK661 := bb_ BK661 hb
   replace BK662 := bb_ BK662 hb
   replace BK684 := bb_ BK684 hb
   replace HB := Aside0.mk (below_step bl_ hb)
   clear hb ho0 ho1
   refine hK.out _ _ ⟨bc_ BK661.out 0, bc_ BK661.out 1, bc_ BK662.out 0, bc_ BK662.out 1⟩ (fun hHeld => ?_)
   clear hK K
   refine norm_ nn_ ?_
   refine pu_ 5 (some 27) (h := ?_)
   refine pu_ 6 (some 33) (h := ?_)
   refine pu_ 7 (some 34) (h := ?_)
   exact norm_ (by simp only [putAll, Act.put, List.setIfInBounds_toArray, List.set_cons_zero, List.set_cons_succ]) (hCont (.slice Ao37 t665.length co37, .slice Ao38 t668.length co38, .slice Ao39 t671.length co39, .slice Ao40 t674.length co40, v678, v681, gb684) _ ⟨hHeld, kp_ HO667.out, kp_ HO670.out, kp_ HO673.out, kp_ HO676.out, kp_ HO679.out, kp_ HO682.out, kb_ BK661.out, kb_ BK662.out, kb_ BK684.out, GW684.out, GE684.out, NB661_684.out, NB684_661.out, NB662_684.out, NB684_662.out, bl_⟩)
 rintro ⟨v666, v669, v672, v675, v678, v681, gb684⟩ w42 ⟨hS_, h0_, h1_, h2_, h3_, h4_, h5_, h6_, h7_, h8_, h9_, h10_, h11_, h12_, h13_, h14_, h15_⟩
 dsimp only at h0_ h1_ h2_ h3_ h4_ h5_ h6_ h7_ h8_ h9_ h10_ h11_ h12_ h13_ h14_ h15_
 have HO667 := Aside0.mk h0_
 have HO670 := Aside0.mk h1_
 have HO673 := Aside0.mk h2_
 have HO676 := Aside0.mk h3_
 have HO679 := Aside0.mk h4_
 have HO682 := Aside0.mk h5_
 replace BK661 := Aside0.mk h6_
 replace BK662 := Aside0.mk h7_
 have BK684 := Aside0.mk h8_
 have GW684 := Aside0.mk h9_
 have GE684 := Aside0.mk h10_
 have NB661_684 := Aside0.mk h11_
 have NB684_661 := Aside0.mk h12_
 have NB662_684 := Aside0.mk h13_
 have NB684_662 := Aside0.mk h14_
 replace HB := Aside0.mk h15_
 clear h0_ h1_ h2_ h3_ h4_ h5_ h6_ h7_ h8_ h9_ h10_ h11_ h12_ h13_ h14_ h15_
 try dsimp only at hS_
 have hHeld := hS_
 obtain ⟨Ao43, co43, eo43⟩ := Kd.R_slice HO679.out
 (first | subst eo43 | (injection eo43 with f1_ f2_ f3_; have f4_ := f1_.symm; have f5_ := f3_.symm; clear f1_ f2_ f3_; subst f4_; subst f5_))
 obtain ⟨Ao45, co45, eo45⟩ := Kd.R_slice HO682.out
 (first | subst eo45 | (injection eo45 with f1_ f2_ f3_; have f4_ := f1_.symm; have f5_ := f3_.symm; clear f1_ f2_ f3_; subst f4_; subst f5_))
 refine norm_ np_ ?_
 refine on_ 9 none (h := fun K hK => ?_)
 have hs44 : w42.cell? ⟨gb684, 0, none⟩ = some (.slice none 0 0) := bc_ BK684.out 0
 have hfs44 := blk_frozen BK684.out 0
 have hns44_0 := NB661_684.out
 have hns44_1 := NB662_684.out
 have hms44_0 := NB684_661.out
 have hms44_1 := NB684_662.out
 have hs46 : w42.cell? ⟨gb684, 1, none⟩ = some (.slice none 0 0) := bc_ BK684.out 1
 have hfs46 := blk_frozen BK684.out 1
 have hns46_0 := NB661_684.out
 have hns46_1 := NB662_684.out
 have hms46_0 := NB684_661.out
 have hms46_1 := NB684_662.out
 refine skip_ (w1 := ?_) (by rfl) rfl ?_ ?_
 rotate_left
 ·go_simp
  rfl
 refine hK.out _ _ ⟨((cell_far (p := ⟨gb684, _, none⟩) NB661_684.out _).trans (((cell_far (p := ⟨gb684, _, none⟩) NB661_684.out _).trans (hHeld.1)))), ((cell_far (p := ⟨gb684, _, none⟩) NB661_684.out _).trans (((cell_far (p := ⟨gb684, _, none⟩) NB661_684.out _).trans (hHeld.2.1)))), ((cell_far (p := ⟨gb684, _, none⟩) NB662_684.out _).trans (((cell_far (p := ⟨gb684, _, none⟩) NB662_684.out _).trans (hHeld.2.2.1)))), ((cell_far (p := ⟨gb684, _, none⟩) NB662_684.out _).trans (((cell_far (p := ⟨gb684, _, none⟩) NB662_684.out _).trans (hHeld.2.2.2))))⟩ (fun hHeld => ?_)
 clear hK K
 refine pu_ 10 (some 7) (h := ?_)
 refine done_ (done_of HT_.out (by kernel_rfl)) ?_
 have hnb47 := NB661_684.out
 have hnc47 := NB684_661.out
 have hcz48_0 : w42.cell? ⟨gb661, 0, none⟩ = some (.slice A0_0 l0_0.length c0_0) := bc_ BK661.out 0
 have hcz48_1 : w42.cell? ⟨gb661, 1, none⟩ = some (.slice A0_1 l0_1.length c0_1) := bc_ BK661.out 1
 have hfz48_0 := blk_frozen BK661.out 0
 have hfz48_1 := blk_frozen BK661.out 1
 go_upto_region 12 with (first | ((with_reducible refine gate_callee (f := 10) rfl ?_); refine goesL_ (some 36) rfl rfl Try.func10 (by kernel_rfl) rfl #[.agg #[.slice A0_0 l0_0.length c0_0, .slice A0_1 l0_1.length c0_1]] rfl nc_ ?_; (with_reducible refine (laws_toBag.calls k _ _ l0_0 _ _ l0_1 t685 t688 _ ?side1 ?side2 ?side3 ?side4 A22.out).mono ?_); (case side1 => exact Kd.C_below HR0_0.out bl_); (case side2 => exact HC0_0.out); (case side3 => exact Kd.C_below HR0_1.out bl_); (case side4 => exact HC0_1.out); rintro e w49 ⟨v686, v689, rfl, ho0, ho1, hb⟩; refine ⟨_, rfl, ?_⟩; have HO687 := Aside0.mk (Kd.R_lower (rn_ (rn_ (rn_ (rn_ (rn_ (rn_ ho0 (rs2_ HO667.out BK684.out (.slice Ao43 t677.length co43) (.slice Ao45 t680.length co45))) (rs2_ HO670.out BK684.out (.slice Ao43 t677.length co43) (.slice Ao45 t680.length co45))) (rs2_ HO673.out BK684.out (.slice Ao43 t677.length co43) (.slice Ao45 t680.length co45))) (rs2_ HO676.out BK684.out (.slice Ao43 t677.length co43) (.slice Ao45 t680.length co45))) (rs2_ HO679.out BK684.out (.slice Ao43 t677.length co43) (.slice Ao45 t680.length co45))) (rs2_ HO682.out BK684.out (.slice Ao43 t677.length co43) (.slice Ao45 t680.length co45))) bz_); have HO690 := Aside0.mk (Kd.R_lower (rn_ (rn_ (rn_ (rn_ (rn_ (rn_ ho1 (rs2_ HO667.out BK684.out (.slice Ao43 t677.length co43) (.slice Ao45 t680.length co45))) (rs2_ HO670.out BK684.out (.slice Ao43 t677.length co43) (.slice Ao45 t680.length co45))) (rs2_ HO673.out BK684.out (.slice Ao43 t677.length co43) (.slice Ao45 t680.length co45))) (rs2_ HO676.out BK684.out (.slice Ao43 t677.length co43) (.slice Ao45 t680.length co45))) (rs2_ HO679.out BK684.out (.slice Ao43 t677.length co43) (.slice Ao45 t680.length co45))) (rs2_ HO682.out BK684.out (.slice Ao43 t677.length co43) (.slice Ao45 t680.length co45))) bz_); replace HO667 := Aside0.mk (ro2_ (rs2_ HO667.out BK684.out (.slice Ao43 t677.length co43) (.slice Ao45 t680.length co45)) hb (Kd.R_base ho0) (Kd.R_base ho1)); replace HO670 := Aside0.mk (ro2_ (rs2_ HO670.out BK684.out (.slice Ao43 t677.length co43) (.slice Ao45 t680.length co45)) hb (Kd.R_base ho0) (Kd.R_base ho1)); replace HO673 := Aside0.mk (ro2_ (rs2_ HO673.out BK684.out (.slice Ao43 t677.length co43) (.slice Ao45 t680.length co45)) hb (Kd.R_base ho0) (Kd.R_base ho1)); replace HO676 := Aside0.mk (ro2_ (rs2_ HO676.out BK684.out (.slice Ao43 t677.length co43) (.slice Ao45 t680.length co45)) hb (Kd.R_base ho0) (Kd.R_base ho1)); replace HO679 := Aside0.mk (ro2_ (rs2_ HO679.out BK684.out (.slice Ao43 t677.length co43) (.slice Ao45 t680.length co45)) hb (Kd.R_base ho0) (Kd.R_base ho1)); replace HO682 := Aside0.mk (ro2_ (rs2_ HO682.out BK684.out (.slice Ao43 t677.length co43) (.slice Ao45 t680.length co45)) hb (Kd.R_base ho0) (Kd.R_base ho1)); replace BK661 := Aside0.mk (blk_below (g := gb661) (o := .cells #[.slice A0_0 l0_0.length c0_0, .slice A0_1 l0_1.length c0_1] 24 (0, 0)) kz_ hb); replace BK662 := Aside0.mk (blk_below (g := gb662) (o := .cells #[.slice A1_0 l1_0.length c1_0, .slice A1_1 l1_1.length c1_1] 24 (0, 0)) kz_ hb); replace BK684 := Aside0.mk (blk_below (g := gb684) (o := .cells #[.slice Ao43 t677.length co43, .slice Ao45 t680.length co45] 29 (0, 0)) (by (with_reducible repeat (first | refine blk_drewN ?_ _ | refine blk_drew ?_ | refine blk_alloc ?_ _)); refine blk_put (cs := #[.slice Ao43 t677.length co43, .slice none 0 0]) ?_ 1 _ rfl; (with_reducible repeat (first | refine blk_drewN ?_ _ | refine blk_drew ?_ | refine blk_alloc ?_ _)); refine blk_put (cs := #[.slice none 0 0, .slice none 0 0]) ?_ 0 _ rfl; exact kb_ BK684.out) hb); replace HB := Aside0.mk (below_step bl_ hb); clear hb ho0 ho1) | ((with_reducible refine gate_dst (N := 8) rfl ?_); refine box_event rfl (N := 8) rfl (cs := #[.slice none 0 0, .slice none 0 0]) (t := 29) gs_ ?_; intro gb691 hg w50 hbox hb; replace HO667 := rb_ HO667 hb; replace HO670 := rb_ HO670 hb; replace HO673 := rb_ HO673 hb; replace HO676 := rb_ HO676 hb; replace HO679 := rb_ HO679 hb; replace HO682 := rb_ HO682 hb; replace HO687 := rb_ HO687 hb; replace HO690 := rb_ HO690 hb; have BK691 := Aside0.mk (hbox); have GW691 := Aside0.mk ((by rw [hg]; exact bz_ : w.heap.size ≤ gb691)); have GE691 := GW691; replace HB := Aside0.mk (below_step bl_ hb); have NB661_691 := nl_ hg BK661; have NB691_661 := nm_ hg BK661; replace BK661 := bb_ BK661 hb; have NB662_691 := nl_ hg BK662; have NB691_662 := nm_ hg BK662; replace BK662 := bb_ BK662 hb; have NB684_691 := nl_ hg BK684; have NB691_684 := nm_ hg BK684; replace BK684 := bb_ BK684 hb; clear hb hbox hg; obtain ⟨Ao51, co51, eo51⟩ := Kd.R_slice HO687.out; subst eo51; have hnb52 := NB691_661.out; have hnc52 := NB661_691.out; have hnb53 := NB691_662.out; have hnc53 := NB662_691.out; have hnb54 := NB691_684.out; have hnc54 := NB684_691.out; have hcz55_0 : w50.cell? ⟨gb691, 0, none⟩ = some (.slice none 0 0) := bc_ BK691.out 0; have hcz55_1 : w50.cell? ⟨gb691, 1, none⟩ = some (.slice none 0 0) := bc_ BK691.out 1; have hfz55_0 := blk_frozen BK691.out 0; have hfz55_1 := blk_frozen BK691.out 1; obtain ⟨Ao56, co56, eo56⟩ := Kd.R_slice HO690.out; subst eo56; have hnb57 := NB662_684.out; have hnc57 := NB684_662.out; have hcz58_0 : w50.cell? ⟨gb662, 0, none⟩ = some (.slice A1_0 l1_0.length c1_0) := bc_ BK662.out 0; have hcz58_1 : w50.cell? ⟨gb662, 1, none⟩ = some (.slice A1_1 l1_1.length c1_1) := bc_ BK662.out 1; have hfz58_0 := blk_frozen BK662.out 0; have hfz58_1 := blk_frozen BK662.out 1) | ((with_reducible refine gate_callee (f := 10) rfl ?_); refine goesL_ (some 38) rfl rfl Try.func10 (by kernel_rfl) rfl #[.agg #[.slice A1_0 l1_0.length c1_0, .slice A1_1 l1_1.length c1_1]] rfl nc_ ?_; (with_reducible refine (laws_toBag.calls k _ _ l1_0 _ _ l1_1 t692 t695 _ ?side1 ?side2 ?side3 ?side4 A23.out).mono ?_); (case side1 => exact Kd.C_below HR1_0.out bl_); (case side2 => exact HC1_0.out); (case side3 => exact Kd.C_below HR1_1.out bl_); (case side4 => exact HC1_1.out); rintro e w59 ⟨v693, v696, rfl, ho0, ho1, hb⟩; refine ⟨_, rfl, ?_⟩; have HO694 := Aside0.mk (Kd.R_lower (rn_ (rn_ (rn_ (rn_ (rn_ (rn_ (rn_ (rn_ ho0 (rs2_ HO667.out BK691.out (.slice Ao51 t685.length co51) (.slice Ao56 t688.length co56))) (rs2_ HO670.out BK691.out (.slice Ao51 t685.length co51) (.slice Ao56 t688.length co56))) (rs2_ HO673.out BK691.out (.slice Ao51 t685.length co51) (.slice Ao56 t688.length co56))) (rs2_ HO676.out BK691.out (.slice Ao51 t685.length co51) (.slice Ao56 t688.length co56))) (rs2_ HO679.out BK691.out (.slice Ao51 t685.length co51) (.slice Ao56 t688.length co56))) (rs2_ HO682.out BK691.out (.slice Ao51 t685.length co51) (.slice Ao56 t688.length co56))) (rs2_ HO687.out BK691.out (.slice Ao51 t685.length co51) (.slice Ao56 t688.length co56))) (rs2_ HO690.out BK691.out (.slice Ao51 t685.length co51) (.slice Ao56 t688.length co56))) bz_); have HO697 := Aside0.mk (Kd.R_lower (rn_ (rn_ (rn_ (rn_ (rn_ (rn_ (rn_ (rn_ ho1 (rs2_ HO667.out BK691.out (.slice Ao51 t685.length co51) (.slice Ao56 t688.length co56))) (rs2_ HO670.out BK691.out (.slice Ao51 t685.length co51) (.slice Ao56 t688.length co56))) (rs2_ HO673.out BK691.out (.slice Ao51 t685.length co51) (.slice Ao56 t688.length co56))) (rs2_ HO676.out BK691.out (.slice Ao51 t685.length co51) (.slice Ao56 t688.length co56))) (rs2_ HO679.out BK691.out (.slice Ao51 t685.length co51) (.slice Ao56 t688.length co56))) (rs2_ HO682.out BK691.out (.slice Ao51 t685.length co51) (.slice Ao56 t688.length co56))) (rs2_ HO687.out BK691.out (.slice Ao51 t685.length co51) (.slice Ao56 t688.length co56))) (rs2_ HO690.out BK691.out (.slice Ao51 t685.length co51) (.slice Ao56 t688.length co56))) bz_); replace HO667 := Aside0.mk (ro2_ (rs2_ HO667.out BK691.out (.slice Ao51 t685.length co51) (.slice Ao56 t688.length co56)) hb (Kd.R_base ho0) (Kd.R_base ho1)); replace HO670 := Aside0.mk (ro2_ (rs2_ HO670.out BK691.out (.slice Ao51 t685.length co51) (.slice Ao56 t688.length co56)) hb (Kd.R_base ho0) (Kd.R_base ho1)); replace HO673 := Aside0.mk (ro2_ (rs2_ HO673.out BK691.out (.slice Ao51 t685.length co51) (.slice Ao56 t688.length co56)) hb (Kd.R_base ho0) (Kd.R_base ho1)); replace HO676 := Aside0.mk (ro2_ (rs2_ HO676.out BK691.out (.slice Ao51 t685.length co51) (.slice Ao56 t688.length co56)) hb (Kd.R_base ho0) (Kd.R_base ho1)); replace HO679 := Aside0.mk (ro2_ (rs2_ HO679.out BK691.out (.slice Ao51 t685.length co51) (.slice Ao56 t688.length co56)) hb (Kd.R_base ho0) (Kd.R_base ho1)); replace HO682 := Aside0.mk (ro2_ (rs2_ HO682.out BK691.out (.slice Ao51 t685.length co51) (.slice Ao56 t688.length co56)) hb (Kd.R_base ho0) (Kd.R_base ho1)); replace HO687 := Aside0.mk (ro2_ (rs2_ HO687.out BK691.out (.slice Ao51 t685.length co51) (.slice Ao56 t688.length co56)) hb (Kd.R_base ho0) (Kd.R_base ho1)); replace HO690 := Aside0.mk (ro2_ (rs2_ HO690.out BK691.out (.slice Ao51 t685.length co51) (.slice Ao56 t688.length co56)) hb (Kd.R_base ho0) (Kd.R_base ho1)); replace BK661 := Aside0.mk (blk_below (g := gb661) (o := .cells #[.slice A0_0 l0_0.length c0_0, .slice A0_1 l0_1.length c0_1] 24 (0, 0)) kz_ hb); replace BK662 := Aside0.mk (blk_below (g := gb662) (o := .cells #[.slice A1_0 l1_0.length c1_0, .slice A1_1 l1_1.length c1_1] 24 (0, 0)) kz_ hb); replace BK684 := Aside0.mk (blk_below (g := gb684) (o := .cells #[.slice Ao43 t677.length co43, .slice Ao45 t680.length co45] 29 (0, 0)) kz_ hb); replace BK691 := Aside0.mk (blk_below (g := gb691) (o := .cells #[.slice Ao51 t685.length co51, .slice Ao56 t688.length co56] 29 (0, 0)) (by (with_reducible repeat (first | refine blk_drewN ?_ _ | refine blk_drew ?_ | refine blk_alloc ?_ _)); refine blk_put (cs := #[.slice Ao51 t685.length co51, .slice none 0 0]) ?_ 1 _ rfl; (with_reducible repeat (first | refine blk_drewN ?_ _ | refine blk_drew ?_ | refine blk_alloc ?_ _)); refine blk_put (cs := #[.slice none 0 0, .slice none 0 0]) ?_ 0 _ rfl; exact kb_ BK691.out) hb); replace HB := Aside0.mk (below_step bl_ hb); clear hb ho0 ho1) | ((with_reducible refine gate_dst (N := 9) rfl ?_); refine box_event rfl (N := 9) rfl (cs := #[.slice none 0 0, .slice none 0 0]) (t := 29) gs_ ?_; intro gb698 hg w60 hbox hb; replace HO667 := rb_ HO667 hb; replace HO670 := rb_ HO670 hb; replace HO673 := rb_ HO673 hb; replace HO676 := rb_ HO676 hb; replace HO679 := rb_ HO679 hb; replace HO682 := rb_ HO682 hb; replace HO687 := rb_ HO687 hb; replace HO690 := rb_ HO690 hb; replace HO694 := rb_ HO694 hb; replace HO697 := rb_ HO697 hb; have BK698 := Aside0.mk (hbox); have GW698 := Aside0.mk ((by rw [hg]; exact bz_ : w.heap.size ≤ gb698)); have GE698 := GW698; replace HB := Aside0.mk (below_step bl_ hb); have NB661_698 := nl_ hg BK661; have NB698_661 := nm_ hg BK661; replace BK661 := bb_ BK661 hb; have NB662_698 := nl_ hg BK662; have NB698_662 := nm_ hg BK662; replace BK662 := bb_ BK662 hb; have NB684_698 := nl_ hg BK684; have NB698_684 := nm_ hg BK684; replace BK684 := bb_ BK684 hb; have NB691_698 := nl_ hg BK691; have NB698_691 := nm_ hg BK691; replace BK691 := bb_ BK691 hb; clear hb hbox hg; obtain ⟨Ao61, co61, eo61⟩ := Kd.R_slice HO694.out; subst eo61; have hnb62 := NB698_661.out; have hnc62 := NB661_698.out; have hnb63 := NB698_662.out; have hnc63 := NB662_698.out; have hnb64 := NB698_684.out; have hnc64 := NB684_698.out; have hnb65 := NB698_691.out; have hnc65 := NB691_698.out; have hcz66_0 : w60.cell? ⟨gb698, 0, none⟩ = some (.slice none 0 0) := bc_ BK698.out 0; have hcz66_1 : w60.cell? ⟨gb698, 1, none⟩ = some (.slice none 0 0) := bc_ BK698.out 1; have hfz66_0 := blk_frozen BK698.out 0; have hfz66_1 := blk_frozen BK698.out 1; obtain ⟨Ao67, co67, eo67⟩ := Kd.R_slice HO697.out; subst eo67; have hcz68_0 : w60.cell? ⟨gb691, 0, none⟩ = some (.slice Ao51 t685.length co51) := bc_ BK691.out 0; have hcz68_1 : w60.cell? ⟨gb691, 1, none⟩ = some (.slice Ao56 t688.length co56) := bc_ BK691.out 1; have hfz68_0 := blk_frozen BK691.out 0; have hfz68_1 := blk_frozen BK691.out 1) | ((with_reducible refine gate_callee (f := 18) rfl ?_); refine goesL_ (some 42) rfl rfl Try.func18 (by kernel_rfl) rfl #[.agg #[.slice Ao51 t685.length co51, .slice Ao56 t688.length co56], .agg #[.slice Ao61 t692.length co61, .slice Ao67 t695.length co67]] rfl nc_ ?_; (with_reducible refine (impl_MergeBag.calls k _ _ t685 _ _ t688 _ _ t692 _ _ t695 t699 t702 t705 _ ?side1 ?side2 ?side3 ?side4 ?side5 ?side6 ?side7 ?side8 A24.out).mono ?_); (case side1 => exact (Kd.R_reads' (kr_ (rs2_ HO687.out BK698.out (.slice Ao61 t692.length co61) (.slice Ao67 t695.length co67)))).2.2); (case side2 => exact (Kd.R_reads' HO687.out).2.1); (case side3 => exact (Kd.R_reads' (kr_ (rs2_ HO690.out BK698.out (.slice Ao61 t692.length co61) (.slice Ao67 t695.length co67)))).2.2); (case side4 => exact (Kd.R_reads' HO690.out).2.1); (case side5 => exact (Kd.R_reads' (kr_ (rs2_ HO694.out BK698.out (.slice Ao61 t692.length co61) (.slice Ao67 t695.length co67)))).2.2); (case side6 => exact (Kd.R_reads' HO694.out).2.1); (case side7 => exact (Kd.R_reads' (kr_ (rs2_ HO697.out BK698.out (.slice Ao61 t692.length co61) (.slice Ao67 t695.length co67)))).2.2); (case side8 => exact (Kd.R_reads' HO697.out).2.1); rintro e w69 ⟨v700, v703, rfl, ho0, ho1, hb⟩; refine ⟨_, rfl, ?_⟩; have HO701 := Aside0.mk (Kd.R_lower (rn_ (rn_ (rn_ (rn_ (rn_ (rn_ (rn_ (rn_ (rn_ (rn_ ho0 (rs2_ HO667.out BK698.out (.slice Ao61 t692.length co61) (.slice Ao67 t695.length co67))) (rs2_ HO670.out BK698.out (.slice Ao61 t692.length co61) (.slice Ao67 t695.length co67))) (rs2_ HO673.out BK698.out (.slice Ao61 t692.length co61) (.slice Ao67 t695.length co67))) (rs2_ HO676.out BK698.out (.slice Ao61 t692.length co61) (.slice Ao67 t695.length co67))) (rs2_ HO679.out BK698.out (.slice Ao61 t692.length co61) (.slice Ao67 t695.length co67))) (rs2_ HO682.out BK698.out (.slice Ao61 t692.length co61) (.slice Ao67 t695.length co67))) (rs2_ HO687.out BK698.out (.slice Ao61 t692.length co61) (.slice Ao67 t695.length co67))) (rs2_ HO690.out BK698.out (.slice Ao61 t692.length co61) (.slice Ao67 t695.length co67))) (rs2_ HO694.out BK698.out (.slice Ao61 t692.length co61) (.slice Ao67 t695.length co67))) (rs2_ HO697.out BK698.out (.slice Ao61 t692.length co61) (.slice Ao67 t695.length co67))) bz_); have HO704 := Aside0.mk (Kd.R_lower (rn_ (rn_ (rn_ (rn_ (rn_ (rn_ (rn_ (rn_ (rn_ (rn_ ho1 (rs2_ HO667.out BK698.out (.slice Ao61 t692.length co61) (.slice Ao67 t695.length co67))) (rs2_ HO670.out BK698.out (.slice Ao61 t692.length co61) (.slice Ao67 t695.length co67))) (rs2_ HO673.out BK698.out (.slice Ao61 t692.length co61) (.slice Ao67 t695.length co67))) (rs2_ HO676.out BK698.out (.slice Ao61 t692.length co61) (.slice Ao67 t695.length co67))) (rs2_ HO679.out BK698.out (.slice Ao61 t692.length co61) (.slice Ao67 t695.length co67))) (rs2_ HO682.out BK698.out (.slice Ao61 t692.length co61) (.slice Ao67 t695.length co67))) (rs2_ HO687.out BK698.out (.slice Ao61 t692.length co61) (.slice Ao67 t695.length co67))) (rs2_ HO690.out BK698.out (.slice Ao61 t692.length co61) (.slice Ao67 t695.length co67))) (rs2_ HO694.out BK698.out (.slice Ao61 t692.length co61) (.slice Ao67 t695.length co67))) (rs2_ HO697.out BK698.out (.slice Ao61 t692.length co61) (.slice Ao67 t695.length co67))) bz_); replace HO667 := Aside0.mk (ro2_ (rs2_ HO667.out BK698.out (.slice Ao61 t692.length co61) (.slice Ao67 t695.length co67)) hb (Kd.R_base ho0) (Kd.R_base ho1)); replace HO670 := Aside0.mk (ro2_ (rs2_ HO670.out BK698.out (.slice Ao61 t692.length co61) (.slice Ao67 t695.length co67)) hb (Kd.R_base ho0) (Kd.R_base ho1)); replace HO673 := Aside0.mk (ro2_ (rs2_ HO673.out BK698.out (.slice Ao61 t692.length co61) (.slice Ao67 t695.length co67)) hb (Kd.R_base ho0) (Kd.R_base ho1)); replace HO676 := Aside0.mk (ro2_ (rs2_ HO676.out BK698.out (.slice Ao61 t692.length co61) (.slice Ao67 t695.length co67)) hb (Kd.R_base ho0) (Kd.R_base ho1)); replace HO679 := Aside0.mk (ro2_ (rs2_ HO679.out BK698.out (.slice Ao61 t692.length co61) (.slice Ao67 t695.length co67)) hb (Kd.R_base ho0) (Kd.R_base ho1)); replace HO682 := Aside0.mk (ro2_ (rs2_ HO682.out BK698.out (.slice Ao61 t692.length co61) (.slice Ao67 t695.length co67)) hb (Kd.R_base ho0) (Kd.R_base ho1)); replace HO687 := Aside0.mk (ro2_ (rs2_ HO687.out BK698.out (.slice Ao61 t692.length co61) (.slice Ao67 t695.length co67)) hb (Kd.R_base ho0) (Kd.R_base ho1)); replace HO690 := Aside0.mk (ro2_ (rs2_ HO690.out BK698.out (.slice Ao61 t692.length co61) (.slice Ao67 t695.length co67)) hb (Kd.R_base ho0) (Kd.R_base ho1)); replace HO694 := Aside0.mk (ro2_ (rs2_ HO694.out BK698.out (.slice Ao61 t692.length co61) (.slice Ao67 t695.length co67)) hb (Kd.R_base ho0) (Kd.R_base ho1)); replace HO697 := Aside0.mk (ro2_ (rs2_ HO697.out BK698.out (.slice Ao61 t692.length co61) (.slice Ao67 t695.length co67)) hb (Kd.R_base ho0) (Kd.R_base ho1)); replace BK661 := Aside0.mk (blk_below (g := gb661) (o := .cells #[.slice A0_0 l0_0.length c0_0, .slice A0_1 l0_1.length c0_1] 24 (0, 0)) kz_ hb); replace BK662 := Aside0.mk (blk_below (g := gb662) (o := .cells #[.slice A1_0 l1_0.length c1_0, .slice A1_1 l1_1.length c1_1] 24 (0, 0)) kz_ hb); replace BK684 := Aside0.mk (blk_below (g := gb684) (o := .cells #[.slice Ao43 t677.length co43, .slice Ao45 t680.length co45] 29 (0, 0)) kz_ hb); replace BK691 := Aside0.mk (blk_below (g := gb691) (o := .cells #[.slice Ao51 t685.length co51, .slice Ao56 t688.length co56] 29 (0, 0)) kz_ hb); replace BK698 := Aside0.mk (blk_below (g := gb698) (o := .cells #[.slice Ao61 t692.length co61, .slice Ao67 t695.length co67] 29 (0, 0)) (by (with_reducible repeat (first | refine blk_drewN ?_ _ | refine blk_drew ?_ | refine blk_alloc ?_ _)); refine blk_put (cs := #[.slice Ao61 t692.length co61, .slice none 0 0]) ?_ 1 _ rfl; (with_reducible repeat (first | refine blk_drewN ?_ _ | refine blk_drew ?_ | refine blk_alloc ?_ _)); refine blk_put (cs := #[.slice none 0 0, .slice none 0 0]) ?_ 0 _ rfl; exact kb_ BK698.out) hb); replace HB := Aside0.mk (below_step bl_ hb); clear hb ho0 ho1) | ((with_reducible refine gate_dst (N := 10) rfl ?_); refine box_event rfl (N := 10) rfl (cs := #[.slice none 0 0, .slice none 0 0]) (t := 29) gs_ ?_; intro gb706 hg w70 hbox hb; replace HO667 := rb_ HO667 hb; replace HO670 := rb_ HO670 hb; replace HO673 := rb_ HO673 hb; replace HO676 := rb_ HO676 hb; replace HO679 := rb_ HO679 hb; replace HO682 := rb_ HO682 hb; replace HO687 := rb_ HO687 hb; replace HO690 := rb_ HO690 hb; replace HO694 := rb_ HO694 hb; replace HO697 := rb_ HO697 hb; replace HO701 := rb_ HO701 hb; replace HO704 := rb_ HO704 hb; have BK706 := Aside0.mk (hbox); have GW706 := Aside0.mk ((by rw [hg]; exact bz_ : w.heap.size ≤ gb706)); have GE706 := GW706; replace HB := Aside0.mk (below_step bl_ hb); have NB661_706 := nl_ hg BK661; have NB706_661 := nm_ hg BK661; replace BK661 := bb_ BK661 hb; have NB662_706 := nl_ hg BK662; have NB706_662 := nm_ hg BK662; replace BK662 := bb_ BK662 hb; have NB684_706 := nl_ hg BK684; have NB706_684 := nm_ hg BK684; replace BK684 := bb_ BK684 hb; have NB691_706 := nl_ hg BK691; have NB706_691 := nm_ hg BK691; replace BK691 := bb_ BK691 hb; have NB698_706 := nl_ hg BK698; have NB706_698 := nm_ hg BK698; replace BK698 := bb_ BK698 hb; clear hb hbox hg; obtain ⟨Ao71, co71, eo71⟩ := Kd.R_slice HO701.out; subst eo71; have hnb72 := NB706_661.out; have hnc72 := NB661_706.out; have hnb73 := NB706_662.out; have hnc73 := NB662_706.out; have hnb74 := NB706_684.out; have hnc74 := NB684_706.out; have hnb75 := NB706_691.out; have hnc75 := NB691_706.out; have hnb76 := NB706_698.out; have hnc76 := NB698_706.out; have hcz77_0 : w70.cell? ⟨gb706, 0, none⟩ = some (.slice none 0 0) := bc_ BK706.out 0; have hcz77_1 : w70.cell? ⟨gb706, 1, none⟩ = some (.slice none 0 0) := bc_ BK706.out 1; have hfz77_0 := blk_frozen BK706.out 0; have hfz77_1 := blk_frozen BK706.out 1; obtain ⟨Ao78, co78, eo78⟩ := Kd.R_slice HO704.out; subst eo78))
 (try simp only [Act.put, List.setIfInBounds_toArray, List.set_cons_zero, List.set_cons_succ])
 go_cut [53] (fun v53 wc => ∃ (kq : Nat) (x53_24 : Bool), v53 = .bool x53_24 ∧ Aside0 (laws_FnExactMergeBag.j0 kq t683 t705 x53_24 l0_0 l0_1 l1_0 l1_1 t677 t680 t685 t688 t692 t695 t699 t702 = some r) ∧ Aside0 (kq ≤ k) ∧ Aside0 (Kd.R k48 48 wc w.heap.size (fun k_ => some k_ ≠ ((.slice Ao45 t680.length co45) : Value).ownBlock ∧ some k_ ≠ ((.slice Ao51 t685.length co51) : Value).ownBlock ∧ some k_ ≠ ((.slice Ao56 t688.length co56) : Value).ownBlock ∧ some k_ ≠ ((.slice Ao61 t692.length co61) : Value).ownBlock ∧ some k_ ≠ ((.slice Ao67 t695.length co67) : Value).ownBlock ∧ some k_ ≠ ((.slice Ao71 t699.length co71) : Value).ownBlock ∧ some k_ ≠ ((.slice Ao78 t702.length co78) : Value).ownBlock) (.slice Ao43 t677.length co43) t677) ∧ Aside0 (Kd.R k48 48 wc w.heap.size (fun k_ => some k_ ≠ ((.slice Ao43 t677.length co43) : Value).ownBlock ∧ some k_ ≠ ((.slice Ao51 t685.length co51) : Value).ownBlock ∧ some k_ ≠ ((.slice Ao56 t688.length co56) : Value).ownBlock ∧ some k_ ≠ ((.slice Ao61 t692.length co61) : Value).ownBlock ∧ some k_ ≠ ((.slice Ao67 t695.length co67) : Value).ownBlock ∧ some k_ ≠ ((.slice Ao71 t699.length co71) : Value).ownBlock ∧ some k_ ≠ ((.slice Ao78 t702.length co78) : Value).ownBlock) (.slice Ao45 t680.length co45) t680) ∧ Aside0 (Kd.R k48 48 wc w.heap.size (fun k_ => some k_ ≠ ((.slice Ao43 t677.length co43) : Value).ownBlock ∧ some k_ ≠ ((.slice Ao45 t680.length co45) : Value).ownBlock ∧ some k_ ≠ ((.slice Ao56 t688.length co56) : Value).ownBlock ∧ some k_ ≠ ((.slice Ao61 t692.length co61) : Value).ownBlock ∧ some k_ ≠ ((.slice Ao67 t695.length co67) : Value).ownBlock ∧ some k_ ≠ ((.slice Ao71 t699.length co71) : Value).ownBlock ∧ some k_ ≠ ((.slice Ao78 t702.length co78) : Value).ownBlock) (.slice Ao51 t685.length co51) t685) ∧ Aside0 (Kd.R k48 48 wc w.heap.size (fun k_ => some k_ ≠ ((.slice Ao43 t677.length co43) : Value).ownBlock ∧ some k_ ≠ ((.slice Ao45 t680.length co45) : Value).ownBlock ∧ some k_ ≠ ((.slice Ao51 t685.length co51) : Value).ownBlock ∧ some k_ ≠ ((.slice Ao61 t692.length co61) : Value).ownBlock ∧ some k_ ≠ ((.slice Ao67 t695.length co67) : Value).ownBlock ∧ some k_ ≠ ((.slice Ao71 t699.length co71) : Value).ownBlock ∧ some k_ ≠ ((.slice Ao78 t702.length co78) : Value).ownBlock) (.slice Ao56 t688.length co56) t688) ∧ Aside0 (Kd.R k48 48 wc w.heap.size (fun k_ => some k_ ≠ ((.slice Ao43 t677.length co43) : Value).ownBlock ∧ some k_ ≠ ((.slice Ao45 t680.length co45) : Value).ownBlock ∧ some k_ ≠ ((.slice Ao51 t685.length co51) : Value).ownBlock ∧ some k_ ≠ ((.slice Ao56 t688.length co56) : Value).ownBlock ∧ some k_ ≠ ((.slice Ao67 t695.length co67) : Value).ownBlock ∧ some k_ ≠ ((.slice Ao71 t699.length co71) : Value).ownBlock ∧ some k_ ≠ ((.slice Ao78 t702.length co78) : Value).ownBlock) (.slice Ao61 t692.length co61) t692) ∧ Aside0 (Kd.R k48 48 wc w.heap.size (fun k_ => some k_ ≠ ((.slice Ao43 t677.length co43) : Value).ownBlock ∧ some k_ ≠ ((.slice Ao45 t680.length co45) : Value).ownBlock ∧ some k_ ≠ ((.slice Ao51 t685.length co51) : Value).ownBlock ∧ some k_ ≠ ((.slice Ao56 t688.length co56) : Value).ownBlock ∧ some k_ ≠ ((.slice Ao61 t692.length co61) : Value).ownBlock ∧ some k_ ≠ ((.slice Ao71 t699.length co71) : Value).ownBlock ∧ some k_ ≠ ((.slice Ao78 t702.length co78) : Value).ownBlock) (.slice Ao67 t695.length co67) t695) ∧ Aside0 (Kd.R k48 48 wc w.heap.size (fun k_ => some k_ ≠ ((.slice Ao43 t677.length co43) : Value).ownBlock ∧ some k_ ≠ ((.slice Ao45 t680.length co45) : Value).ownBlock ∧ some k_ ≠ ((.slice Ao51 t685.length co51) : Value).ownBlock ∧ some k_ ≠ ((.slice Ao56 t688.length co56) : Value).ownBlock ∧ some k_ ≠ ((.slice Ao61 t692.length co61) : Value).ownBlock ∧ some k_ ≠ ((.slice Ao67 t695.length co67) : Value).ownBlock ∧ some k_ ≠ ((.slice Ao78 t702.length co78) : Value).ownBlock) (.slice Ao71 t699.length co71) t699) ∧ Aside0 (Kd.R k48 48 wc w.heap.size (fun k_ => some k_ ≠ ((.slice Ao43 t677.length co43) : Value).ownBlock ∧ some k_ ≠ ((.slice Ao45 t680.length co45) : Value).ownBlock ∧ some k_ ≠ ((.slice Ao51 t685.length co51) : Value).ownBlock ∧ some k_ ≠ ((.slice Ao56 t688.length co56) : Value).ownBlock ∧ some k_ ≠ ((.slice Ao61 t692.length co61) : Value).ownBlock ∧ some k_ ≠ ((.slice Ao67 t695.length co67) : Value).ownBlock ∧ some k_ ≠ ((.slice Ao71 t699.length co71) : Value).ownBlock) (.slice Ao78 t702.length co78) t702) ∧ Aside0 (wc.heap[gb661]? = some (.cells #[(.slice A0_0 l0_0.length c0_0), (.slice A0_1 l0_1.length c0_1)] 24 (0, 0))) ∧ Aside0 (wc.heap[gb662]? = some (.cells #[(.slice A1_0 l1_0.length c1_0), (.slice A1_1 l1_1.length c1_1)] 24 (0, 0))) ∧ Aside0 (wc.heap[gb684]? = some (.cells #[(.slice Ao43 t677.length co43), (.slice Ao45 t680.length co45)] 29 (0, 0))) ∧ Aside0 (wc.heap[gb691]? = some (.cells #[(.slice Ao51 t685.length co51), (.slice Ao56 t688.length co56)] 29 (0, 0))) ∧ Aside0 (wc.heap[gb698]? = some (.cells #[(.slice Ao61 t692.length co61), (.slice Ao67 t695.length co67)] 29 (0, 0))) ∧ Aside0 (wc.heap[gb706]? = some (.cells #[(.slice Ao71 t699.length co71), (.slice Ao78 t702.length co78)] 29 (0, 0))) ∧ Aside0 (Below w.heap.size w wc))
 case first =>
  have H := HC25.out
  clear HC25
  replace H := Option.bind_eq_some_iff.mp H
  obtain ⟨t707, A790, H⟩ := H
  replace H : (if t707 = true then (laws_FnExactMergeBag.j0 k t683 t705 (t705 != t683) l0_0 l0_1 l1_0 l1_1 t677 t680 t685 t688 t692 t695 t699 t702) else (none)) = some r := H
  have A79 := Aside0.mk A790
  clear A790
  by_cases c80 : t707 = true
  rotate_left
  ·replace c80 := Bool.eq_false_iff.mpr c80
   subst c80
   have H1 : (none) = some r := by rw [if_neg (show ¬ (false = true) by decide)] at H; exact H
   clear H
   have H := H1
   clear H1
   exact absurd H (by simp)
  subst c80
  have H1 : (laws_FnExactMergeBag.j0 k t683 t705 (t705 != t683) l0_0 l0_1 l1_0 l1_1 t677 t680 t685 t688 t692 t695 t699 t702) = some r := by rw [if_pos rfl] at H; exact H
  clear H
  have H := H1
  clear H1
  have H' := Aside0.mk H
  clear H
  have hnb81 := NB706_661.out
  have hnc81 := NB661_706.out
  have hnb82 := NB706_662.out
  have hnc82 := NB662_706.out
  have hnb83 := NB706_684.out
  have hnc83 := NB684_706.out
  have hnb84 := NB706_691.out
  have hnc84 := NB691_706.out
  have hnb85 := NB706_698.out
  have hnc85 := NB698_706.out
  have hcz86_0 : w70.cell? ⟨gb706, 0, none⟩ = some (.slice none 0 0) := bc_ BK706.out 0
  have hcz86_1 : w70.cell? ⟨gb706, 1, none⟩ = some (.slice none 0 0) := bc_ BK706.out 1
  have hfz86_0 := blk_frozen BK706.out 0
  have hfz86_1 := blk_frozen BK706.out 1
  have hnb87 := NB684_661.out
  have hnc87 := NB661_684.out
  have hnb88 := NB684_662.out
  have hnc88 := NB662_684.out
  have hnb89 := NB684_691.out
  have hnc89 := NB691_684.out
  have hnb90 := NB684_698.out
  have hnc90 := NB698_684.out
  have hcz91_0 : w70.cell? ⟨gb684, 0, none⟩ = some (.slice Ao43 t677.length co43) := bc_ BK684.out 0
  have hcz91_1 : w70.cell? ⟨gb684, 1, none⟩ = some (.slice Ao45 t680.length co45) := bc_ BK684.out 1
  have hfz91_0 := blk_frozen BK684.out 0
  have hfz91_1 := blk_frozen BK684.out 1
  go_wp2_with (first | ((with_reducible refine gate_callee (f := 12) rfl ?_); refine goesL_ (some 47) rfl rfl Try.func12 (by kernel_rfl) rfl #[.agg #[.slice Ao71 t699.length co71, .slice Ao78 t702.length co78], .agg #[.slice Ao43 t677.length co43, .slice Ao45 t680.length co45]] rfl nc_ ?_; (with_reducible refine (laws_eqBag.calls k _ _ t699 _ _ t702 _ _ t677 _ _ t680 true _ ?side1 ?side2 ?side3 ?side4 ?side5 ?side6 ?side7 ?side8 A79.out).mono ?_); (case side1 => exact (Kd.R_reads' (kr_ (rs2_ HO701.out BK706.out (.slice Ao71 t699.length co71) (.slice Ao78 t702.length co78)))).2.2); (case side2 => exact (Kd.R_reads' HO701.out).2.1); (case side3 => exact (Kd.R_reads' (kr_ (rs2_ HO704.out BK706.out (.slice Ao71 t699.length co71) (.slice Ao78 t702.length co78)))).2.2); (case side4 => exact (Kd.R_reads' HO704.out).2.1); (case side5 => exact (Kd.R_reads' (kr_ (rs2_ HO679.out BK706.out (.slice Ao71 t699.length co71) (.slice Ao78 t702.length co78)))).2.2); (case side6 => exact (Kd.R_reads' HO679.out).2.1); (case side7 => exact (Kd.R_reads' (kr_ (rs2_ HO682.out BK706.out (.slice Ao71 t699.length co71) (.slice Ao78 t702.length co78)))).2.2); (case side8 => exact (Kd.R_reads' HO682.out).2.1); rintro e w92 ⟨rfl, hb⟩; refine ⟨_, rfl, ?_⟩; replace HO667 := Aside0.mk (Kd.R_below (kr_ (rs2_ HO667.out BK706.out (.slice Ao71 t699.length co71) (.slice Ao78 t702.length co78))) hb); replace HO670 := Aside0.mk (Kd.R_below (kr_ (rs2_ HO670.out BK706.out (.slice Ao71 t699.length co71) (.slice Ao78 t702.length co78))) hb); replace HO673 := Aside0.mk (Kd.R_below (kr_ (rs2_ HO673.out BK706.out (.slice Ao71 t699.length co71) (.slice Ao78 t702.length co78))) hb); replace HO676 := Aside0.mk (Kd.R_below (kr_ (rs2_ HO676.out BK706.out (.slice Ao71 t699.length co71) (.slice Ao78 t702.length co78))) hb); replace HO679 := Aside0.mk (Kd.R_below (kr_ (rs2_ HO679.out BK706.out (.slice Ao71 t699.length co71) (.slice Ao78 t702.length co78))) hb); replace HO682 := Aside0.mk (Kd.R_below (kr_ (rs2_ HO682.out BK706.out (.slice Ao71 t699.length co71) (.slice Ao78 t702.length co78))) hb); replace HO687 := Aside0.mk (Kd.R_below (kr_ (rs2_ HO687.out BK706.out (.slice Ao71 t699.length co71) (.slice Ao78 t702.length co78))) hb); replace HO690 := Aside0.mk (Kd.R_below (kr_ (rs2_ HO690.out BK706.out (.slice Ao71 t699.length co71) (.slice Ao78 t702.length co78))) hb); replace HO694 := Aside0.mk (Kd.R_below (kr_ (rs2_ HO694.out BK706.out (.slice Ao71 t699.length co71) (.slice Ao78 t702.length co78))) hb); replace HO697 := Aside0.mk (Kd.R_below (kr_ (rs2_ HO697.out BK706.out (.slice Ao71 t699.length co71) (.slice Ao78 t702.length co78))) hb); replace HO701 := Aside0.mk (Kd.R_below (kr_ (rs2_ HO701.out BK706.out (.slice Ao71 t699.length co71) (.slice Ao78 t702.length co78))) hb); replace HO704 := Aside0.mk (Kd.R_below (kr_ (rs2_ HO704.out BK706.out (.slice Ao71 t699.length co71) (.slice Ao78 t702.length co78))) hb); replace BK661 := Aside0.mk (blk_below (g := gb661) (o := .cells #[.slice A0_0 l0_0.length c0_0, .slice A0_1 l0_1.length c0_1] 24 (0, 0)) kz_ hb); replace BK662 := Aside0.mk (blk_below (g := gb662) (o := .cells #[.slice A1_0 l1_0.length c1_0, .slice A1_1 l1_1.length c1_1] 24 (0, 0)) kz_ hb); replace BK684 := Aside0.mk (blk_below (g := gb684) (o := .cells #[.slice Ao43 t677.length co43, .slice Ao45 t680.length co45] 29 (0, 0)) kz_ hb); replace BK691 := Aside0.mk (blk_below (g := gb691) (o := .cells #[.slice Ao51 t685.length co51, .slice Ao56 t688.length co56] 29 (0, 0)) kz_ hb); replace BK698 := Aside0.mk (blk_below (g := gb698) (o := .cells #[.slice Ao61 t692.length co61, .slice Ao67 t695.length co67] 29 (0, 0)) kz_ hb); replace BK706 := Aside0.mk (blk_below (g := gb706) (o := .cells #[.slice Ao71 t699.length co71, .slice Ao78 t702.length co78] 29 (0, 0)) (by (with_reducible repeat (first | refine blk_drewN ?_ _ | refine blk_drew ?_ | refine blk_alloc ?_ _)); refine blk_put (cs := #[.slice Ao71 t699.length co71, .slice none 0 0]) ?_ 1 _ rfl; (with_reducible repeat (first | refine blk_drewN ?_ _ | refine blk_drew ?_ | refine blk_alloc ?_ _)); refine blk_put (cs := #[.slice none 0 0, .slice none 0 0]) ?_ 0 _ rfl; exact kb_ BK706.out) hb); replace HB := Aside0.mk (below_step bl_ hb); clear hb))
  go_meet
  case rel => exact ⟨_, ((t705 != t683)), (by first | rfl | (simp; done) | (simp [*]; done)), H', ⟨by first | omega | exact Nat.le_refl _⟩, ⟨kp_ HO679.out⟩, ⟨kp_ HO682.out⟩, ⟨kp_ HO687.out⟩, ⟨kp_ HO690.out⟩, ⟨kp_ HO694.out⟩, ⟨kp_ HO697.out⟩, ⟨kp_ HO701.out⟩, ⟨kp_ HO704.out⟩, ⟨by exact kb_ BK661.out⟩, ⟨by exact kb_ BK662.out⟩, ⟨by exact kb_ BK684.out⟩, ⟨by exact kb_ BK691.out⟩, ⟨by exact kb_ BK698.out⟩, ⟨by exact kb_ BK706.out⟩, ⟨bl_⟩⟩
 clear HC25
 try clear c1
 try clear p2
 try clear c4
 try clear c5
 try clear c6
 try clear c7
 try clear c8
 try clear c9
 try clear c10
 try clear c12
 try clear c17
 try clear c18
 try clear c47
 try clear c52
 try clear c53
 try clear c54
 try clear c57
 try clear c62
 try clear c63
 try clear c64
 try clear c65
 try clear c72
 try clear c73
 try clear c74
 try clear c75
 try clear c76
 try clear c80
 try clear c81
 try clear c82
 try clear c83
 try clear c84
 try clear c85
 try clear c87
 try clear c88
 try clear c89
 try clear c90
 try clear hcz48_0
 try clear hcz48_1
 try clear hcz55_0
 try clear hcz55_1
 try clear hcz58_0
 try clear hcz58_1
 try clear hcz66_0
 try clear hcz66_1
 try clear hcz68_0
 try clear hcz68_1
 try clear hcz77_0
 try clear hcz77_1
 try clear hcz86_0
 try clear hcz86_1
 try clear hcz91_0
 try clear hcz91_1
 try clear hfz48_0
 try clear hfz48_1
 try clear hfz55_0
 try clear hfz55_1
 try clear hfz58_0
 try clear hfz58_1
 try clear hfz66_0
 try clear hfz66_1
 try clear hfz68_0
 try clear hfz68_1
 try clear hfz77_0
 try clear hfz77_1
 try clear hfz86_0
 try clear hfz86_1
 try clear hfz91_0
 try clear hfz91_1
 obtain ⟨kq, x53_24, rfl, HA, HJ24, HO_685000, HO_685001, HO_692000, HO_692001, HO_699000, HO_699001, HO_707000, HO_707001, BK661, BK662, BK684, BK691, BK698, BK706, HB⟩ := hcut
 cases kq with
 | zero => exact absurd HA.out (by simp [laws_FnExactMergeBag.j0])
 | succ kj24 => ?_
 have H := HA.out
 clear HA
 simp only [laws_FnExactMergeBag.j0] at H
 by_cases c93 : x53_24 = true
 ·subst c93
  have H1 : (none) = some r := by rw [if_pos rfl] at H; exact H
  clear H
  have H := H1
  clear H1
  exact absurd H (by simp)
 replace c93 := Bool.eq_false_iff.mpr c93
 subst c93
 have H1 : ((laws_toBag.f kj24 l0_0 l0_1).bind fun bt708 => ((laws_eqBag.f kj24 t685 t688 bt708.1 bt708.2).bind fun t714 => (if t714 = true then ((laws_toBag.f kj24 l1_0 l1_1).bind fun bt715 => ((laws_eqBag.f kj24 t692 t695 bt715.1 bt715.2).bind fun t721 => (if t721 = true then ((laws_markBag.f kj24 t685 t688 1).bind fun bt722 => ((laws_markBag.f kj24 t692 t695 bt722.1).bind fun bt725 => (if bt725.1 < 0 then (none) else ((laws_eqBag.f kj24 t699 t702 t677 t680).bind fun t728 => (if t728 = true then (laws_FnExactMergeBag.j1 kj24 t683 (t705 != t683) l0_0 l0_1 l1_0 l1_1 t677 t680 t699 t702) else (none)))))) else (none)))) else (none)))) = some r := by rw [if_neg (show ¬ (false = true) by decide)] at H; exact H
 clear H
 have H := H1
 clear H1
 replace H := Option.bind_eq_some_iff.mp H
 obtain ⟨⟨t708, t711⟩, A940, H⟩ := H
 replace H : ((laws_eqBag.f kj24 t685 t688 t708 t711).bind fun t714 => (if t714 = true then ((laws_toBag.f kj24 l1_0 l1_1).bind fun bt715 => ((laws_eqBag.f kj24 t692 t695 bt715.1 bt715.2).bind fun t721 => (if t721 = true then ((laws_markBag.f kj24 t685 t688 1).bind fun bt722 => ((laws_markBag.f kj24 t692 t695 bt722.1).bind fun bt725 => (if bt725.1 < 0 then (none) else ((laws_eqBag.f kj24 t699 t702 t677 t680).bind fun t728 => (if t728 = true then (laws_FnExactMergeBag.j1 kj24 t683 (t705 != t683) l0_0 l0_1 l1_0 l1_1 t677 t680 t699 t702) else (none)))))) else (none)))) else (none))) = some r := H
 have A94 := Aside0.mk A940
 clear A940
 replace H := Option.bind_eq_some_iff.mp H
 obtain ⟨t714, A950, H⟩ := H
 replace H : (if t714 = true then ((laws_toBag.f kj24 l1_0 l1_1).bind fun bt715 => ((laws_eqBag.f kj24 t692 t695 bt715.1 bt715.2).bind fun t721 => (if t721 = true then ((laws_markBag.f kj24 t685 t688 1).bind fun bt722 => ((laws_markBag.f kj24 t692 t695 bt722.1).bind fun bt725 => (if bt725.1 < 0 then (none) else ((laws_eqBag.f kj24 t699 t702 t677 t680).bind fun t728 => (if t728 = true then (laws_FnExactMergeBag.j1 kj24 t683 (t705 != t683) l0_0 l0_1 l1_0 l1_1 t677 t680 t699 t702) else (none)))))) else (none)))) else (none)) = some r := H
 have A95 := Aside0.mk A950
 clear A950
 by_cases c96 : t714 = true
 rotate_left
 ·replace c96 := Bool.eq_false_iff.mpr c96
  subst c96
  have H1 : (none) = some r := by rw [if_neg (show ¬ (false = true) by decide)] at H; exact H
  clear H
  have H := H1
  clear H1
  exact absurd H (by simp)
 subst c96
 have H1 : ((laws_toBag.f kj24 l1_0 l1_1).bind fun bt715 => ((laws_eqBag.f kj24 t692 t695 bt715.1 bt715.2).bind fun t721 => (if t721 = true then ((laws_markBag.f kj24 t685 t688 1).bind fun bt722 => ((laws_markBag.f kj24 t692 t695 bt722.1).bind fun bt725 => (if bt725.1 < 0 then (none) else ((laws_eqBag.f kj24 t699 t702 t677 t680).bind fun t728 => (if t728 = true then (laws_FnExactMergeBag.j1 kj24 t683 (t705 != t683) l0_0 l0_1 l1_0 l1_1 t677 t680 t699 t702) else (none)))))) else (none)))) = some r := by rw [if_pos rfl] at H; exact H
 clear H
 have H := H1
 clear H1
 replace H := Option.bind_eq_some_iff.mp H
 obtain ⟨⟨t715, t718⟩, A970, H⟩ := H
 replace H : ((laws_eqBag.f kj24 t692 t695 t715 t718).bind fun t721 => (if t721 = true then ((laws_markBag.f kj24 t685 t688 1).bind fun bt722 => ((laws_markBag.f kj24 t692 t695 bt722.1).bind fun bt725 => (if bt725.1 < 0 then (none) else ((laws_eqBag.f kj24 t699 t702 t677 t680).bind fun t728 => (if t728 = true then (laws_FnExactMergeBag.j1 kj24 t683 (t705 != t683) l0_0 l0_1 l1_0 l1_1 t677 t680 t699 t702) else (none)))))) else (none))) = some r := H
 have A97 := Aside0.mk A970
 clear A970
 replace H := Option.bind_eq_some_iff.mp H
 obtain ⟨t721, A980, H⟩ := H
 replace H : (if t721 = true then ((laws_markBag.f kj24 t685 t688 1).bind fun bt722 => ((laws_markBag.f kj24 t692 t695 bt722.1).bind fun bt725 => (if bt725.1 < 0 then (none) else ((laws_eqBag.f kj24 t699 t702 t677 t680).bind fun t728 => (if t728 = true then (laws_FnExactMergeBag.j1 kj24 t683 (t705 != t683) l0_0 l0_1 l1_0 l1_1 t677 t680 t699 t702) else (none)))))) else (none)) = some r := H
 have A98 := Aside0.mk A980
 clear A980
 by_cases c99 : t721 = true
 rotate_left
 ·replace c99 := Bool.eq_false_iff.mpr c99
  subst c99
  have H1 : (none) = some r := by rw [if_neg (show ¬ (false = true) by decide)] at H; exact H
  clear H
  have H := H1
  clear H1
  exact absurd H (by simp)
 subst c99
 have H1 : ((laws_markBag.f kj24 t685 t688 1).bind fun bt722 => ((laws_markBag.f kj24 t692 t695 bt722.1).bind fun bt725 => (if bt725.1 < 0 then (none) else ((laws_eqBag.f kj24 t699 t702 t677 t680).bind fun t728 => (if t728 = true then (laws_FnExactMergeBag.j1 kj24 t683 (t705 != t683) l0_0 l0_1 l1_0 l1_1 t677 t680 t699 t702) else (none)))))) = some r := by rw [if_pos rfl] at H; exact H
 clear H
 have H := H1
 clear H1
 replace H := Option.bind_eq_some_iff.mp H
 obtain ⟨⟨t722, t723, t724⟩, A1000, H⟩ := H
 replace H : ((laws_markBag.f kj24 t692 t695 t722).bind fun bt725 => (if bt725.1 < 0 then (none) else ((laws_eqBag.f kj24 t699 t702 t677 t680).bind fun t728 => (if t728 = true then (laws_FnExactMergeBag.j1 kj24 t683 (t705 != t683) l0_0 l0_1 l1_0 l1_1 t677 t680 t699 t702) else (none))))) = some r := H
 have A100 := Aside0.mk A1000
 clear A1000
 replace H := Option.bind_eq_some_iff.mp H
 obtain ⟨⟨t725, t726, t727⟩, A1010, H⟩ := H
 replace H : (if t725 < 0 then (none) else ((laws_eqBag.f kj24 t699 t702 t677 t680).bind fun t728 => (if t728 = true then (laws_FnExactMergeBag.j1 kj24 t683 (t705 != t683) l0_0 l0_1 l1_0 l1_1 t677 t680 t699 t702) else (none)))) = some r := H
 have A101 := Aside0.mk A1010
 clear A1010
 have HC102 := Aside0.mk H
 clear H
 try go_wp2
 replace HO_685000 := Aside0.mk (Kd.R_drew HO_685000.out)
 replace HO_685001 := Aside0.mk (Kd.R_drew HO_685001.out)
 replace HO_692000 := Aside0.mk (Kd.R_drew HO_692000.out)
 replace HO_692001 := Aside0.mk (Kd.R_drew HO_692001.out)
 replace HO_699000 := Aside0.mk (Kd.R_drew HO_699000.out)
 replace HO_699001 := Aside0.mk (Kd.R_drew HO_699001.out)
 replace HO_707000 := Aside0.mk (Kd.R_drew HO_707000.out)
 replace HO_707001 := Aside0.mk (Kd.R_drew HO_707001.out)
 replace BK661 := Aside0.mk (blk_drew BK661.out)
 replace BK662 := Aside0.mk (blk_drew BK662.out)
 replace BK684 := Aside0.mk (blk_drew BK684.out)
 replace BK691 := Aside0.mk (blk_drew BK691.out)
 replace BK698 := Aside0.mk (blk_drew BK698.out)
 replace BK706 := Aside0.mk (blk_drew BK706.out)
 replace HB := Aside0.mk (below_drew1 HB.out)
 refine start_ (n := 5) (S := fun w' => w'.cell? ⟨gb691, 0, none⟩ = some (.slice Ao51 t685.length co51) ∧ w'.cell? ⟨gb691, 1, none⟩ = some (.slice Ao56 t688.length co56) ∧ w'.cell? ⟨gb661, 0, none⟩ = some (.slice A0_0 l0_0.length c0_0) ∧ w'.cell? ⟨gb661, 1, none⟩ = some (.slice A0_1 l0_1.length c0_1)) (ds := []) #[false, false, false, false, false] (by kernel_rfl) rfl rfl ⟨bc_ BK691.out 0, bc_ BK691.out 1, bc_ BK661.out 0, bc_ BK661.out 1⟩ (fun hHeld => ?_)
 generalize wc.drew = w103 at HO_685000 HO_685001 HO_692000 HO_692001 HO_699000 HO_699001 HO_707000 HO_707001 BK661 BK662 BK684 BK691 BK698 BK706 HB hHeld ⊢
 refine tk4_ 0 (some 54) (h := ?_)
 refine tk4_ 1 (some 55) (h := ?_)
 refine on_ 2 (some 56) (h := fun K hK => ?_)
 refine goes_ Try.func10 (by kernel_rfl) rfl #[.agg #[.slice A0_0 l0_0.length c0_0, .slice A0_1 l0_1.length c0_1]] (by rfl) rfl rfl nc_ ?_
 with_reducible refine (laws_toBag.calls kj24 _ _ l0_0 _ _ l0_1 t708 t711 _ ?side1 ?side2 ?side3 ?side4 A94.out).mono ?_
 (case side1 => exact kc_ (Kd.C_below HR0_0.out HB.out))
 (case side2 => exact HC0_0.out)
 (case side3 => exact kc_ (Kd.C_below HR0_1.out HB.out))
 (case side4 => exact HC0_1.out)
 rintro e w104 ⟨v709, v712, rfl, ho0, ho1, hb⟩
 refine ⟨_, rfl, ?_⟩
 have HO710 := Aside0.mk (Kd.R_lower (rn_ (rn_ (rn_ (rn_ (rn_ (rn_ (rn_ (rn_ ho0 HO_685000.out) HO_685001.out) HO_692000.out) HO_692001.out) HO_699000.out) HO_699001.out) HO_707000.out) HO_707001.out) bz_)
 have HO713 := Aside0.mk (Kd.R_lower (rn_ (rn_ (rn_ (rn_ (rn_ (rn_ (rn_ (rn_ ho1 HO_685000.out) HO_685001.out) HO_692000.out) HO_692001.out) HO_699000.out) HO_699001.out) HO_707000.out) HO_707001.out) bz_)
 replace HO_685000 := rp2_ HO_685000 hb ho0 ho1
 replace HO_685001 := rp2_ HO_685001 hb ho0 ho1
 replace HO_692000 := rp2_ HO_692000 hb ho0 ho1
 replace HO_692001 := rp2_ HO_692001 hb ho0 ho1
 replace HO_699000 := rp2_ HO_699000 hb ho0 ho1
 replace HO_699001 := rp2_ HO_699001 hb ho0 ho1
 replace HO_707000 := rp2_ HO_707000 hb ho0 ho1
 replace HO_707001 := rp2_ HO_707001 hb ho0 ho1
 replace BK661 := bb_ BK661 hb
 replace BK662 := bb_ BK662 hb
 replace BK684 := bb_ BK684 hb
 replace BK691 := bb_ BK691 hb
 replace BK698 := bb_ BK698 hb
 replace BK706 := bb_ BK706 hb
 replace HB := Aside0.mk (below_step bl_ hb)
 clear hb ho0 ho1
 obtain ⟨Ao105, co105, eo105⟩ := Kd.R_slice HO710.out
 (first | subst eo105 | (injection eo105 with f1_ f2_ f3_; have f4_ := f1_.symm; have f5_ := f3_.symm; clear f1_ f2_ f3_; subst f4_; subst f5_))
 obtain ⟨Ao106, co106, eo106⟩ := Kd.R_slice HO713.out
 (first | subst eo106 | (injection eo106 with f1_ f2_ f3_; have f4_ := f1_.symm; have f5_ := f3_.symm; clear f1_ f2_ f3_; subst f4_; subst f5_))
 refine hK.out _ _ ⟨bc_ BK691.out 0, bc_ BK691.out 1, bc_ BK661.out 0, bc_ BK661.out 1⟩ (fun hHeld => ?_)
 clear hK K
 refine norm_ nn_ ?_
 refine on_ 3 (some 57) (h := fun K hK => ?_)
 refine goes_ Try.func12 (by kernel_rfl) rfl #[.agg #[.slice Ao51 t685.length co51, .slice Ao56 t688.length co56], .agg #[.slice Ao105 t708.length co105, .slice Ao106 t711.length co106]] (by rfl) rfl rfl nc_ ?_
 with_reducible refine (laws_eqBag.calls kj24 _ _ t685 _ _ t688 _ _ t708 _ _ t711 true _ ?side1 ?side2 ?side3 ?side4 ?side5 ?side6 ?side7 ?side8 A95.out).mono ?_
 (case side1 => exact kc_ (Kd.R_reads' HO_692000.out).2.2)
 (case side2 => exact (Kd.R_reads' HO_692000.out).2.1)
 (case side3 => exact kc_ (Kd.R_reads' HO_692001.out).2.2)
 (case side4 => exact (Kd.R_reads' HO_692001.out).2.1)
 (case side5 => exact kc_ (Kd.R_reads' HO710.out).2.2)
 (case side6 => exact (Kd.R_reads' HO710.out).2.1)
 (case side7 => exact kc_ (Kd.R_reads' HO713.out).2.2)
 (case side8 => exact (Kd.R_reads' HO713.out).2.1)
 rintro e w107 ⟨rfl, hb⟩
 refine ⟨_, rfl, ?_⟩
 replace HO_685000 := rb_ HO_685000 hb
 replace HO_685001 := rb_ HO_685001 hb
 replace HO_692000 := rb_ HO_692000 hb
 replace HO_692001 := rb_ HO_692001 hb
 replace HO_699000 := rb_ HO_699000 hb
 replace HO_699001 := rb_ HO_699001 hb
 replace HO_707000 := rb_ HO_707000 hb
 replace HO_707001 := rb_ HO_707001 hb
 replace HO710 := rb_ HO710 hb
 replace HO713 := rb_ HO713 hb
 replace BK661 := bb_ BK661 hb
 replace BK662 := bb_ BK662 hb
 replace BK684 := bb_ BK684 hb
 replace BK691 := bb_ BK691 hb
 replace BK698 := bb_ BK698 hb
 replace BK706 := bb_ BK706 hb
 replace HB := Aside0.mk (below_step bl_ hb)
 clear hb
 refine hK.out _ _ ⟨bc_ BK691.out 0, bc_ BK691.out 1, bc_ BK661.out 0, bc_ BK661.out 1⟩ (fun hHeld => ?_)
 clear hK K
 refine norm_ nn_ ?_
 refine pu_ 4 (some 58) (h := ?_)
 refine done_ (by kernel_rfl) ?_
 try go_wp2
 replace HO_685000 := Aside0.mk (Kd.R_drew HO_685000.out)
 replace HO_685001 := Aside0.mk (Kd.R_drew HO_685001.out)
 replace HO_692000 := Aside0.mk (Kd.R_drew HO_692000.out)
 replace HO_692001 := Aside0.mk (Kd.R_drew HO_692001.out)
 replace HO_699000 := Aside0.mk (Kd.R_drew HO_699000.out)
 replace HO_699001 := Aside0.mk (Kd.R_drew HO_699001.out)
 replace HO_707000 := Aside0.mk (Kd.R_drew HO_707000.out)
 replace HO_707001 := Aside0.mk (Kd.R_drew HO_707001.out)
 replace HO710 := Aside0.mk (Kd.R_drew HO710.out)
 replace HO713 := Aside0.mk (Kd.R_drew HO713.out)
 replace BK661 := Aside0.mk (blk_drew BK661.out)
 replace BK662 := Aside0.mk (blk_drew BK662.out)
 replace BK684 := Aside0.mk (blk_drew BK684.out)
 replace BK691 := Aside0.mk (blk_drew BK691.out)
 replace BK698 := Aside0.mk (blk_drew BK698.out)
 replace BK706 := Aside0.mk (blk_drew BK706.out)
 replace HB := Aside0.mk (below_drew1 HB.out)
 refine start_ (n := 5) (S := fun w' => w'.cell? ⟨gb698, 0, none⟩ = some (.slice Ao61 t692.length co61) ∧ w'.cell? ⟨gb698, 1, none⟩ = some (.slice Ao67 t695.length co67) ∧ w'.cell? ⟨gb662, 0, none⟩ = some (.slice A1_0 l1_0.length c1_0) ∧ w'.cell? ⟨gb662, 1, none⟩ = some (.slice A1_1 l1_1.length c1_1)) (ds := []) #[false, false, false, false, false] (by kernel_rfl) rfl rfl ⟨bc_ BK698.out 0, bc_ BK698.out 1, bc_ BK662.out 0, bc_ BK662.out 1⟩ (fun hHeld => ?_)
 generalize w107.drew = w108 at HO_685000 HO_685001 HO_692000 HO_692001 HO_699000 HO_699001 HO_707000 HO_707001 HO710 HO713 BK661 BK662 BK684 BK691 BK698 BK706 HB hHeld ⊢
 refine tk4_ 0 (some 59) (h := ?_)
 refine tk4_ 1 (some 60) (h := ?_)
 refine on_ 2 (some 61) (h := fun K hK => ?_)
 refine goes_ Try.func10 (by kernel_rfl) rfl #[.agg #[.slice A1_0 l1_0.length c1_0, .slice A1_1 l1_1.length c1_1]] (by rfl) rfl rfl nc_ ?_
 with_reducible refine (laws_toBag.calls kj24 _ _ l1_0 _ _ l1_1 t715 t718 _ ?side1 ?side2 ?side3 ?side4 A97.out).mono ?_
 (case side1 => exact kc_ (Kd.C_below HR1_0.out HB.out))
 (case side2 => exact HC1_0.out)
 (case side3 => exact kc_ (Kd.C_below HR1_1.out HB.out))
 (case side4 => exact HC1_1.out)
 rintro e w109 ⟨v716, v719, rfl, ho0, ho1, hb⟩
 refine ⟨_, rfl, ?_⟩
 have HO717 := Aside0.mk (Kd.R_lower (rn_ (rn_ (rn_ (rn_ (rn_ (rn_ (rn_ (rn_ (rn_ (rn_ ho0 HO_685000.out) HO_685001.out) HO_692000.out) HO_692001.out) HO_699000.out) HO_699001.out) HO_707000.out) HO_707001.out) HO710.out) HO713.out) bz_)
 have HO720 := Aside0.mk (Kd.R_lower (rn_ (rn_ (rn_ (rn_ (rn_ (rn_ (rn_ (rn_ (rn_ (rn_ ho1 HO_685000.out) HO_685001.out) HO_692000.out) HO_692001.out) HO_699000.out) HO_699001.out) HO_707000.out) HO_707001.out) HO710.out) HO713.out) bz_)
 replace HO_685000 := rp2_ HO_685000 hb ho0 ho1
 replace HO_685001 := rp2_ HO_685001 hb ho0 ho1
 replace HO_692000 := rp2_ HO_692000 hb ho0 ho1
 replace HO_692001 := rp2_ HO_692001 hb ho0 ho1
 replace HO_699000 := rp2_ HO_699000 hb ho0 ho1
 replace HO_699001 := rp2_ HO_699001 hb ho0 ho1
 replace HO_707000 := rp2_ HO_707000 hb ho0 ho1
 replace HO_707001 := rp2_ HO_707001 hb ho0 ho1
 replace HO710 := rp2_ HO710 hb ho0 ho1
 replace HO713 := rp2_ HO713 hb ho0 ho1
 replace BK661 := bb_ BK661 hb
 replace BK662 := bb_ BK662 hb
 replace BK684 := bb_ BK684 hb
 replace BK691 := bb_ BK691 hb
 replace BK698 := bb_ BK698 hb
 replace BK706 := bb_ BK706 hb
 replace HB := Aside0.mk (below_step bl_ hb)
 clear hb ho0 ho1
 obtain ⟨Ao110, co110, eo110⟩ := Kd.R_slice HO717.out
 (first | subst eo110 | (injection eo110 with f1_ f2_ f3_; have f4_ := f1_.symm; have f5_ := f3_.symm; clear f1_ f2_ f3_; subst f4_; subst f5_))
 obtain ⟨Ao111, co111, eo111⟩ := Kd.R_slice HO720.out
 (first | subst eo111 | (injection eo111 with f1_ f2_ f3_; have f4_ := f1_.symm; have f5_ := f3_.symm; clear f1_ f2_ f3_; subst f4_; subst f5_))
 refine hK.out _ _ ⟨bc_ BK698.out 0, bc_ BK698.out 1, bc_ BK662.out 0, bc_ BK662.out 1⟩ (fun hHeld => ?_)
 clear hK K
 refine norm_ nn_ ?_
 refine on_ 3 (some 62) (h := fun K hK => ?_)
 refine goes_ Try.func12 (by kernel_rfl) rfl #[.agg #[.slice Ao61 t692.length co61, .slice Ao67 t695.length co67], .agg #[.slice Ao110 t715.length co110, .slice Ao111 t718.length co111]] (by rfl) rfl rfl nc_ ?_
 with_reducible refine (laws_eqBag.calls kj24 _ _ t692 _ _ t695 _ _ t715 _ _ t718 true _ ?side1 ?side2 ?side3 ?side4 ?side5 ?side6 ?side7 ?side8 A98.out).mono ?_
 (case side1 => exact kc_ (Kd.R_reads' HO_699000.out).2.2)
 (case side2 => exact (Kd.R_reads' HO_699000.out).2.1)
 (case side3 => exact kc_ (Kd.R_reads' HO_699001.out).2.2)
 (case side4 => exact (Kd.R_reads' HO_699001.out).2.1)
 (case side5 => exact kc_ (Kd.R_reads' HO717.out).2.2)
 (case side6 => exact (Kd.R_reads' HO717.out).2.1)
 (case side7 => exact kc_ (Kd.R_reads' HO720.out).2.2)
 (case side8 => exact (Kd.R_reads' HO720.out).2.1)
 rintro e w112 ⟨rfl, hb⟩
 refine ⟨_, rfl, ?_⟩
 replace HO_685000 := rb_ HO_685000 hb
 replace HO_685001 := rb_ HO_685001 hb
 replace HO_692000 := rb_ HO_692000 hb
 replace HO_692001 := rb_ HO_692001 hb
 replace HO_699000 := rb_ HO_699000 hb
 replace HO_699001 := rb_ HO_699001 hb
 replace HO_707000 := rb_ HO_707000 hb
 replace HO_707001 := rb_ HO_707001 hb
 replace HO710 := rb_ HO710 hb
 replace HO713 := rb_ HO713 hb
 replace HO717 := rb_ HO717 hb
 replace HO720 := rb_ HO720 hb
 replace BK661 := bb_ BK661 hb
 replace BK662 := bb_ BK662 hb
 replace BK684 := bb_ BK684 hb
 replace BK691 := bb_ BK691 hb
 replace BK698 := bb_ BK698 hb
 replace BK706 := bb_ BK706 hb
 replace HB := Aside0.mk (below_step bl_ hb)
 clear hb
 refine hK.out _ _ ⟨bc_ BK698.out 0, bc_ BK698.out 1, bc_ BK662.out 0, bc_ BK662.out 1⟩ (fun hHeld => ?_)
 clear hK K
 refine norm_ nn_ ?_
 refine pu_ 4 (some 63) (h := ?_)
 refine done_ (by kernel_rfl) ?_
 have hnb113 := NB691_661.out
 have hnc113 := NB661_691.out
 have hnb114 := NB691_662.out
 have hnc114 := NB662_691.out
 have hnb115 := NB691_684.out
 have hnc115 := NB684_691.out
 have hnb116 := NB691_698.out
 have hnc116 := NB698_691.out
 have hnb117 := NB691_706.out
 have hnc117 := NB706_691.out
 have hcz118_0 : w112.cell? ⟨gb691, 0, none⟩ = some (.slice Ao51 t685.length co51) := bc_ BK691.out 0
 have hcz118_1 : w112.cell? ⟨gb691, 1, none⟩ = some (.slice Ao56 t688.length co56) := bc_ BK691.out 1
 have hfz118_0 := blk_frozen BK691.out 0
 have hfz118_1 := blk_frozen BK691.out 1
 go_upto_region 21 with (first | ((with_reducible refine gate_callee (f := 15) rfl ?_); refine goesL_ (some 66) rfl rfl Try.func15 (by kernel_rfl) rfl #[.agg #[.slice Ao51 t685.length co51, .slice Ao56 t688.length co56], .int .i64 1] rfl nc_ ?_; (with_reducible refine (laws_markBag.calls kj24 (fun k_ => some k_ = (.slice Ao51 t685.length co51 : Value).ownBlock) (.slice Ao51 t685.length co51) t685 (fun k_ => some k_ = (.slice Ao56 t688.length co56 : Value).ownBlock) (.slice Ao56 t688.length co56) t688 1 t722 t723 t724 w _ ?side1 ?side2 ?side3 ?side4 ?side5 A100.out).mono ?_); (case side1 => repeat (first | (with_reducible first | exact HB.out | apply below_alloc | apply pw_below_drewN | apply below_drew1 | refine below_set ?_ GE661.out | refine below_set ?_ GE662.out | refine below_set ?_ GE684.out | refine below_set ?_ GE691.out | refine below_set ?_ GE698.out | refine below_set ?_ GE706.out) | exact HB.out)); (case side2 => exact Kd.R_tight rfl HO_692000.out); (case side3 => exact fun k_ e_ => (HO_692000.out.1 k_ e_.symm).1.1.1.1.2.2.1); (case side4 => exact Kd.R_tight rfl HO_692001.out); (case side5 => exact fun k_ e_ => (HO_692001.out.1 k_ e_.symm).1.1.1.1.2.2.1); rintro e w119 ⟨rfl, hy0, hy1, hb, hkp⟩; refine ⟨_, rfl, ?_⟩; replace HO_685000 := Aside0.mk (Kd.R_mono (ok' := fun k_ => some k_ ≠ (.slice Ao45 t680.length co45 : Value).ownBlock ∧ some k_ ≠ (.slice Ao51 t685.length co51 : Value).ownBlock ∧ some k_ ≠ (.slice Ao56 t688.length co56 : Value).ownBlock ∧ some k_ ≠ (.slice Ao61 t692.length co61 : Value).ownBlock ∧ some k_ ≠ (.slice Ao67 t695.length co67 : Value).ownBlock ∧ some k_ ≠ (.slice Ao71 t699.length co71 : Value).ownBlock ∧ some k_ ≠ (.slice Ao78 t702.length co78 : Value).ownBlock ∧ some k_ ≠ (.slice Ao105 t708.length co105 : Value).ownBlock ∧ some k_ ≠ (.slice Ao106 t711.length co106 : Value).ownBlock ∧ some k_ ≠ (.slice Ao110 t715.length co110 : Value).ownBlock ∧ some k_ ≠ (.slice Ao111 t718.length co111 : Value).ownBlock) (Kd.R_keptB (HO_685000.out) hkp (fun k_ hk_ hs_ => Or.elim hs_ (fun e_ => (hk_.1.1.1.1.2.1) e_) (fun e_ => (hk_.1.1.1.1.2.2.1) e_))) (fun k_ hk_ => ⟨hk_.1.1.1.1.1.1, hk_.1.1.1.1.1.2.1, hk_.1.1.1.1.1.2.2.1, hk_.1.1.1.1.1.2.2.2.1, hk_.1.1.1.1.1.2.2.2.2.1, hk_.1.1.1.1.1.2.2.2.2.2.1, hk_.1.1.1.1.1.2.2.2.2.2.2, hk_.1.1.1.1.2, hk_.1.1.1.2, hk_.1.1.2, hk_.1.2⟩)); replace HO_685001 := Aside0.mk (Kd.R_mono (ok' := fun k_ => some k_ ≠ (.slice Ao43 t677.length co43 : Value).ownBlock ∧ some k_ ≠ (.slice Ao51 t685.length co51 : Value).ownBlock ∧ some k_ ≠ (.slice Ao56 t688.length co56 : Value).ownBlock ∧ some k_ ≠ (.slice Ao61 t692.length co61 : Value).ownBlock ∧ some k_ ≠ (.slice Ao67 t695.length co67 : Value).ownBlock ∧ some k_ ≠ (.slice Ao71 t699.length co71 : Value).ownBlock ∧ some k_ ≠ (.slice Ao78 t702.length co78 : Value).ownBlock ∧ some k_ ≠ (.slice Ao105 t708.length co105 : Value).ownBlock ∧ some k_ ≠ (.slice Ao106 t711.length co106 : Value).ownBlock ∧ some k_ ≠ (.slice Ao110 t715.length co110 : Value).ownBlock ∧ some k_ ≠ (.slice Ao111 t718.length co111 : Value).ownBlock) (Kd.R_keptB (HO_685001.out) hkp (fun k_ hk_ hs_ => Or.elim hs_ (fun e_ => (hk_.1.1.1.1.2.1) e_) (fun e_ => (hk_.1.1.1.1.2.2.1) e_))) (fun k_ hk_ => ⟨hk_.1.1.1.1.1.1, hk_.1.1.1.1.1.2.1, hk_.1.1.1.1.1.2.2.1, hk_.1.1.1.1.1.2.2.2.1, hk_.1.1.1.1.1.2.2.2.2.1, hk_.1.1.1.1.1.2.2.2.2.2.1, hk_.1.1.1.1.1.2.2.2.2.2.2, hk_.1.1.1.1.2, hk_.1.1.1.2, hk_.1.1.2, hk_.1.2⟩)); replace HO_699000 := Aside0.mk (Kd.R_mono (ok' := fun k_ => some k_ ≠ (.slice Ao43 t677.length co43 : Value).ownBlock ∧ some k_ ≠ (.slice Ao45 t680.length co45 : Value).ownBlock ∧ some k_ ≠ (.slice Ao51 t685.length co51 : Value).ownBlock ∧ some k_ ≠ (.slice Ao56 t688.length co56 : Value).ownBlock ∧ some k_ ≠ (.slice Ao67 t695.length co67 : Value).ownBlock ∧ some k_ ≠ (.slice Ao71 t699.length co71 : Value).ownBlock ∧ some k_ ≠ (.slice Ao78 t702.length co78 : Value).ownBlock ∧ some k_ ≠ (.slice Ao105 t708.length co105 : Value).ownBlock ∧ some k_ ≠ (.slice Ao106 t711.length co106 : Value).ownBlock ∧ some k_ ≠ (.slice Ao110 t715.length co110 : Value).ownBlock ∧ some k_ ≠ (.slice Ao111 t718.length co111 : Value).ownBlock) (Kd.R_keptB (HO_699000.out) hkp (fun k_ hk_ hs_ => Or.elim hs_ (fun e_ => (hk_.1.1.1.1.2.2.1) e_) (fun e_ => (hk_.1.1.1.1.2.2.2.1) e_))) (fun k_ hk_ => ⟨hk_.1.1.1.1.1.1, hk_.1.1.1.1.1.2.1, hk_.1.1.1.1.1.2.2.1, hk_.1.1.1.1.1.2.2.2.1, hk_.1.1.1.1.1.2.2.2.2.1, hk_.1.1.1.1.1.2.2.2.2.2.1, hk_.1.1.1.1.1.2.2.2.2.2.2, hk_.1.1.1.1.2, hk_.1.1.1.2, hk_.1.1.2, hk_.1.2⟩)); replace HO_699001 := Aside0.mk (Kd.R_mono (ok' := fun k_ => some k_ ≠ (.slice Ao43 t677.length co43 : Value).ownBlock ∧ some k_ ≠ (.slice Ao45 t680.length co45 : Value).ownBlock ∧ some k_ ≠ (.slice Ao51 t685.length co51 : Value).ownBlock ∧ some k_ ≠ (.slice Ao56 t688.length co56 : Value).ownBlock ∧ some k_ ≠ (.slice Ao61 t692.length co61 : Value).ownBlock ∧ some k_ ≠ (.slice Ao71 t699.length co71 : Value).ownBlock ∧ some k_ ≠ (.slice Ao78 t702.length co78 : Value).ownBlock ∧ some k_ ≠ (.slice Ao105 t708.length co105 : Value).ownBlock ∧ some k_ ≠ (.slice Ao106 t711.length co106 : Value).ownBlock ∧ some k_ ≠ (.slice Ao110 t715.length co110 : Value).ownBlock ∧ some k_ ≠ (.slice Ao111 t718.length co111 : Value).ownBlock) (Kd.R_keptB (HO_699001.out) hkp (fun k_ hk_ hs_ => Or.elim hs_ (fun e_ => (hk_.1.1.1.1.2.2.1) e_) (fun e_ => (hk_.1.1.1.1.2.2.2.1) e_))) (fun k_ hk_ => ⟨hk_.1.1.1.1.1.1, hk_.1.1.1.1.1.2.1, hk_.1.1.1.1.1.2.2.1, hk_.1.1.1.1.1.2.2.2.1, hk_.1.1.1.1.1.2.2.2.2.1, hk_.1.1.1.1.1.2.2.2.2.2.1, hk_.1.1.1.1.1.2.2.2.2.2.2, hk_.1.1.1.1.2, hk_.1.1.1.2, hk_.1.1.2, hk_.1.2⟩)); replace HO_707000 := Aside0.mk (Kd.R_mono (ok' := fun k_ => some k_ ≠ (.slice Ao43 t677.length co43 : Value).ownBlock ∧ some k_ ≠ (.slice Ao45 t680.length co45 : Value).ownBlock ∧ some k_ ≠ (.slice Ao51 t685.length co51 : Value).ownBlock ∧ some k_ ≠ (.slice Ao56 t688.length co56 : Value).ownBlock ∧ some k_ ≠ (.slice Ao61 t692.length co61 : Value).ownBlock ∧ some k_ ≠ (.slice Ao67 t695.length co67 : Value).ownBlock ∧ some k_ ≠ (.slice Ao78 t702.length co78 : Value).ownBlock ∧ some k_ ≠ (.slice Ao105 t708.length co105 : Value).ownBlock ∧ some k_ ≠ (.slice Ao106 t711.length co106 : Value).ownBlock ∧ some k_ ≠ (.slice Ao110 t715.length co110 : Value).ownBlock ∧ some k_ ≠ (.slice Ao111 t718.length co111 : Value).ownBlock) (Kd.R_keptB (HO_707000.out) hkp (fun k_ hk_ hs_ => Or.elim hs_ (fun e_ => (hk_.1.1.1.1.2.2.1) e_) (fun e_ => (hk_.1.1.1.1.2.2.2.1) e_))) (fun k_ hk_ => ⟨hk_.1.1.1.1.1.1, hk_.1.1.1.1.1.2.1, hk_.1.1.1.1.1.2.2.1, hk_.1.1.1.1.1.2.2.2.1, hk_.1.1.1.1.1.2.2.2.2.1, hk_.1.1.1.1.1.2.2.2.2.2.1, hk_.1.1.1.1.1.2.2.2.2.2.2, hk_.1.1.1.1.2, hk_.1.1.1.2, hk_.1.1.2, hk_.1.2⟩)); replace HO_707001 := Aside0.mk (Kd.R_mono (ok' := fun k_ => some k_ ≠ (.slice Ao43 t677.length co43 : Value).ownBlock ∧ some k_ ≠ (.slice Ao45 t680.length co45 : Value).ownBlock ∧ some k_ ≠ (.slice Ao51 t685.length co51 : Value).ownBlock ∧ some k_ ≠ (.slice Ao56 t688.length co56 : Value).ownBlock ∧ some k_ ≠ (.slice Ao61 t692.length co61 : Value).ownBlock ∧ some k_ ≠ (.slice Ao67 t695.length co67 : Value).ownBlock ∧ some k_ ≠ (.slice Ao71 t699.length co71 : Value).ownBlock ∧ some k_ ≠ (.slice Ao105 t708.length co105 : Value).ownBlock ∧ some k_ ≠ (.slice Ao106 t711.length co106 : Value).ownBlock ∧ some k_ ≠ (.slice Ao110 t715.length co110 : Value).ownBlock ∧ some k_ ≠ (.slice Ao111 t718.length co111 : Value).ownBlock) (Kd.R_keptB (HO_707001.out) hkp (fun k_ hk_ hs_ => Or.elim hs_ (fun e_ => (hk_.1.1.1.1.2.2.1) e_) (fun e_ => (hk_.1.1.1.1.2.2.2.1) e_))) (fun k_ hk_ => ⟨hk_.1.1.1.1.1.1, hk_.1.1.1.1.1.2.1, hk_.1.1.1.1.1.2.2.1, hk_.1.1.1.1.1.2.2.2.1, hk_.1.1.1.1.1.2.2.2.2.1, hk_.1.1.1.1.1.2.2.2.2.2.1, hk_.1.1.1.1.1.2.2.2.2.2.2, hk_.1.1.1.1.2, hk_.1.1.1.2, hk_.1.1.2, hk_.1.2⟩)); replace BK661 := Aside0.mk (blk_kept (kb_ BK661.out) hkp (fun hs_ => Or.elim hs_ (fun e_ => (fun e_ => (Kd.R_ne HO_692000.out BK661.out (by decide)) e_) e_) (fun e_ => (fun e_ => (Kd.R_ne HO_692001.out BK661.out (by decide)) e_) e_))); replace BK662 := Aside0.mk (blk_kept (kb_ BK662.out) hkp (fun hs_ => Or.elim hs_ (fun e_ => (fun e_ => (Kd.R_ne HO_692000.out BK662.out (by decide)) e_) e_) (fun e_ => (fun e_ => (Kd.R_ne HO_692001.out BK662.out (by decide)) e_) e_))); replace BK684 := Aside0.mk (blk_kept (kb_ BK684.out) hkp (fun hs_ => Or.elim hs_ (fun e_ => (fun e_ => (Kd.R_ne HO_692000.out BK684.out (by decide)) e_) e_) (fun e_ => (fun e_ => (Kd.R_ne HO_692001.out BK684.out (by decide)) e_) e_))); replace BK691 := Aside0.mk (blk_kept (kb_ BK691.out) hkp (fun hs_ => Or.elim hs_ (fun e_ => (fun e_ => (Kd.R_ne HO_692000.out BK691.out (by decide)) e_) e_) (fun e_ => (fun e_ => (Kd.R_ne HO_692001.out BK691.out (by decide)) e_) e_))); replace BK698 := Aside0.mk (blk_kept (kb_ BK698.out) hkp (fun hs_ => Or.elim hs_ (fun e_ => (fun e_ => (Kd.R_ne HO_692000.out BK698.out (by decide)) e_) e_) (fun e_ => (fun e_ => (Kd.R_ne HO_692001.out BK698.out (by decide)) e_) e_))); replace BK706 := Aside0.mk (blk_kept (kb_ BK706.out) hkp (fun hs_ => Or.elim hs_ (fun e_ => (fun e_ => (Kd.R_ne HO_692000.out BK706.out (by decide)) e_) e_) (fun e_ => (fun e_ => (Kd.R_ne HO_692001.out BK706.out (by decide)) e_) e_))); replace HO_692000 := Aside0.mk (Kd.R_reok rfl hy0 (fun k_ e_ => HO_692000.out.1 k_ e_)); replace HO_692001 := Aside0.mk (Kd.R_reok rfl hy1 (fun k_ e_ => HO_692001.out.1 k_ e_)); replace HO710 := Aside0.mk (Kd.R_mono (ok' := fun k_ => some k_ ≠ (.slice Ao43 t677.length co43 : Value).ownBlock ∧ some k_ ≠ (.slice Ao45 t680.length co45 : Value).ownBlock ∧ some k_ ≠ (.slice Ao51 t685.length co51 : Value).ownBlock ∧ some k_ ≠ (.slice Ao56 t688.length co56 : Value).ownBlock ∧ some k_ ≠ (.slice Ao61 t692.length co61 : Value).ownBlock ∧ some k_ ≠ (.slice Ao67 t695.length co67 : Value).ownBlock ∧ some k_ ≠ (.slice Ao71 t699.length co71 : Value).ownBlock ∧ some k_ ≠ (.slice Ao78 t702.length co78 : Value).ownBlock ∧ some k_ ≠ (.slice Ao106 t711.length co106 : Value).ownBlock ∧ some k_ ≠ (.slice Ao110 t715.length co110 : Value).ownBlock ∧ some k_ ≠ (.slice Ao111 t718.length co111 : Value).ownBlock) (Kd.R_keptB (HO710.out) hkp (fun k_ hk_ hs_ => Or.elim hs_ (fun e_ => (hk_.1.1.1.1.1.1.1.2) e_) (fun e_ => (hk_.1.1.1.1.1.1.2) e_))) (fun k_ hk_ => ⟨hk_.1.1.1.1.1.1.1.1.1.1.2, hk_.1.1.1.1.1.1.1.1.1.2, hk_.1.1.1.1.1.1.1.1.2, hk_.1.1.1.1.1.1.1.2, hk_.1.1.1.1.1.1.2, hk_.1.1.1.1.1.2, hk_.1.1.1.1.2, hk_.1.1.1.2, hk_.1.1.1.1.1.1.1.1.1.1.1, hk_.1.1.2, hk_.1.2⟩)); replace HO713 := Aside0.mk (Kd.R_mono (ok' := fun k_ => some k_ ≠ (.slice Ao43 t677.length co43 : Value).ownBlock ∧ some k_ ≠ (.slice Ao45 t680.length co45 : Value).ownBlock ∧ some k_ ≠ (.slice Ao51 t685.length co51 : Value).ownBlock ∧ some k_ ≠ (.slice Ao56 t688.length co56 : Value).ownBlock ∧ some k_ ≠ (.slice Ao61 t692.length co61 : Value).ownBlock ∧ some k_ ≠ (.slice Ao67 t695.length co67 : Value).ownBlock ∧ some k_ ≠ (.slice Ao71 t699.length co71 : Value).ownBlock ∧ some k_ ≠ (.slice Ao78 t702.length co78 : Value).ownBlock ∧ some k_ ≠ (.slice Ao105 t708.length co105 : Value).ownBlock ∧ some k_ ≠ (.slice Ao110 t715.length co110 : Value).ownBlock ∧ some k_ ≠ (.slice Ao111 t718.length co111 : Value).ownBlock) (Kd.R_keptB (HO713.out) hkp (fun k_ hk_ hs_ => Or.elim hs_ (fun e_ => (hk_.1.1.1.1.1.1.1.2) e_) (fun e_ => (hk_.1.1.1.1.1.1.2) e_))) (fun k_ hk_ => ⟨hk_.1.1.1.1.1.1.1.1.1.1.2, hk_.1.1.1.1.1.1.1.1.1.2, hk_.1.1.1.1.1.1.1.1.2, hk_.1.1.1.1.1.1.1.2, hk_.1.1.1.1.1.1.2, hk_.1.1.1.1.1.2, hk_.1.1.1.1.2, hk_.1.1.1.2, hk_.1.1.1.1.1.1.1.1.1.1.1, hk_.1.1.2, hk_.1.2⟩)); replace HO717 := Aside0.mk (Kd.R_mono (ok' := fun k_ => some k_ ≠ (.slice Ao43 t677.length co43 : Value).ownBlock ∧ some k_ ≠ (.slice Ao45 t680.length co45 : Value).ownBlock ∧ some k_ ≠ (.slice Ao51 t685.length co51 : Value).ownBlock ∧ some k_ ≠ (.slice Ao56 t688.length co56 : Value).ownBlock ∧ some k_ ≠ (.slice Ao61 t692.length co61 : Value).ownBlock ∧ some k_ ≠ (.slice Ao67 t695.length co67 : Value).ownBlock ∧ some k_ ≠ (.slice Ao71 t699.length co71 : Value).ownBlock ∧ some k_ ≠ (.slice Ao78 t702.length co78 : Value).ownBlock ∧ some k_ ≠ (.slice Ao105 t708.length co105 : Value).ownBlock ∧ some k_ ≠ (.slice Ao106 t711.length co106 : Value).ownBlock ∧ some k_ ≠ (.slice Ao111 t718.length co111 : Value).ownBlock) (Kd.R_keptB (HO717.out) hkp (fun k_ hk_ hs_ => Or.elim hs_ (fun e_ => (hk_.1.1.1.1.1.1.1.2) e_) (fun e_ => (hk_.1.1.1.1.1.1.2) e_))) (fun k_ hk_ => ⟨hk_.1.1.1.1.1.1.1.1.1.1.2, hk_.1.1.1.1.1.1.1.1.1.2, hk_.1.1.1.1.1.1.1.1.2, hk_.1.1.1.1.1.1.1.2, hk_.1.1.1.1.1.1.2, hk_.1.1.1.1.1.2, hk_.1.1.1.1.2, hk_.1.1.1.2, hk_.1.1.2, hk_.1.2, hk_.1.1.1.1.1.1.1.1.1.1.1⟩)); replace HO720 := Aside0.mk (Kd.R_mono (ok' := fun k_ => some k_ ≠ (.slice Ao43 t677.length co43 : Value).ownBlock ∧ some k_ ≠ (.slice Ao45 t680.length co45 : Value).ownBlock ∧ some k_ ≠ (.slice Ao51 t685.length co51 : Value).ownBlock ∧ some k_ ≠ (.slice Ao56 t688.length co56 : Value).ownBlock ∧ some k_ ≠ (.slice Ao61 t692.length co61 : Value).ownBlock ∧ some k_ ≠ (.slice Ao67 t695.length co67 : Value).ownBlock ∧ some k_ ≠ (.slice Ao71 t699.length co71 : Value).ownBlock ∧ some k_ ≠ (.slice Ao78 t702.length co78 : Value).ownBlock ∧ some k_ ≠ (.slice Ao105 t708.length co105 : Value).ownBlock ∧ some k_ ≠ (.slice Ao106 t711.length co106 : Value).ownBlock ∧ some k_ ≠ (.slice Ao110 t715.length co110 : Value).ownBlock) (Kd.R_keptB (HO720.out) hkp (fun k_ hk_ hs_ => Or.elim hs_ (fun e_ => (hk_.1.1.1.1.1.1.1.2) e_) (fun e_ => (hk_.1.1.1.1.1.1.2) e_))) (fun k_ hk_ => ⟨hk_.1.1.1.1.1.1.1.1.1.1.2, hk_.1.1.1.1.1.1.1.1.1.2, hk_.1.1.1.1.1.1.1.1.2, hk_.1.1.1.1.1.1.1.2, hk_.1.1.1.1.1.1.2, hk_.1.1.1.1.1.2, hk_.1.1.1.1.2, hk_.1.1.1.2, hk_.1.1.2, hk_.1.2, hk_.1.1.1.1.1.1.1.1.1.1.1⟩)); replace HB := Aside0.mk (hb); clear hb; have hnb120 := NB698_661.out; have hnc120 := NB661_698.out; have hnb121 := NB698_662.out; have hnc121 := NB662_698.out; have hnb122 := NB698_684.out; have hnc122 := NB684_698.out; have hnb123 := NB698_706.out; have hnc123 := NB706_698.out; have hcz124_0 : w119.cell? ⟨gb698, 0, none⟩ = some (.slice Ao61 t692.length co61) := bc_ BK698.out 0; have hcz124_1 : w119.cell? ⟨gb698, 1, none⟩ = some (.slice Ao67 t695.length co67) := bc_ BK698.out 1; have hfz124_0 := blk_frozen BK698.out 0; have hfz124_1 := blk_frozen BK698.out 1) | ((with_reducible refine gate_callee (f := 15) rfl ?_); refine goesL_ (some 69) rfl rfl Try.func15 (by kernel_rfl) rfl #[.agg #[.slice Ao61 t692.length co61, .slice Ao67 t695.length co67], .int .i64 t722] rfl nc_ ?_; (with_reducible refine (laws_markBag.calls kj24 (fun k_ => some k_ = (.slice Ao61 t692.length co61 : Value).ownBlock) (.slice Ao61 t692.length co61) t692 (fun k_ => some k_ = (.slice Ao67 t695.length co67 : Value).ownBlock) (.slice Ao67 t695.length co67) t695 t722 t725 t726 t727 w _ ?side1 ?side2 ?side3 ?side4 ?side5 A101.out).mono ?_); (case side1 => repeat (first | (with_reducible first | exact HB.out | apply below_alloc | apply pw_below_drewN | apply below_drew1 | refine below_set ?_ GE661.out | refine below_set ?_ GE662.out | refine below_set ?_ GE684.out | refine below_set ?_ GE691.out | refine below_set ?_ GE698.out | refine below_set ?_ GE706.out) | exact HB.out)); (case side2 => exact Kd.R_tight rfl HO_699000.out); (case side3 => exact fun k_ e_ => (HO_699000.out.1 k_ e_.symm).2.2.2.2.1); (case side4 => exact Kd.R_tight rfl HO_699001.out); (case side5 => exact fun k_ e_ => (HO_699001.out.1 k_ e_.symm).2.2.2.2.1); rintro e w125 ⟨rfl, hy0, hy1, hb, hkp⟩; refine ⟨_, rfl, ?_⟩; replace HO_685000 := Aside0.mk (Kd.R_mono (ok' := fun k_ => some k_ ≠ (.slice Ao45 t680.length co45 : Value).ownBlock ∧ some k_ ≠ (.slice Ao51 t685.length co51 : Value).ownBlock ∧ some k_ ≠ (.slice Ao56 t688.length co56 : Value).ownBlock ∧ some k_ ≠ (.slice Ao61 t692.length co61 : Value).ownBlock ∧ some k_ ≠ (.slice Ao67 t695.length co67 : Value).ownBlock ∧ some k_ ≠ (.slice Ao71 t699.length co71 : Value).ownBlock ∧ some k_ ≠ (.slice Ao78 t702.length co78 : Value).ownBlock ∧ some k_ ≠ (.slice Ao105 t708.length co105 : Value).ownBlock ∧ some k_ ≠ (.slice Ao106 t711.length co106 : Value).ownBlock ∧ some k_ ≠ (.slice Ao110 t715.length co110 : Value).ownBlock ∧ some k_ ≠ (.slice Ao111 t718.length co111 : Value).ownBlock) (Kd.R_keptB (HO_685000.out) hkp (fun k_ hk_ hs_ => Or.elim hs_ (fun e_ => (hk_.2.2.2.1) e_) (fun e_ => (hk_.2.2.2.2.1) e_))) (fun k_ hk_ => ⟨hk_.1.1, hk_.1.2.1, hk_.1.2.2.1, hk_.1.2.2.2.1, hk_.1.2.2.2.2.1, hk_.1.2.2.2.2.2.1, hk_.1.2.2.2.2.2.2.1, hk_.1.2.2.2.2.2.2.2.1, hk_.1.2.2.2.2.2.2.2.2.1, hk_.1.2.2.2.2.2.2.2.2.2.1, hk_.1.2.2.2.2.2.2.2.2.2.2⟩)); replace HO_685001 := Aside0.mk (Kd.R_mono (ok' := fun k_ => some k_ ≠ (.slice Ao43 t677.length co43 : Value).ownBlock ∧ some k_ ≠ (.slice Ao51 t685.length co51 : Value).ownBlock ∧ some k_ ≠ (.slice Ao56 t688.length co56 : Value).ownBlock ∧ some k_ ≠ (.slice Ao61 t692.length co61 : Value).ownBlock ∧ some k_ ≠ (.slice Ao67 t695.length co67 : Value).ownBlock ∧ some k_ ≠ (.slice Ao71 t699.length co71 : Value).ownBlock ∧ some k_ ≠ (.slice Ao78 t702.length co78 : Value).ownBlock ∧ some k_ ≠ (.slice Ao105 t708.length co105 : Value).ownBlock ∧ some k_ ≠ (.slice Ao106 t711.length co106 : Value).ownBlock ∧ some k_ ≠ (.slice Ao110 t715.length co110 : Value).ownBlock ∧ some k_ ≠ (.slice Ao111 t718.length co111 : Value).ownBlock) (Kd.R_keptB (HO_685001.out) hkp (fun k_ hk_ hs_ => Or.elim hs_ (fun e_ => (hk_.2.2.2.1) e_) (fun e_ => (hk_.2.2.2.2.1) e_))) (fun k_ hk_ => ⟨hk_.1.1, hk_.1.2.1, hk_.1.2.2.1, hk_.1.2.2.2.1, hk_.1.2.2.2.2.1, hk_.1.2.2.2.2.2.1, hk_.1.2.2.2.2.2.2.1, hk_.1.2.2.2.2.2.2.2.1, hk_.1.2.2.2.2.2.2.2.2.1, hk_.1.2.2.2.2.2.2.2.2.2.1, hk_.1.2.2.2.2.2.2.2.2.2.2⟩)); replace HO_692000 := Aside0.mk (Kd.R_mono (ok' := fun k_ => some k_ ≠ (.slice Ao43 t677.length co43 : Value).ownBlock ∧ some k_ ≠ (.slice Ao45 t680.length co45 : Value).ownBlock ∧ some k_ ≠ (.slice Ao56 t688.length co56 : Value).ownBlock ∧ some k_ ≠ (.slice Ao61 t692.length co61 : Value).ownBlock ∧ some k_ ≠ (.slice Ao67 t695.length co67 : Value).ownBlock ∧ some k_ ≠ (.slice Ao71 t699.length co71 : Value).ownBlock ∧ some k_ ≠ (.slice Ao78 t702.length co78 : Value).ownBlock ∧ some k_ ≠ (.slice Ao105 t708.length co105 : Value).ownBlock ∧ some k_ ≠ (.slice Ao106 t711.length co106 : Value).ownBlock ∧ some k_ ≠ (.slice Ao110 t715.length co110 : Value).ownBlock ∧ some k_ ≠ (.slice Ao111 t718.length co111 : Value).ownBlock) (Kd.R_keptB (HO_692000.out) hkp (fun k_ hk_ hs_ => Or.elim hs_ (fun e_ => (hk_.1.1.1.1.2.2.2.1) e_) (fun e_ => (hk_.1.1.1.1.2.2.2.2.1) e_))) (fun k_ hk_ => ⟨hk_.1.1.1.1.1.1, hk_.1.1.1.1.1.2.1, hk_.1.1.1.1.1.2.2.1, hk_.1.1.1.1.1.2.2.2.1, hk_.1.1.1.1.1.2.2.2.2.1, hk_.1.1.1.1.1.2.2.2.2.2.1, hk_.1.1.1.1.1.2.2.2.2.2.2, hk_.1.1.1.1.2, hk_.1.1.1.2, hk_.1.1.2, hk_.1.2⟩)); replace HO_692001 := Aside0.mk (Kd.R_mono (ok' := fun k_ => some k_ ≠ (.slice Ao43 t677.length co43 : Value).ownBlock ∧ some k_ ≠ (.slice Ao45 t680.length co45 : Value).ownBlock ∧ some k_ ≠ (.slice Ao51 t685.length co51 : Value).ownBlock ∧ some k_ ≠ (.slice Ao61 t692.length co61 : Value).ownBlock ∧ some k_ ≠ (.slice Ao67 t695.length co67 : Value).ownBlock ∧ some k_ ≠ (.slice Ao71 t699.length co71 : Value).ownBlock ∧ some k_ ≠ (.slice Ao78 t702.length co78 : Value).ownBlock ∧ some k_ ≠ (.slice Ao105 t708.length co105 : Value).ownBlock ∧ some k_ ≠ (.slice Ao106 t711.length co106 : Value).ownBlock ∧ some k_ ≠ (.slice Ao110 t715.length co110 : Value).ownBlock ∧ some k_ ≠ (.slice Ao111 t718.length co111 : Value).ownBlock) (Kd.R_keptB (HO_692001.out) hkp (fun k_ hk_ hs_ => Or.elim hs_ (fun e_ => (hk_.1.1.1.1.2.2.2.1) e_) (fun e_ => (hk_.1.1.1.1.2.2.2.2.1) e_))) (fun k_ hk_ => ⟨hk_.1.1.1.1.1.1, hk_.1.1.1.1.1.2.1, hk_.1.1.1.1.1.2.2.1, hk_.1.1.1.1.1.2.2.2.1, hk_.1.1.1.1.1.2.2.2.2.1, hk_.1.1.1.1.1.2.2.2.2.2.1, hk_.1.1.1.1.1.2.2.2.2.2.2, hk_.1.1.1.1.2, hk_.1.1.1.2, hk_.1.1.2, hk_.1.2⟩)); replace HO_707000 := Aside0.mk (Kd.R_mono (ok' := fun k_ => some k_ ≠ (.slice Ao43 t677.length co43 : Value).ownBlock ∧ some k_ ≠ (.slice Ao45 t680.length co45 : Value).ownBlock ∧ some k_ ≠ (.slice Ao51 t685.length co51 : Value).ownBlock ∧ some k_ ≠ (.slice Ao56 t688.length co56 : Value).ownBlock ∧ some k_ ≠ (.slice Ao61 t692.length co61 : Value).ownBlock ∧ some k_ ≠ (.slice Ao67 t695.length co67 : Value).ownBlock ∧ some k_ ≠ (.slice Ao78 t702.length co78 : Value).ownBlock ∧ some k_ ≠ (.slice Ao105 t708.length co105 : Value).ownBlock ∧ some k_ ≠ (.slice Ao106 t711.length co106 : Value).ownBlock ∧ some k_ ≠ (.slice Ao110 t715.length co110 : Value).ownBlock ∧ some k_ ≠ (.slice Ao111 t718.length co111 : Value).ownBlock) (Kd.R_keptB (HO_707000.out) hkp (fun k_ hk_ hs_ => Or.elim hs_ (fun e_ => (hk_.2.2.2.2.1) e_) (fun e_ => (hk_.2.2.2.2.2.1) e_))) (fun k_ hk_ => ⟨hk_.1.1, hk_.1.2.1, hk_.1.2.2.1, hk_.1.2.2.2.1, hk_.1.2.2.2.2.1, hk_.1.2.2.2.2.2.1, hk_.1.2.2.2.2.2.2.1, hk_.1.2.2.2.2.2.2.2.1, hk_.1.2.2.2.2.2.2.2.2.1, hk_.1.2.2.2.2.2.2.2.2.2.1, hk_.1.2.2.2.2.2.2.2.2.2.2⟩)); replace HO_707001 := Aside0.mk (Kd.R_mono (ok' := fun k_ => some k_ ≠ (.slice Ao43 t677.length co43 : Value).ownBlock ∧ some k_ ≠ (.slice Ao45 t680.length co45 : Value).ownBlock ∧ some k_ ≠ (.slice Ao51 t685.length co51 : Value).ownBlock ∧ some k_ ≠ (.slice Ao56 t688.length co56 : Value).ownBlock ∧ some k_ ≠ (.slice Ao61 t692.length co61 : Value).ownBlock ∧ some k_ ≠ (.slice Ao67 t695.length co67 : Value).ownBlock ∧ some k_ ≠ (.slice Ao71 t699.length co71 : Value).ownBlock ∧ some k_ ≠ (.slice Ao105 t708.length co105 : Value).ownBlock ∧ some k_ ≠ (.slice Ao106 t711.length co106 : Value).ownBlock ∧ some k_ ≠ (.slice Ao110 t715.length co110 : Value).ownBlock ∧ some k_ ≠ (.slice Ao111 t718.length co111 : Value).ownBlock) (Kd.R_keptB (HO_707001.out) hkp (fun k_ hk_ hs_ => Or.elim hs_ (fun e_ => (hk_.2.2.2.2.1) e_) (fun e_ => (hk_.2.2.2.2.2.1) e_))) (fun k_ hk_ => ⟨hk_.1.1, hk_.1.2.1, hk_.1.2.2.1, hk_.1.2.2.2.1, hk_.1.2.2.2.2.1, hk_.1.2.2.2.2.2.1, hk_.1.2.2.2.2.2.2.1, hk_.1.2.2.2.2.2.2.2.1, hk_.1.2.2.2.2.2.2.2.2.1, hk_.1.2.2.2.2.2.2.2.2.2.1, hk_.1.2.2.2.2.2.2.2.2.2.2⟩)); replace BK661 := Aside0.mk (blk_kept (kb_ BK661.out) hkp (fun hs_ => Or.elim hs_ (fun e_ => (fun e_ => (Kd.R_ne HO_699000.out BK661.out (by decide)) e_) e_) (fun e_ => (fun e_ => (Kd.R_ne HO_699001.out BK661.out (by decide)) e_) e_))); replace BK662 := Aside0.mk (blk_kept (kb_ BK662.out) hkp (fun hs_ => Or.elim hs_ (fun e_ => (fun e_ => (Kd.R_ne HO_699000.out BK662.out (by decide)) e_) e_) (fun e_ => (fun e_ => (Kd.R_ne HO_699001.out BK662.out (by decide)) e_) e_))); replace BK684 := Aside0.mk (blk_kept (kb_ BK684.out) hkp (fun hs_ => Or.elim hs_ (fun e_ => (fun e_ => (Kd.R_ne HO_699000.out BK684.out (by decide)) e_) e_) (fun e_ => (fun e_ => (Kd.R_ne HO_699001.out BK684.out (by decide)) e_) e_))); replace BK691 := Aside0.mk (blk_kept (kb_ BK691.out) hkp (fun hs_ => Or.elim hs_ (fun e_ => (fun e_ => (Kd.R_ne HO_699000.out BK691.out (by decide)) e_) e_) (fun e_ => (fun e_ => (Kd.R_ne HO_699001.out BK691.out (by decide)) e_) e_))); replace BK698 := Aside0.mk (blk_kept (kb_ BK698.out) hkp (fun hs_ => Or.elim hs_ (fun e_ => (fun e_ => (Kd.R_ne HO_699000.out BK698.out (by decide)) e_) e_) (fun e_ => (fun e_ => (Kd.R_ne HO_699001.out BK698.out (by decide)) e_) e_))); replace BK706 := Aside0.mk (blk_kept (kb_ BK706.out) hkp (fun hs_ => Or.elim hs_ (fun e_ => (fun e_ => (Kd.R_ne HO_699000.out BK706.out (by decide)) e_) e_) (fun e_ => (fun e_ => (Kd.R_ne HO_699001.out BK706.out (by decide)) e_) e_))); replace HO_699000 := Aside0.mk (Kd.R_reok rfl hy0 (fun k_ e_ => HO_699000.out.1 k_ e_)); replace HO_699001 := Aside0.mk (Kd.R_reok rfl hy1 (fun k_ e_ => HO_699001.out.1 k_ e_)); replace HO710 := Aside0.mk (Kd.R_mono (ok' := fun k_ => some k_ ≠ (.slice Ao43 t677.length co43 : Value).ownBlock ∧ some k_ ≠ (.slice Ao45 t680.length co45 : Value).ownBlock ∧ some k_ ≠ (.slice Ao51 t685.length co51 : Value).ownBlock ∧ some k_ ≠ (.slice Ao56 t688.length co56 : Value).ownBlock ∧ some k_ ≠ (.slice Ao61 t692.length co61 : Value).ownBlock ∧ some k_ ≠ (.slice Ao67 t695.length co67 : Value).ownBlock ∧ some k_ ≠ (.slice Ao71 t699.length co71 : Value).ownBlock ∧ some k_ ≠ (.slice Ao78 t702.length co78 : Value).ownBlock ∧ some k_ ≠ (.slice Ao106 t711.length co106 : Value).ownBlock ∧ some k_ ≠ (.slice Ao110 t715.length co110 : Value).ownBlock ∧ some k_ ≠ (.slice Ao111 t718.length co111 : Value).ownBlock) (Kd.R_keptB (HO710.out) hkp (fun k_ hk_ hs_ => Or.elim hs_ (fun e_ => (hk_.2.2.2.2.1) e_) (fun e_ => (hk_.2.2.2.2.2.1) e_))) (fun k_ hk_ => ⟨hk_.1.1, hk_.1.2.1, hk_.1.2.2.1, hk_.1.2.2.2.1, hk_.1.2.2.2.2.1, hk_.1.2.2.2.2.2.1, hk_.1.2.2.2.2.2.2.1, hk_.1.2.2.2.2.2.2.2.1, hk_.1.2.2.2.2.2.2.2.2.1, hk_.1.2.2.2.2.2.2.2.2.2.1, hk_.1.2.2.2.2.2.2.2.2.2.2⟩)); replace HO713 := Aside0.mk (Kd.R_mono (ok' := fun k_ => some k_ ≠ (.slice Ao43 t677.length co43 : Value).ownBlock ∧ some k_ ≠ (.slice Ao45 t680.length co45 : Value).ownBlock ∧ some k_ ≠ (.slice Ao51 t685.length co51 : Value).ownBlock ∧ some k_ ≠ (.slice Ao56 t688.length co56 : Value).ownBlock ∧ some k_ ≠ (.slice Ao61 t692.length co61 : Value).ownBlock ∧ some k_ ≠ (.slice Ao67 t695.length co67 : Value).ownBlock ∧ some k_ ≠ (.slice Ao71 t699.length co71 : Value).ownBlock ∧ some k_ ≠ (.slice Ao78 t702.length co78 : Value).ownBlock ∧ some k_ ≠ (.slice Ao105 t708.length co105 : Value).ownBlock ∧ some k_ ≠ (.slice Ao110 t715.length co110 : Value).ownBlock ∧ some k_ ≠ (.slice Ao111 t718.length co111 : Value).ownBlock) (Kd.R_keptB (HO713.out) hkp (fun k_ hk_ hs_ => Or.elim hs_ (fun e_ => (hk_.2.2.2.2.1) e_) (fun e_ => (hk_.2.2.2.2.2.1) e_))) (fun k_ hk_ => ⟨hk_.1.1, hk_.1.2.1, hk_.1.2.2.1, hk_.1.2.2.2.1, hk_.1.2.2.2.2.1, hk_.1.2.2.2.2.2.1, hk_.1.2.2.2.2.2.2.1, hk_.1.2.2.2.2.2.2.2.1, hk_.1.2.2.2.2.2.2.2.2.1, hk_.1.2.2.2.2.2.2.2.2.2.1, hk_.1.2.2.2.2.2.2.2.2.2.2⟩)); replace HO717 := Aside0.mk (Kd.R_mono (ok' := fun k_ => some k_ ≠ (.slice Ao43 t677.length co43 : Value).ownBlock ∧ some k_ ≠ (.slice Ao45 t680.length co45 : Value).ownBlock ∧ some k_ ≠ (.slice Ao51 t685.length co51 : Value).ownBlock ∧ some k_ ≠ (.slice Ao56 t688.length co56 : Value).ownBlock ∧ some k_ ≠ (.slice Ao61 t692.length co61 : Value).ownBlock ∧ some k_ ≠ (.slice Ao67 t695.length co67 : Value).ownBlock ∧ some k_ ≠ (.slice Ao71 t699.length co71 : Value).ownBlock ∧ some k_ ≠ (.slice Ao78 t702.length co78 : Value).ownBlock ∧ some k_ ≠ (.slice Ao105 t708.length co105 : Value).ownBlock ∧ some k_ ≠ (.slice Ao106 t711.length co106 : Value).ownBlock ∧ some k_ ≠ (.slice Ao111 t718.length co111 : Value).ownBlock) (Kd.R_keptB (HO717.out) hkp (fun k_ hk_ hs_ => Or.elim hs_ (fun e_ => (hk_.2.2.2.2.1) e_) (fun e_ => (hk_.2.2.2.2.2.1) e_))) (fun k_ hk_ => ⟨hk_.1.1, hk_.1.2.1, hk_.1.2.2.1, hk_.1.2.2.2.1, hk_.1.2.2.2.2.1, hk_.1.2.2.2.2.2.1, hk_.1.2.2.2.2.2.2.1, hk_.1.2.2.2.2.2.2.2.1, hk_.1.2.2.2.2.2.2.2.2.1, hk_.1.2.2.2.2.2.2.2.2.2.1, hk_.1.2.2.2.2.2.2.2.2.2.2⟩)); replace HO720 := Aside0.mk (Kd.R_mono (ok' := fun k_ => some k_ ≠ (.slice Ao43 t677.length co43 : Value).ownBlock ∧ some k_ ≠ (.slice Ao45 t680.length co45 : Value).ownBlock ∧ some k_ ≠ (.slice Ao51 t685.length co51 : Value).ownBlock ∧ some k_ ≠ (.slice Ao56 t688.length co56 : Value).ownBlock ∧ some k_ ≠ (.slice Ao61 t692.length co61 : Value).ownBlock ∧ some k_ ≠ (.slice Ao67 t695.length co67 : Value).ownBlock ∧ some k_ ≠ (.slice Ao71 t699.length co71 : Value).ownBlock ∧ some k_ ≠ (.slice Ao78 t702.length co78 : Value).ownBlock ∧ some k_ ≠ (.slice Ao105 t708.length co105 : Value).ownBlock ∧ some k_ ≠ (.slice Ao106 t711.length co106 : Value).ownBlock ∧ some k_ ≠ (.slice Ao110 t715.length co110 : Value).ownBlock) (Kd.R_keptB (HO720.out) hkp (fun k_ hk_ hs_ => Or.elim hs_ (fun e_ => (hk_.2.2.2.2.1) e_) (fun e_ => (hk_.2.2.2.2.2.1) e_))) (fun k_ hk_ => ⟨hk_.1.1, hk_.1.2.1, hk_.1.2.2.1, hk_.1.2.2.2.1, hk_.1.2.2.2.2.1, hk_.1.2.2.2.2.2.1, hk_.1.2.2.2.2.2.2.1, hk_.1.2.2.2.2.2.2.2.1, hk_.1.2.2.2.2.2.2.2.2.1, hk_.1.2.2.2.2.2.2.2.2.2.1, hk_.1.2.2.2.2.2.2.2.2.2.2⟩)); replace HB := Aside0.mk (hb); clear hb))
 (try simp only [Act.put, List.setIfInBounds_toArray, List.set_cons_zero, List.set_cons_succ])
 go_cut [82] (fun v82 wc => ∃ (kq : Nat) (x82_101 : Bool), v82 = .bool x82_101 ∧ Aside0 (laws_FnExactMergeBag.j1 kq t683 x82_101 l0_0 l0_1 l1_0 l1_1 t677 t680 t699 t702 = some r) ∧ Aside0 (kq ≤ kj24) ∧ Aside0 (Kd.R k48 48 wc w.heap.size (fun k_ => some k_ ≠ ((.slice Ao45 t680.length co45) : Value).ownBlock ∧ some k_ ≠ ((.slice Ao51 t685.length co51) : Value).ownBlock ∧ some k_ ≠ ((.slice Ao56 t688.length co56) : Value).ownBlock ∧ some k_ ≠ ((.slice Ao61 t692.length co61) : Value).ownBlock ∧ some k_ ≠ ((.slice Ao67 t695.length co67) : Value).ownBlock ∧ some k_ ≠ ((.slice Ao71 t699.length co71) : Value).ownBlock ∧ some k_ ≠ ((.slice Ao78 t702.length co78) : Value).ownBlock) (.slice Ao43 t677.length co43) t677) ∧ Aside0 (Kd.R k48 48 wc w.heap.size (fun k_ => some k_ ≠ ((.slice Ao43 t677.length co43) : Value).ownBlock ∧ some k_ ≠ ((.slice Ao51 t685.length co51) : Value).ownBlock ∧ some k_ ≠ ((.slice Ao56 t688.length co56) : Value).ownBlock ∧ some k_ ≠ ((.slice Ao61 t692.length co61) : Value).ownBlock ∧ some k_ ≠ ((.slice Ao67 t695.length co67) : Value).ownBlock ∧ some k_ ≠ ((.slice Ao71 t699.length co71) : Value).ownBlock ∧ some k_ ≠ ((.slice Ao78 t702.length co78) : Value).ownBlock) (.slice Ao45 t680.length co45) t680) ∧ Aside0 (Kd.R k48 48 wc w.heap.size (fun k_ => some k_ ≠ ((.slice Ao43 t677.length co43) : Value).ownBlock ∧ some k_ ≠ ((.slice Ao45 t680.length co45) : Value).ownBlock ∧ some k_ ≠ ((.slice Ao56 t688.length co56) : Value).ownBlock ∧ some k_ ≠ ((.slice Ao61 t692.length co61) : Value).ownBlock ∧ some k_ ≠ ((.slice Ao67 t695.length co67) : Value).ownBlock ∧ some k_ ≠ ((.slice Ao71 t699.length co71) : Value).ownBlock ∧ some k_ ≠ ((.slice Ao78 t702.length co78) : Value).ownBlock) (.slice Ao51 t685.length co51) t723) ∧ Aside0 (Kd.R k48 48 wc w.heap.size (fun k_ => some k_ ≠ ((.slice Ao43 t677.length co43) : Value).ownBlock ∧ some k_ ≠ ((.slice Ao45 t680.length co45) : Value).ownBlock ∧ some k_ ≠ ((.slice Ao51 t685.length co51) : Value).ownBlock ∧ some k_ ≠ ((.slice Ao61 t692.length co61) : Value).ownBlock ∧ some k_ ≠ ((.slice Ao67 t695.length co67) : Value).ownBlock ∧ some k_ ≠ ((.slice Ao71 t699.length co71) : Value).ownBlock ∧ some k_ ≠ ((.slice Ao78 t702.length co78) : Value).ownBlock) (.slice Ao56 t688.length co56) t724) ∧ Aside0 (Kd.R k48 48 wc w.heap.size (fun k_ => some k_ ≠ ((.slice Ao43 t677.length co43) : Value).ownBlock ∧ some k_ ≠ ((.slice Ao45 t680.length co45) : Value).ownBlock ∧ some k_ ≠ ((.slice Ao51 t685.length co51) : Value).ownBlock ∧ some k_ ≠ ((.slice Ao56 t688.length co56) : Value).ownBlock ∧ some k_ ≠ ((.slice Ao67 t695.length co67) : Value).ownBlock ∧ some k_ ≠ ((.slice Ao71 t699.length co71) : Value).ownBlock ∧ some k_ ≠ ((.slice Ao78 t702.length co78) : Value).ownBlock) (.slice Ao61 t692.length co61) t726) ∧ Aside0 (Kd.R k48 48 wc w.heap.size (fun k_ => some k_ ≠ ((.slice Ao43 t677.length co43) : Value).ownBlock ∧ some k_ ≠ ((.slice Ao45 t680.length co45) : Value).ownBlock ∧ some k_ ≠ ((.slice Ao51 t685.length co51) : Value).ownBlock ∧ some k_ ≠ ((.slice Ao56 t688.length co56) : Value).ownBlock ∧ some k_ ≠ ((.slice Ao61 t692.length co61) : Value).ownBlock ∧ some k_ ≠ ((.slice Ao71 t699.length co71) : Value).ownBlock ∧ some k_ ≠ ((.slice Ao78 t702.length co78) : Value).ownBlock) (.slice Ao67 t695.length co67) t727) ∧ Aside0 (Kd.R k48 48 wc w.heap.size (fun k_ => some k_ ≠ ((.slice Ao43 t677.length co43) : Value).ownBlock ∧ some k_ ≠ ((.slice Ao45 t680.length co45) : Value).ownBlock ∧ some k_ ≠ ((.slice Ao51 t685.length co51) : Value).ownBlock ∧ some k_ ≠ ((.slice Ao56 t688.length co56) : Value).ownBlock ∧ some k_ ≠ ((.slice Ao61 t692.length co61) : Value).ownBlock ∧ some k_ ≠ ((.slice Ao67 t695.length co67) : Value).ownBlock ∧ some k_ ≠ ((.slice Ao78 t702.length co78) : Value).ownBlock) (.slice Ao71 t699.length co71) t699) ∧ Aside0 (Kd.R k48 48 wc w.heap.size (fun k_ => some k_ ≠ ((.slice Ao43 t677.length co43) : Value).ownBlock ∧ some k_ ≠ ((.slice Ao45 t680.length co45) : Value).ownBlock ∧ some k_ ≠ ((.slice Ao51 t685.length co51) : Value).ownBlock ∧ some k_ ≠ ((.slice Ao56 t688.length co56) : Value).ownBlock ∧ some k_ ≠ ((.slice Ao61 t692.length co61) : Value).ownBlock ∧ some k_ ≠ ((.slice Ao67 t695.length co67) : Value).ownBlock ∧ some k_ ≠ ((.slice Ao71 t699.length co71) : Value).ownBlock) (.slice Ao78 t702.length co78) t702) ∧ Aside0 (wc.heap[gb661]? = some (.cells #[(.slice A0_0 l0_0.length c0_0), (.slice A0_1 l0_1.length c0_1)] 24 (0, 0))) ∧ Aside0 (wc.heap[gb662]? = some (.cells #[(.slice A1_0 l1_0.length c1_0), (.slice A1_1 l1_1.length c1_1)] 24 (0, 0))) ∧ Aside0 (wc.heap[gb684]? = some (.cells #[(.slice Ao43 t677.length co43), (.slice Ao45 t680.length co45)] 29 (0, 0))) ∧ Aside0 (wc.heap[gb691]? = some (.cells #[(.slice Ao51 t685.length co51), (.slice Ao56 t688.length co56)] 29 (0, 0))) ∧ Aside0 (wc.heap[gb698]? = some (.cells #[(.slice Ao61 t692.length co61), (.slice Ao67 t695.length co67)] 29 (0, 0))) ∧ Aside0 (wc.heap[gb706]? = some (.cells #[(.slice Ao71 t699.length co71), (.slice Ao78 t702.length co78)] 29 (0, 0))) ∧ Aside0 (Below w.heap.size w wc))
 case first =>
  have H := HC102.out
  clear HC102
  by_cases c126 : t725 < 0
  ·rw [if_pos c126] at H
   exact absurd H (by simp)
  rw [if_neg c126] at H
  have c126b0 : decide (t725 < 0) = false := decide_eq_false c126
  clear c126
  (first | rw [c126b0] | (simp only [i64_w, i32_w]; rw [c126b0]) | skip)
  replace H := Option.bind_eq_some_iff.mp H
  obtain ⟨t728, A1270, H⟩ := H
  replace H : (if t728 = true then (laws_FnExactMergeBag.j1 kj24 t683 (t705 != t683) l0_0 l0_1 l1_0 l1_1 t677 t680 t699 t702) else (none)) = some r := H
  have A127 := Aside0.mk A1270
  clear A1270
  by_cases c128 : t728 = true
  rotate_left
  ·replace c128 := Bool.eq_false_iff.mpr c128
   subst c128
   have H1 : (none) = some r := by rw [if_neg (show ¬ (false = true) by decide)] at H; exact H
   clear H
   have H := H1
   clear H1
   exact absurd H (by simp)
  subst c128
  have H1 : (laws_FnExactMergeBag.j1 kj24 t683 (t705 != t683) l0_0 l0_1 l1_0 l1_1 t677 t680 t699 t702) = some r := by rw [if_pos rfl] at H; exact H
  clear H
  have H := H1
  clear H1
  have H' := Aside0.mk H
  clear H
  have hnb129 := NB706_661.out
  have hnc129 := NB661_706.out
  have hnb130 := NB706_662.out
  have hnc130 := NB662_706.out
  have hnb131 := NB706_684.out
  have hnc131 := NB684_706.out
  have hnb132 := NB706_691.out
  have hnc132 := NB691_706.out
  have hnb133 := NB706_698.out
  have hnc133 := NB698_706.out
  have hcz134_0 : w125.cell? ⟨gb706, 0, none⟩ = some (.slice Ao71 t699.length co71) := bc_ BK706.out 0
  have hcz134_1 : w125.cell? ⟨gb706, 1, none⟩ = some (.slice Ao78 t702.length co78) := bc_ BK706.out 1
  have hfz134_0 := blk_frozen BK706.out 0
  have hfz134_1 := blk_frozen BK706.out 1
  have hnb135 := NB684_661.out
  have hnc135 := NB661_684.out
  have hnb136 := NB684_662.out
  have hnc136 := NB662_684.out
  have hnb137 := NB684_691.out
  have hnc137 := NB691_684.out
  have hnb138 := NB684_698.out
  have hnc138 := NB698_684.out
  have hcz139_0 : w125.cell? ⟨gb684, 0, none⟩ = some (.slice Ao43 t677.length co43) := bc_ BK684.out 0
  have hcz139_1 : w125.cell? ⟨gb684, 1, none⟩ = some (.slice Ao45 t680.length co45) := bc_ BK684.out 1
  have hfz139_0 := blk_frozen BK684.out 0
  have hfz139_1 := blk_frozen BK684.out 1
  go_wp2_with (first | (go_at_call 12; (with_reducible refine (laws_eqBag.calls kj24 _ _ t699 _ _ t702 _ _ t677 _ _ t680 true _ ?side1 ?side2 ?side3 ?side4 ?side5 ?side6 ?side7 ?side8 A127.out).mono ?_); (case side1 => exact kc_ (Kd.R_reads' HO_707000.out).2.2); (case side2 => exact (Kd.R_reads' HO_707000.out).2.1); (case side3 => exact kc_ (Kd.R_reads' HO_707001.out).2.2); (case side4 => exact (Kd.R_reads' HO_707001.out).2.1); (case side5 => exact kc_ (Kd.R_reads' HO_685000.out).2.2); (case side6 => exact (Kd.R_reads' HO_685000.out).2.1); (case side7 => exact kc_ (Kd.R_reads' HO_685001.out).2.2); (case side8 => exact (Kd.R_reads' HO_685001.out).2.1); rintro e w140 ⟨rfl, hb⟩; replace HO_685000 := rb_ HO_685000 hb; replace HO_685001 := rb_ HO_685001 hb; replace HO_692000 := rb_ HO_692000 hb; replace HO_692001 := rb_ HO_692001 hb; replace HO_699000 := rb_ HO_699000 hb; replace HO_699001 := rb_ HO_699001 hb; replace HO_707000 := rb_ HO_707000 hb; replace HO_707001 := rb_ HO_707001 hb; replace HO710 := rb_ HO710 hb; replace HO713 := rb_ HO713 hb; replace HO717 := rb_ HO717 hb; replace HO720 := rb_ HO720 hb; replace BK661 := bb_ BK661 hb; replace BK662 := bb_ BK662 hb; replace BK684 := bb_ BK684 hb; replace BK691 := bb_ BK691 hb; replace BK698 := bb_ BK698 hb; replace BK706 := bb_ BK706 hb; replace HB := Aside0.mk (below_step bl_ hb); clear hb))
  go_meet
  case rel => exact ⟨_, ((t705 != t683)), (by first | rfl | (simp; done) | (simp [*]; done)), H', ⟨by have := HJ24.out; first | omega | exact Nat.le_refl _⟩, ⟨kp_ HO_685000.out⟩, ⟨kp_ HO_685001.out⟩, ⟨kp_ HO_692000.out⟩, ⟨kp_ HO_692001.out⟩, ⟨kp_ HO_699000.out⟩, ⟨kp_ HO_699001.out⟩, ⟨kp_ HO_707000.out⟩, ⟨kp_ HO_707001.out⟩, ⟨by exact kb_ BK661.out⟩, ⟨by exact kb_ BK662.out⟩, ⟨by exact kb_ BK684.out⟩, ⟨by exact kb_ BK691.out⟩, ⟨by exact kb_ BK698.out⟩, ⟨by exact kb_ BK706.out⟩, ⟨bl_⟩⟩
 clear HC102
 try clear c1
 try clear p2
 try clear c9
 try clear c10
 try clear c11
 try clear c12
 try clear c13
 try clear c15
 try clear c93
 try clear c96
 try clear c99
 try clear c113
 try clear c114
 try clear c115
 try clear c116
 try clear c117
 try clear c120
 try clear c121
 try clear c122
 try clear c123
 try clear c126
 try clear c126b0
 try clear c128
 try clear c129
 try clear c130
 try clear c131
 try clear c132
 try clear c133
 try clear c135
 try clear c136
 try clear c137
 try clear c138
 try clear hcz118_0
 try clear hcz118_1
 try clear hcz124_0
 try clear hcz124_1
 try clear hcz134_0
 try clear hcz134_1
 try clear hcz139_0
 try clear hcz139_1
 try clear hfz118_0
 try clear hfz118_1
 try clear hfz124_0
 try clear hfz124_1
 try clear hfz134_0
 try clear hfz134_1
 try clear hfz139_0
 try clear hfz139_1
 obtain ⟨kq, x82_101, rfl, HA, HJ101, HO_685000, HO_685001, HO_692000, HO_692001, HO_699000, HO_699001, HO_707000, HO_707001, BK661, BK662, BK684, BK691, BK698, BK706, HB⟩ := hcut
 have hl692000_101 := (Kd.R_reads' HO_692000.out).1
 rw [hl692000_101] at HO_692000
 (try simp only [hl692000_101])
 (try simp only [hl692000_101] at BK661)
 (try simp only [hl692000_101] at BK662)
 (try simp only [hl692000_101] at BK684)
 (try simp only [hl692000_101] at BK691)
 (try simp only [hl692000_101] at BK698)
 (try simp only [hl692000_101] at BK706)
 (try simp only [hl692000_101] at HO_685000)
 (try simp only [hl692000_101] at HO_685001)
 (try simp only [hl692000_101] at HO_692001)
 (try simp only [hl692000_101] at HO_699000)
 (try simp only [hl692000_101] at HO_699001)
 (try simp only [hl692000_101] at HO_707000)
 (try simp only [hl692000_101] at HO_707001)
 have hl692001_101 := (Kd.R_reads' HO_692001.out).1
 rw [hl692001_101] at HO_692001
 (try simp only [hl692001_101])
 (try simp only [hl692001_101] at BK661)
 (try simp only [hl692001_101] at BK662)
 (try simp only [hl692001_101] at BK684)
 (try simp only [hl692001_101] at BK691)
 (try simp only [hl692001_101] at BK698)
 (try simp only [hl692001_101] at BK706)
 (try simp only [hl692001_101] at HO_685000)
 (try simp only [hl692001_101] at HO_685001)
 (try simp only [hl692001_101] at HO_692000)
 (try simp only [hl692001_101] at HO_699000)
 (try simp only [hl692001_101] at HO_699001)
 (try simp only [hl692001_101] at HO_707000)
 (try simp only [hl692001_101] at HO_707001)
 have hl699000_101 := (Kd.R_reads' HO_699000.out).1
 rw [hl699000_101] at HO_699000
 (try simp only [hl699000_101])
 (try simp only [hl699000_101] at BK661)
 (try simp only [hl699000_101] at BK662)
 (try simp only [hl699000_101] at BK684)
 (try simp only [hl699000_101] at BK691)
 (try simp only [hl699000_101] at BK698)
 (try simp only [hl699000_101] at BK706)
 (try simp only [hl699000_101] at HO_685000)
 (try simp only [hl699000_101] at HO_685001)
 (try simp only [hl699000_101] at HO_692000)
 (try simp only [hl699000_101] at HO_692001)
 (try simp only [hl699000_101] at HO_699001)
 (try simp only [hl699000_101] at HO_707000)
 (try simp only [hl699000_101] at HO_707001)
 have hl699001_101 := (Kd.R_reads' HO_699001.out).1
 rw [hl699001_101] at HO_699001
 (try simp only [hl699001_101])
 (try simp only [hl699001_101] at BK661)
 (try simp only [hl699001_101] at BK662)
 (try simp only [hl699001_101] at BK684)
 (try simp only [hl699001_101] at BK691)
 (try simp only [hl699001_101] at BK698)
 (try simp only [hl699001_101] at BK706)
 (try simp only [hl699001_101] at HO_685000)
 (try simp only [hl699001_101] at HO_685001)
 (try simp only [hl699001_101] at HO_692000)
 (try simp only [hl699001_101] at HO_692001)
 (try simp only [hl699001_101] at HO_699000)
 (try simp only [hl699001_101] at HO_707000)
 (try simp only [hl699001_101] at HO_707001)
 cases kq with
 | zero => exact absurd HA.out (by simp [laws_FnExactMergeBag.j1])
 | succ kj101 => ?_
 have H := HA.out
 clear HA
 simp only [laws_FnExactMergeBag.j1] at H
 by_cases c141 : x82_101 = true
 ·subst c141
  have H1 : (none) = some r := by rw [if_pos rfl] at H; exact H
  clear H
  have H := H1
  clear H1
  exact absurd H (by simp)
 replace c141 := Bool.eq_false_iff.mpr c141
 subst c141
 have H1 : ((laws_markBag.f kj101 t699 t702 1).bind fun bt729 => ((laws_heldBag.f kj101 bt729.2.1 bt729.2.2 1).bind fun t732 => (if t732 < 0 then (none) else (if t732 = bt729.1 then ((laws_toBag.f kj101 l0_0 l0_1).bind fun bt733 => ((laws_toBag.f kj101 l1_0 l1_1).bind fun bt739 => ((impl_MergeBag.f kj101 bt733.1 bt733.2 bt739.1 bt739.2).bind fun bt745 => ((laws_eqBag.f kj101 bt745.1 bt745.2.1 t677 t680).bind fun t753 => (if t753 = true then (laws_FnExactMergeBag.j2 kj101 bt729.1 (bt745.2.2 != t683) bt729.2.1 bt729.2.2) else (none)))))) else (none))))) = some r := by rw [if_neg (show ¬ (false = true) by decide)] at H; exact H
 clear H
 have H := H1
 clear H1
 replace H := Option.bind_eq_some_iff.mp H
 obtain ⟨⟨t729, t730, t731⟩, A1420, H⟩ := H
 replace H : ((laws_heldBag.f kj101 t730 t731 1).bind fun t732 => (if t732 < 0 then (none) else (if t732 = t729 then ((laws_toBag.f kj101 l0_0 l0_1).bind fun bt733 => ((laws_toBag.f kj101 l1_0 l1_1).bind fun bt739 => ((impl_MergeBag.f kj101 bt733.1 bt733.2 bt739.1 bt739.2).bind fun bt745 => ((laws_eqBag.f kj101 bt745.1 bt745.2.1 t677 t680).bind fun t753 => (if t753 = true then (laws_FnExactMergeBag.j2 kj101 t729 (bt745.2.2 != t683) t730 t731) else (none)))))) else (none)))) = some r := H
 have A142 := Aside0.mk A1420
 clear A1420
 replace H := Option.bind_eq_some_iff.mp H
 obtain ⟨t732, A1430, H⟩ := H
 replace H : (if t732 < 0 then (none) else (if t732 = t729 then ((laws_toBag.f kj101 l0_0 l0_1).bind fun bt733 => ((laws_toBag.f kj101 l1_0 l1_1).bind fun bt739 => ((impl_MergeBag.f kj101 bt733.1 bt733.2 bt739.1 bt739.2).bind fun bt745 => ((laws_eqBag.f kj101 bt745.1 bt745.2.1 t677 t680).bind fun t753 => (if t753 = true then (laws_FnExactMergeBag.j2 kj101 t729 (bt745.2.2 != t683) t730 t731) else (none)))))) else (none))) = some r := H
 have A143 := Aside0.mk A1430
 clear A1430
 by_cases c144 : t732 < 0
 ·rw [if_pos c144] at H
  exact absurd H (by simp)
 rw [if_neg c144] at H
 have c144b0 : decide (t732 < 0) = false := decide_eq_false c144
 clear c144
 by_cases c145 : t732 = t729
 rotate_left
 ·rw [if_neg c145] at H
  exact absurd H (by simp)
 rw [if_pos c145] at H
 have c145b0 : (t732 == t729) = true := beq_iff_eq.mpr c145
 have c145b1 : (t732 != t729) = false := bne_eq_false_iff_eq.mpr c145
 clear c145
 replace H := Option.bind_eq_some_iff.mp H
 obtain ⟨⟨t733, t736⟩, A1460, H⟩ := H
 replace H : ((laws_toBag.f kj101 l1_0 l1_1).bind fun bt739 => ((impl_MergeBag.f kj101 t733 t736 bt739.1 bt739.2).bind fun bt745 => ((laws_eqBag.f kj101 bt745.1 bt745.2.1 t677 t680).bind fun t753 => (if t753 = true then (laws_FnExactMergeBag.j2 kj101 t729 (bt745.2.2 != t683) t730 t731) else (none))))) = some r := H
 have A146 := Aside0.mk A1460
 clear A1460
 replace H := Option.bind_eq_some_iff.mp H
 obtain ⟨⟨t739, t742⟩, A1470, H⟩ := H
 replace H : ((impl_MergeBag.f kj101 t733 t736 t739 t742).bind fun bt745 => ((laws_eqBag.f kj101 bt745.1 bt745.2.1 t677 t680).bind fun t753 => (if t753 = true then (laws_FnExactMergeBag.j2 kj101 t729 (bt745.2.2 != t683) t730 t731) else (none)))) = some r := H
 have A147 := Aside0.mk A1470
 clear A1470
 replace H := Option.bind_eq_some_iff.mp H
 obtain ⟨⟨t745, t748, t751⟩, A1480, H⟩ := H
 replace H : ((laws_eqBag.f kj101 t745 t748 t677 t680).bind fun t753 => (if t753 = true then (laws_FnExactMergeBag.j2 kj101 t729 (t751 != t683) t730 t731) else (none))) = some r := H
 have A148 := Aside0.mk A1480
 clear A1480
 have HC149 := Aside0.mk H
 clear H
 have hnb150 := NB706_661.out
 have hnc150 := NB661_706.out
 have hnb151 := NB706_662.out
 have hnc151 := NB662_706.out
 have hnb152 := NB706_684.out
 have hnc152 := NB684_706.out
 have hnb153 := NB706_691.out
 have hnc153 := NB691_706.out
 have hnb154 := NB706_698.out
 have hnc154 := NB698_706.out
 have hcz155_0 : wc.cell? ⟨gb706, 0, none⟩ = some (.slice Ao71 t699.length co71) := bc_ BK706.out 0
 have hcz155_1 : wc.cell? ⟨gb706, 1, none⟩ = some (.slice Ao78 t702.length co78) := bc_ BK706.out 1
 have hfz155_0 := blk_frozen BK706.out 0
 have hfz155_1 := blk_frozen BK706.out 1
 try go_wp2_with (first | ((with_reducible refine gate_callee (f := 15) rfl ?_); refine goesL_ (some 85) rfl rfl Try.func15 (by kernel_rfl) rfl #[.agg #[.slice Ao71 t699.length co71, .slice Ao78 t702.length co78], .int .i64 1] rfl nc_ ?_; (with_reducible refine (laws_markBag.calls kj101 (fun k_ => some k_ = (.slice Ao71 t699.length co71 : Value).ownBlock) (.slice Ao71 t699.length co71) t699 (fun k_ => some k_ = (.slice Ao78 t702.length co78 : Value).ownBlock) (.slice Ao78 t702.length co78) t702 1 t729 t730 t731 w _ ?side1 ?side2 ?side3 ?side4 ?side5 A142.out).mono ?_); (case side1 => repeat (first | (with_reducible first | exact HB.out | apply below_alloc | apply pw_below_drewN | apply below_drew1 | refine below_set ?_ GE661.out | refine below_set ?_ GE662.out | refine below_set ?_ GE684.out | refine below_set ?_ GE691.out | refine below_set ?_ GE698.out | refine below_set ?_ GE706.out) | exact HB.out)); (case side2 => exact Kd.R_tight rfl HO_707000.out); (case side3 => exact fun k_ e_ => (HO_707000.out.1 k_ e_.symm).2.2.2.2.2.2); (case side4 => exact Kd.R_tight rfl HO_707001.out); (case side5 => exact fun k_ e_ => (HO_707001.out.1 k_ e_.symm).2.2.2.2.2.2); rintro e w156 ⟨rfl, hy0, hy1, hb, hkp⟩; refine ⟨_, rfl, ?_⟩; replace HO_685000 := Aside0.mk (Kd.R_mono (ok' := fun k_ => some k_ ≠ (.slice Ao45 t680.length co45 : Value).ownBlock ∧ some k_ ≠ (.slice Ao51 t723.length co51 : Value).ownBlock ∧ some k_ ≠ (.slice Ao56 t724.length co56 : Value).ownBlock ∧ some k_ ≠ (.slice Ao61 t726.length co61 : Value).ownBlock ∧ some k_ ≠ (.slice Ao67 t727.length co67 : Value).ownBlock ∧ some k_ ≠ (.slice Ao71 t699.length co71 : Value).ownBlock ∧ some k_ ≠ (.slice Ao78 t702.length co78 : Value).ownBlock) (Kd.R_keptB (HO_685000.out) hkp (fun k_ hk_ hs_ => Or.elim hs_ (fun e_ => (hk_.2.2.2.2.2.1) e_) (fun e_ => (hk_.2.2.2.2.2.2) e_))) (fun k_ hk_ => ⟨hk_.1.1, hk_.1.2.1, hk_.1.2.2.1, hk_.1.2.2.2.1, hk_.1.2.2.2.2.1, hk_.1.2.2.2.2.2.1, hk_.1.2.2.2.2.2.2⟩)); replace HO_685001 := Aside0.mk (Kd.R_mono (ok' := fun k_ => some k_ ≠ (.slice Ao43 t677.length co43 : Value).ownBlock ∧ some k_ ≠ (.slice Ao51 t723.length co51 : Value).ownBlock ∧ some k_ ≠ (.slice Ao56 t724.length co56 : Value).ownBlock ∧ some k_ ≠ (.slice Ao61 t726.length co61 : Value).ownBlock ∧ some k_ ≠ (.slice Ao67 t727.length co67 : Value).ownBlock ∧ some k_ ≠ (.slice Ao71 t699.length co71 : Value).ownBlock ∧ some k_ ≠ (.slice Ao78 t702.length co78 : Value).ownBlock) (Kd.R_keptB (HO_685001.out) hkp (fun k_ hk_ hs_ => Or.elim hs_ (fun e_ => (hk_.2.2.2.2.2.1) e_) (fun e_ => (hk_.2.2.2.2.2.2) e_))) (fun k_ hk_ => ⟨hk_.1.1, hk_.1.2.1, hk_.1.2.2.1, hk_.1.2.2.2.1, hk_.1.2.2.2.2.1, hk_.1.2.2.2.2.2.1, hk_.1.2.2.2.2.2.2⟩)); replace HO_692000 := Aside0.mk (Kd.R_mono (ok' := fun k_ => some k_ ≠ (.slice Ao43 t677.length co43 : Value).ownBlock ∧ some k_ ≠ (.slice Ao45 t680.length co45 : Value).ownBlock ∧ some k_ ≠ (.slice Ao56 t724.length co56 : Value).ownBlock ∧ some k_ ≠ (.slice Ao61 t726.length co61 : Value).ownBlock ∧ some k_ ≠ (.slice Ao67 t727.length co67 : Value).ownBlock ∧ some k_ ≠ (.slice Ao71 t699.length co71 : Value).ownBlock ∧ some k_ ≠ (.slice Ao78 t702.length co78 : Value).ownBlock) (Kd.R_keptB (HO_692000.out) hkp (fun k_ hk_ hs_ => Or.elim hs_ (fun e_ => (hk_.2.2.2.2.2.1) e_) (fun e_ => (hk_.2.2.2.2.2.2) e_))) (fun k_ hk_ => ⟨hk_.1.1, hk_.1.2.1, hk_.1.2.2.1, hk_.1.2.2.2.1, hk_.1.2.2.2.2.1, hk_.1.2.2.2.2.2.1, hk_.1.2.2.2.2.2.2⟩)); replace HO_692001 := Aside0.mk (Kd.R_mono (ok' := fun k_ => some k_ ≠ (.slice Ao43 t677.length co43 : Value).ownBlock ∧ some k_ ≠ (.slice Ao45 t680.length co45 : Value).ownBlock ∧ some k_ ≠ (.slice Ao51 t723.length co51 : Value).ownBlock ∧ some k_ ≠ (.slice Ao61 t726.length co61 : Value).ownBlock ∧ some k_ ≠ (.slice Ao67 t727.length co67 : Value).ownBlock ∧ some k_ ≠ (.slice Ao71 t699.length co71 : Value).ownBlock ∧ some k_ ≠ (.slice Ao78 t702.length co78 : Value).ownBlock) (Kd.R_keptB (HO_692001.out) hkp (fun k_ hk_ hs_ => Or.elim hs_ (fun e_ => (hk_.2.2.2.2.2.1) e_) (fun e_ => (hk_.2.2.2.2.2.2) e_))) (fun k_ hk_ => ⟨hk_.1.1, hk_.1.2.1, hk_.1.2.2.1, hk_.1.2.2.2.1, hk_.1.2.2.2.2.1, hk_.1.2.2.2.2.2.1, hk_.1.2.2.2.2.2.2⟩)); replace HO_699000 := Aside0.mk (Kd.R_mono (ok' := fun k_ => some k_ ≠ (.slice Ao43 t677.length co43 : Value).ownBlock ∧ some k_ ≠ (.slice Ao45 t680.length co45 : Value).ownBlock ∧ some k_ ≠ (.slice Ao51 t723.length co51 : Value).ownBlock ∧ some k_ ≠ (.slice Ao56 t724.length co56 : Value).ownBlock ∧ some k_ ≠ (.slice Ao67 t727.length co67 : Value).ownBlock ∧ some k_ ≠ (.slice Ao71 t699.length co71 : Value).ownBlock ∧ some k_ ≠ (.slice Ao78 t702.length co78 : Value).ownBlock) (Kd.R_keptB (HO_699000.out) hkp (fun k_ hk_ hs_ => Or.elim hs_ (fun e_ => (hk_.2.2.2.2.2.1) e_) (fun e_ => (hk_.2.2.2.2.2.2) e_))) (fun k_ hk_ => ⟨hk_.1.1, hk_.1.2.1, hk_.1.2.2.1, hk_.1.2.2.2.1, hk_.1.2.2.2.2.1, hk_.1.2.2.2.2.2.1, hk_.1.2.2.2.2.2.2⟩)); replace HO_699001 := Aside0.mk (Kd.R_mono (ok' := fun k_ => some k_ ≠ (.slice Ao43 t677.length co43 : Value).ownBlock ∧ some k_ ≠ (.slice Ao45 t680.length co45 : Value).ownBlock ∧ some k_ ≠ (.slice Ao51 t723.length co51 : Value).ownBlock ∧ some k_ ≠ (.slice Ao56 t724.length co56 : Value).ownBlock ∧ some k_ ≠ (.slice Ao61 t726.length co61 : Value).ownBlock ∧ some k_ ≠ (.slice Ao71 t699.length co71 : Value).ownBlock ∧ some k_ ≠ (.slice Ao78 t702.length co78 : Value).ownBlock) (Kd.R_keptB (HO_699001.out) hkp (fun k_ hk_ hs_ => Or.elim hs_ (fun e_ => (hk_.2.2.2.2.2.1) e_) (fun e_ => (hk_.2.2.2.2.2.2) e_))) (fun k_ hk_ => ⟨hk_.1.1, hk_.1.2.1, hk_.1.2.2.1, hk_.1.2.2.2.1, hk_.1.2.2.2.2.1, hk_.1.2.2.2.2.2.1, hk_.1.2.2.2.2.2.2⟩)); replace BK661 := Aside0.mk (blk_kept (kb_ BK661.out) hkp (fun hs_ => Or.elim hs_ (fun e_ => (fun e_ => (Kd.R_ne HO_707000.out BK661.out (by decide)) e_) e_) (fun e_ => (fun e_ => (Kd.R_ne HO_707001.out BK661.out (by decide)) e_) e_))); replace BK662 := Aside0.mk (blk_kept (kb_ BK662.out) hkp (fun hs_ => Or.elim hs_ (fun e_ => (fun e_ => (Kd.R_ne HO_707000.out BK662.out (by decide)) e_) e_) (fun e_ => (fun e_ => (Kd.R_ne HO_707001.out BK662.out (by decide)) e_) e_))); replace BK684 := Aside0.mk (blk_kept (kb_ BK684.out) hkp (fun hs_ => Or.elim hs_ (fun e_ => (fun e_ => (Kd.R_ne HO_707000.out BK684.out (by decide)) e_) e_) (fun e_ => (fun e_ => (Kd.R_ne HO_707001.out BK684.out (by decide)) e_) e_))); replace BK691 := Aside0.mk (blk_kept (kb_ BK691.out) hkp (fun hs_ => Or.elim hs_ (fun e_ => (fun e_ => (Kd.R_ne HO_707000.out BK691.out (by decide)) e_) e_) (fun e_ => (fun e_ => (Kd.R_ne HO_707001.out BK691.out (by decide)) e_) e_))); replace BK698 := Aside0.mk (blk_kept (kb_ BK698.out) hkp (fun hs_ => Or.elim hs_ (fun e_ => (fun e_ => (Kd.R_ne HO_707000.out BK698.out (by decide)) e_) e_) (fun e_ => (fun e_ => (Kd.R_ne HO_707001.out BK698.out (by decide)) e_) e_))); replace BK706 := Aside0.mk (blk_kept (kb_ BK706.out) hkp (fun hs_ => Or.elim hs_ (fun e_ => (fun e_ => (Kd.R_ne HO_707000.out BK706.out (by decide)) e_) e_) (fun e_ => (fun e_ => (Kd.R_ne HO_707001.out BK706.out (by decide)) e_) e_))); replace HO_707000 := Aside0.mk (Kd.R_reok rfl hy0 (fun k_ e_ => HO_707000.out.1 k_ e_)); replace HO_707001 := Aside0.mk (Kd.R_reok rfl hy1 (fun k_ e_ => HO_707001.out.1 k_ e_)); replace HB := Aside0.mk (hb); clear hb; have hcz157_0 : w156.cell? ⟨gb706, 0, none⟩ = some (.slice Ao71 t699.length co71) := bc_ BK706.out 0; have hcz157_1 : w156.cell? ⟨gb706, 1, none⟩ = some (.slice Ao78 t702.length co78) := bc_ BK706.out 1; have hfz157_0 := blk_frozen BK706.out 0; have hfz157_1 := blk_frozen BK706.out 1) | ((with_reducible refine gate_callee (f := 16) rfl ?_); refine goesL_ (some 88) rfl rfl Try.func16 (by kernel_rfl) rfl #[.agg #[.slice Ao71 t730.length co71, .slice Ao78 t731.length co78], .int .i64 1] rfl (by (try simp only [List.map_toArray, List.map_cons, List.map_nil]); first | done | (rw [show t730.length = t699.length from (Kd.R_reads' HO_707000.out).1.symm, show t731.length = t702.length from (Kd.R_reads' HO_707001.out).1.symm] <;> rfl) | rfl | (simp only [List.length_drop, List.length_take]; rfl)) ?_; (with_reducible refine (laws_heldBag.calls kj101 _ _ t730 _ _ t731 1 t732 _ ?side1 ?side2 ?side3 ?side4 A143.out).mono ?_); (case side1 => exact kc_ (Kd.R_reads' HO_707000.out).2.2); (case side2 => rw [show t730.length = t699.length from (Kd.R_reads' HO_707000.out).1.symm]; exact (Kd.R_reads' HO_707000.out).2.1); (case side3 => exact kc_ (Kd.R_reads' HO_707001.out).2.2); (case side4 => rw [show t731.length = t702.length from (Kd.R_reads' HO_707001.out).1.symm]; exact (Kd.R_reads' HO_707001.out).2.1); rintro e w158 ⟨rfl, hb⟩; refine ⟨_, rfl, ?_⟩; replace HO_685000 := rb_ HO_685000 hb; replace HO_685001 := rb_ HO_685001 hb; replace HO_692000 := rb_ HO_692000 hb; replace HO_692001 := rb_ HO_692001 hb; replace HO_699000 := rb_ HO_699000 hb; replace HO_699001 := rb_ HO_699001 hb; replace HO_707000 := rb_ HO_707000 hb; replace HO_707001 := rb_ HO_707001 hb; replace BK661 := bb_ BK661 hb; replace BK662 := bb_ BK662 hb; replace BK684 := bb_ BK684 hb; replace BK691 := bb_ BK691 hb; replace BK698 := bb_ BK698 hb; replace BK706 := bb_ BK706 hb; replace HB := Aside0.mk (below_step bl_ hb); clear hb))
 replace HO_685000 := Aside0.mk (Kd.R_drew HO_685000.out)
 replace HO_685001 := Aside0.mk (Kd.R_drew HO_685001.out)
 replace HO_692000 := Aside0.mk (Kd.R_drew HO_692000.out)
 replace HO_692001 := Aside0.mk (Kd.R_drew HO_692001.out)
 replace HO_699000 := Aside0.mk (Kd.R_drew HO_699000.out)
 replace HO_699001 := Aside0.mk (Kd.R_drew HO_699001.out)
 replace HO_707000 := Aside0.mk (Kd.R_drew HO_707000.out)
 replace HO_707001 := Aside0.mk (Kd.R_drew HO_707001.out)
 replace BK661 := Aside0.mk (blk_drew BK661.out)
 replace BK662 := Aside0.mk (blk_drew BK662.out)
 replace BK684 := Aside0.mk (blk_drew BK684.out)
 replace BK691 := Aside0.mk (blk_drew BK691.out)
 replace BK698 := Aside0.mk (blk_drew BK698.out)
 replace BK706 := Aside0.mk (blk_drew BK706.out)
 replace HB := Aside0.mk (below_drew1 HB.out)
 refine start_ (n := 11) (S := fun w' => w'.cell? ⟨gb661, 0, none⟩ = some (.slice A0_0 l0_0.length c0_0) ∧ w'.cell? ⟨gb661, 1, none⟩ = some (.slice A0_1 l0_1.length c0_1) ∧ w'.cell? ⟨gb662, 0, none⟩ = some (.slice A1_0 l1_0.length c1_0) ∧ w'.cell? ⟨gb662, 1, none⟩ = some (.slice A1_1 l1_1.length c1_1)) (ds := []) #[false, false, false, false, false, false, false, false, false, false, false] (by kernel_rfl) rfl rfl ⟨bc_ BK661.out 0, bc_ BK661.out 1, bc_ BK662.out 0, bc_ BK662.out 1⟩ (fun hHeld => ?_); refine with_tabW laws_FnExactMergeBag.tab31 laws_FnExactMergeBag.bits31 (fun HT_ HW_ => ?_)
 generalize w158.drew = w159 at HO_685000 HO_685001 HO_692000 HO_692001 HO_699000 HO_699001 HO_707000 HO_707001 BK661 BK662 BK684 BK691 BK698 BK706 HB hHeld ⊢
 refine tk4_ 0 (some 95) (h := ?_)
 refine tk4_ 2 (some 97) (h := ?_)
 refine join_ (σ := Value × Value × Value × Value × Value × Value × Nat) 2 #[true, true, true, true, true, true, true, true, true, false, false] (fun s_ => [(96, .agg #[s_.1, s_.2.1]), (98, .agg #[s_.2.2.1, s_.2.2.2.1]), (99, .tuple #[.agg #[s_.2.2.2.2.1, s_.2.2.2.2.2.1], .bool t751]), (15, .pointer (some ⟨s_.2.2.2.2.2.2, 0, none⟩)), (94, .tuple #[.agg #[s_.2.2.2.2.1, s_.2.2.2.2.2.1], .bool t751]), (100, .agg #[s_.2.2.2.2.1, s_.2.2.2.2.2.1]), (101, .bool t751)]) (fun s_ w' => (w'.cell? ⟨gb661, 0, none⟩ = some (.slice A0_0 l0_0.length c0_0) ∧ w'.cell? ⟨gb661, 1, none⟩ = some (.slice A0_1 l0_1.length c0_1) ∧ w'.cell? ⟨gb662, 0, none⟩ = some (.slice A1_0 l1_0.length c1_0) ∧ w'.cell? ⟨gb662, 1, none⟩ = some (.slice A1_1 l1_1.length c1_1)) ∧ (Kd.R k48 48 w' w.heap.size (fun k_ => some k_ ≠ (s_.2.1 : Value).ownBlock ∧ some k_ ≠ (s_.2.2.1 : Value).ownBlock ∧ some k_ ≠ (s_.2.2.2.1 : Value).ownBlock ∧ some k_ ≠ (s_.2.2.2.2.1 : Value).ownBlock ∧ some k_ ≠ (s_.2.2.2.2.2.1 : Value).ownBlock ∧ some k_ ≠ (.slice Ao43 t677.length co43 : Value).ownBlock ∧ some k_ ≠ (.slice Ao45 t680.length co45 : Value).ownBlock ∧ some k_ ≠ (.slice Ao51 t723.length co51 : Value).ownBlock ∧ some k_ ≠ (.slice Ao56 t724.length co56 : Value).ownBlock ∧ some k_ ≠ (.slice Ao61 t726.length co61 : Value).ownBlock ∧ some k_ ≠ (.slice Ao67 t727.length co67 : Value).ownBlock ∧ some k_ ≠ (.slice Ao71 t699.length co71 : Value).ownBlock ∧ some k_ ≠ (.slice Ao78 t702.length co78 : Value).ownBlock) s_.1 t733) ∧ (Kd.R k48 48 w' w.heap.size (fun k_ => some k_ ≠ (s_.1 : Value).ownBlock ∧ some k_ ≠ (s_.2.2.1 : Value).ownBlock ∧ some k_ ≠ (s_.2.2.2.1 : Value).ownBlock ∧ some k_ ≠ (s_.2.2.2.2.1 : Value).ownBlock ∧ some k_ ≠ (s_.2.2.2.2.2.1 : Value).ownBlock ∧ some k_ ≠ (.slice Ao43 t677.length co43 : Value).ownBlock ∧ some k_ ≠ (.slice Ao45 t680.length co45 : Value).ownBlock ∧ some k_ ≠ (.slice Ao51 t723.length co51 : Value).ownBlock ∧ some k_ ≠ (.slice Ao56 t724.length co56 : Value).ownBlock ∧ some k_ ≠ (.slice Ao61 t726.length co61 : Value).ownBlock ∧ some k_ ≠ (.slice Ao67 t727.length co67 : Value).ownBlock ∧ some k_ ≠ (.slice Ao71 t699.length co71 : Value).ownBlock ∧ some k_ ≠ (.slice Ao78 t702.length co78 : Value).ownBlock) s_.2.1 t736) ∧ (Kd.R k48 48 w' w.heap.size (fun k_ => some k_ ≠ (s_.1 : Value).ownBlock ∧ some k_ ≠ (s_.2.1 : Value).ownBlock ∧ some k_ ≠ (s_.2.2.2.1 : Value).ownBlock ∧ some k_ ≠ (s_.2.2.2.2.1 : Value).ownBlock ∧ some k_ ≠ (s_.2.2.2.2.2.1 : Value).ownBlock ∧ some k_ ≠ (.slice Ao43 t677.length co43 : Value).ownBlock ∧ some k_ ≠ (.slice Ao45 t680.length co45 : Value).ownBlock ∧ some k_ ≠ (.slice Ao51 t723.length co51 : Value).ownBlock ∧ some k_ ≠ (.slice Ao56 t724.length co56 : Value).ownBlock ∧ some k_ ≠ (.slice Ao61 t726.length co61 : Value).ownBlock ∧ some k_ ≠ (.slice Ao67 t727.length co67 : Value).ownBlock ∧ some k_ ≠ (.slice Ao71 t699.length co71 : Value).ownBlock ∧ some k_ ≠ (.slice Ao78 t702.length co78 : Value).ownBlock) s_.2.2.1 t739) ∧ (Kd.R k48 48 w' w.heap.size (fun k_ => some k_ ≠ (s_.1 : Value).ownBlock ∧ some k_ ≠ (s_.2.1 : Value).ownBlock ∧ some k_ ≠ (s_.2.2.1 : Value).ownBlock ∧ some k_ ≠ (s_.2.2.2.2.1 : Value).ownBlock ∧ some k_ ≠ (s_.2.2.2.2.2.1 : Value).ownBlock ∧ some k_ ≠ (.slice Ao43 t677.length co43 : Value).ownBlock ∧ some k_ ≠ (.slice Ao45 t680.length co45 : Value).ownBlock ∧ some k_ ≠ (.slice Ao51 t723.length co51 : Value).ownBlock ∧ some k_ ≠ (.slice Ao56 t724.length co56 : Value).ownBlock ∧ some k_ ≠ (.slice Ao61 t726.length co61 : Value).ownBlock ∧ some k_ ≠ (.slice Ao67 t727.length co67 : Value).ownBlock ∧ some k_ ≠ (.slice Ao71 t699.length co71 : Value).ownBlock ∧ some k_ ≠ (.slice Ao78 t702.length co78 : Value).ownBlock) s_.2.2.2.1 t742) ∧ (Kd.R k48 48 w' w.heap.size (fun k_ => some k_ ≠ (s_.1 : Value).ownBlock ∧ some k_ ≠ (s_.2.1 : Value).ownBlock ∧ some k_ ≠ (s_.2.2.1 : Value).ownBlock ∧ some k_ ≠ (s_.2.2.2.1 : Value).ownBlock ∧ some k_ ≠ (s_.2.2.2.2.2.1 : Value).ownBlock ∧ some k_ ≠ (.slice Ao43 t677.length co43 : Value).ownBlock ∧ some k_ ≠ (.slice Ao45 t680.length co45 : Value).ownBlock ∧ some k_ ≠ (.slice Ao51 t723.length co51 : Value).ownBlock ∧ some k_ ≠ (.slice Ao56 t724.length co56 : Value).ownBlock ∧ some k_ ≠ (.slice Ao61 t726.length co61 : Value).ownBlock ∧ some k_ ≠ (.slice Ao67 t727.length co67 : Value).ownBlock ∧ some k_ ≠ (.slice Ao71 t699.length co71 : Value).ownBlock ∧ some k_ ≠ (.slice Ao78 t702.length co78 : Value).ownBlock) s_.2.2.2.2.1 t745) ∧ (Kd.R k48 48 w' w.heap.size (fun k_ => some k_ ≠ (s_.1 : Value).ownBlock ∧ some k_ ≠ (s_.2.1 : Value).ownBlock ∧ some k_ ≠ (s_.2.2.1 : Value).ownBlock ∧ some k_ ≠ (s_.2.2.2.1 : Value).ownBlock ∧ some k_ ≠ (s_.2.2.2.2.1 : Value).ownBlock ∧ some k_ ≠ (.slice Ao43 t677.length co43 : Value).ownBlock ∧ some k_ ≠ (.slice Ao45 t680.length co45 : Value).ownBlock ∧ some k_ ≠ (.slice Ao51 t723.length co51 : Value).ownBlock ∧ some k_ ≠ (.slice Ao56 t724.length co56 : Value).ownBlock ∧ some k_ ≠ (.slice Ao61 t726.length co61 : Value).ownBlock ∧ some k_ ≠ (.slice Ao67 t727.length co67 : Value).ownBlock ∧ some k_ ≠ (.slice Ao71 t699.length co71 : Value).ownBlock ∧ some k_ ≠ (.slice Ao78 t702.length co78 : Value).ownBlock) s_.2.2.2.2.2.1 t748) ∧ (Kd.R k48 48 w' w.heap.size (fun k_ => some k_ ≠ (s_.1 : Value).ownBlock ∧ some k_ ≠ (s_.2.1 : Value).ownBlock ∧ some k_ ≠ (s_.2.2.1 : Value).ownBlock ∧ some k_ ≠ (s_.2.2.2.1 : Value).ownBlock ∧ some k_ ≠ (s_.2.2.2.2.1 : Value).ownBlock ∧ some k_ ≠ (s_.2.2.2.2.2.1 : Value).ownBlock ∧ some k_ ≠ (.slice Ao45 t680.length co45 : Value).ownBlock ∧ some k_ ≠ (.slice Ao51 t723.length co51 : Value).ownBlock ∧ some k_ ≠ (.slice Ao56 t724.length co56 : Value).ownBlock ∧ some k_ ≠ (.slice Ao61 t726.length co61 : Value).ownBlock ∧ some k_ ≠ (.slice Ao67 t727.length co67 : Value).ownBlock ∧ some k_ ≠ (.slice Ao71 t699.length co71 : Value).ownBlock ∧ some k_ ≠ (.slice Ao78 t702.length co78 : Value).ownBlock) (.slice Ao43 t677.length co43) t677) ∧ (Kd.R k48 48 w' w.heap.size (fun k_ => some k_ ≠ (s_.1 : Value).ownBlock ∧ some k_ ≠ (s_.2.1 : Value).ownBlock ∧ some k_ ≠ (s_.2.2.1 : Value).ownBlock ∧ some k_ ≠ (s_.2.2.2.1 : Value).ownBlock ∧ some k_ ≠ (s_.2.2.2.2.1 : Value).ownBlock ∧ some k_ ≠ (s_.2.2.2.2.2.1 : Value).ownBlock ∧ some k_ ≠ (.slice Ao43 t677.length co43 : Value).ownBlock ∧ some k_ ≠ (.slice Ao51 t723.length co51 : Value).ownBlock ∧ some k_ ≠ (.slice Ao56 t724.length co56 : Value).ownBlock ∧ some k_ ≠ (.slice Ao61 t726.length co61 : Value).ownBlock ∧ some k_ ≠ (.slice Ao67 t727.length co67 : Value).ownBlock ∧ some k_ ≠ (.slice Ao71 t699.length co71 : Value).ownBlock ∧ some k_ ≠ (.slice Ao78 t702.length co78 : Value).ownBlock) (.slice Ao45 t680.length co45) t680) ∧ (Kd.R k48 48 w' w.heap.size (fun k_ => some k_ ≠ (s_.1 : Value).ownBlock ∧ some k_ ≠ (s_.2.1 : Value).ownBlock ∧ some k_ ≠ (s_.2.2.1 : Value).ownBlock ∧ some k_ ≠ (s_.2.2.2.1 : Value).ownBlock ∧ some k_ ≠ (s_.2.2.2.2.1 : Value).ownBlock ∧ some k_ ≠ (s_.2.2.2.2.2.1 : Value).ownBlock ∧ some k_ ≠ (.slice Ao43 t677.length co43 : Value).ownBlock ∧ some k_ ≠ (.slice Ao45 t680.length co45 : Value).ownBlock ∧ some k_ ≠ (.slice Ao56 t724.length co56 : Value).ownBlock ∧ some k_ ≠ (.slice Ao61 t726.length co61 : Value).ownBlock ∧ some k_ ≠ (.slice Ao67 t727.length co67 : Value).ownBlock ∧ some k_ ≠ (.slice Ao71 t699.length co71 : Value).ownBlock ∧ some k_ ≠ (.slice Ao78 t702.length co78 : Value).ownBlock) (.slice Ao51 t723.length co51) t723) ∧ (Kd.R k48 48 w' w.heap.size (fun k_ => some k_ ≠ (s_.1 : Value).ownBlock ∧ some k_ ≠ (s_.2.1 : Value).ownBlock ∧ some k_ ≠ (s_.2.2.1 : Value).ownBlock ∧ some k_ ≠ (s_.2.2.2.1 : Value).ownBlock ∧ some k_ ≠ (s_.2.2.2.2.1 : Value).ownBlock ∧ some k_ ≠ (s_.2.2.2.2.2.1 : Value).ownBlock ∧ some k_ ≠ (.slice Ao43 t677.length co43 : Value).ownBlock ∧ some k_ ≠ (.slice Ao45 t680.length co45 : Value).ownBlock ∧ some k_ ≠ (.slice Ao51 t723.length co51 : Value).ownBlock ∧ some k_ ≠ (.slice Ao61 t726.length co61 : Value).ownBlock ∧ some k_ ≠ (.slice Ao67 t727.length co67 : Value).ownBlock ∧ some k_ ≠ (.slice Ao71 t699.length co71 : Value).ownBlock ∧ some k_ ≠ (.slice Ao78 t702.length co78 : Value).ownBlock) (.slice Ao56 t724.length co56) t724) ∧ (Kd.R k48 48 w' w.heap.size (fun k_ => some k_ ≠ (s_.1 : Value).ownBlock ∧ some k_ ≠ (s_.2.1 : Value).ownBlock ∧ some k_ ≠ (s_.2.2.1 : Value).ownBlock ∧ some k_ ≠ (s_.2.2.2.1 : Value).ownBlock ∧ some k_ ≠ (s_.2.2.2.2.1 : Value).ownBlock ∧ some k_ ≠ (s_.2.2.2.2.2.1 : Value).ownBlock ∧ some k_ ≠ (.slice Ao43 t677.length co43 : Value).ownBlock ∧ some k_ ≠ (.slice Ao45 t680.length co45 : Value).ownBlock ∧ some k_ ≠ (.slice Ao51 t723.length co51 : Value).ownBlock ∧ some k_ ≠ (.slice Ao56 t724.length co56 : Value).ownBlock ∧ some k_ ≠ (.slice Ao67 t727.length co67 : Value).ownBlock ∧ some k_ ≠ (.slice Ao71 t699.length co71 : Value).ownBlock ∧ some k_ ≠ (.slice Ao78 t702.length co78 : Value).ownBlock) (.slice Ao61 t726.length co61) t726) ∧ (Kd.R k48 48 w' w.heap.size (fun k_ => some k_ ≠ (s_.1 : Value).ownBlock ∧ some k_ ≠ (s_.2.1 : Value).ownBlock ∧ some k_ ≠ (s_.2.2.1 : Value).ownBlock ∧ some k_ ≠ (s_.2.2.2.1 : Value).ownBlock ∧ some k_ ≠ (s_.2.2.2.2.1 : Value).ownBlock ∧ some k_ ≠ (s_.2.2.2.2.2.1 : Value).ownBlock ∧ some k_ ≠ (.slice Ao43 t677.length co43 : Value).ownBlock ∧ some k_ ≠ (.slice Ao45 t680.length co45 : Value).ownBlock ∧ some k_ ≠ (.slice Ao51 t723.length co51 : Value).ownBlock ∧ some k_ ≠ (.slice Ao56 t724.length co56 : Value).ownBlock ∧ some k_ ≠ (.slice Ao61 t726.length co61 : Value).ownBlock ∧ some k_ ≠ (.slice Ao71 t699.length co71 : Value).ownBlock ∧ some k_ ≠ (.slice Ao78 t702.length co78 : Value).ownBlock) (.slice Ao67 t727.length co67) t727) ∧ (Kd.R k48 48 w' w.heap.size (fun k_ => some k_ ≠ (s_.1 : Value).ownBlock ∧ some k_ ≠ (s_.2.1 : Value).ownBlock ∧ some k_ ≠ (s_.2.2.1 : Value).ownBlock ∧ some k_ ≠ (s_.2.2.2.1 : Value).ownBlock ∧ some k_ ≠ (s_.2.2.2.2.1 : Value).ownBlock ∧ some k_ ≠ (s_.2.2.2.2.2.1 : Value).ownBlock ∧ some k_ ≠ (.slice Ao43 t677.length co43 : Value).ownBlock ∧ some k_ ≠ (.slice Ao45 t680.length co45 : Value).ownBlock ∧ some k_ ≠ (.slice Ao51 t723.length co51 : Value).ownBlock ∧ some k_ ≠ (.slice Ao56 t724.length co56 : Value).ownBlock ∧ some k_ ≠ (.slice Ao61 t726.length co61 : Value).ownBlock ∧ some k_ ≠ (.slice Ao67 t727.length co67 : Value).ownBlock ∧ some k_ ≠ (.slice Ao78 t702.length co78 : Value).ownBlock) (.slice Ao71 t699.length co71) t730) ∧ (Kd.R k48 48 w' w.heap.size (fun k_ => some k_ ≠ (s_.1 : Value).ownBlock ∧ some k_ ≠ (s_.2.1 : Value).ownBlock ∧ some k_ ≠ (s_.2.2.1 : Value).ownBlock ∧ some k_ ≠ (s_.2.2.2.1 : Value).ownBlock ∧ some k_ ≠ (s_.2.2.2.2.1 : Value).ownBlock ∧ some k_ ≠ (s_.2.2.2.2.2.1 : Value).ownBlock ∧ some k_ ≠ (.slice Ao43 t677.length co43 : Value).ownBlock ∧ some k_ ≠ (.slice Ao45 t680.length co45 : Value).ownBlock ∧ some k_ ≠ (.slice Ao51 t723.length co51 : Value).ownBlock ∧ some k_ ≠ (.slice Ao56 t724.length co56 : Value).ownBlock ∧ some k_ ≠ (.slice Ao61 t726.length co61 : Value).ownBlock ∧ some k_ ≠ (.slice Ao67 t727.length co67 : Value).ownBlock ∧ some k_ ≠ (.slice Ao71 t699.length co71 : Value).ownBlock) (.slice Ao78 t702.length co78) t731) ∧ (w'.heap[gb661]? = some (.cells #[.slice A0_0 l0_0.length c0_0, .slice A0_1 l0_1.length c0_1] 24 (0, 0))) ∧ (w'.heap[gb662]? = some (.cells #[.slice A1_0 l1_0.length c1_0, .slice A1_1 l1_1.length c1_1] 24 (0, 0))) ∧ (w'.heap[gb684]? = some (.cells #[.slice Ao43 t677.length co43, .slice Ao45 t680.length co45] 29 (0, 0))) ∧ (w'.heap[gb691]? = some (.cells #[.slice Ao51 t723.length co51, .slice Ao56 t724.length co56] 29 (0, 0))) ∧ (w'.heap[gb698]? = some (.cells #[.slice Ao61 t726.length co61, .slice Ao67 t727.length co67] 29 (0, 0))) ∧ (w'.heap[gb706]? = some (.cells #[.slice Ao71 t699.length co71, .slice Ao78 t702.length co78] 29 (0, 0))) ∧ (w'.heap[s_.2.2.2.2.2.2]? = some (.cells #[.slice none 0 0, .slice none 0 0] 29 (0, 0))) ∧ (w.heap.size ≤ s_.2.2.2.2.2.2) ∧ (w.heap.size ≤ s_.2.2.2.2.2.2) ∧ (gb661 ≠ s_.2.2.2.2.2.2) ∧ (s_.2.2.2.2.2.2 ≠ gb661) ∧ (gb662 ≠ s_.2.2.2.2.2.2) ∧ (s_.2.2.2.2.2.2 ≠ gb662) ∧ (gb684 ≠ s_.2.2.2.2.2.2) ∧ (s_.2.2.2.2.2.2 ≠ gb684) ∧ (gb691 ≠ s_.2.2.2.2.2.2) ∧ (s_.2.2.2.2.2.2 ≠ gb691) ∧ (gb698 ≠ s_.2.2.2.2.2.2) ∧ (s_.2.2.2.2.2.2 ≠ gb698) ∧ (gb706 ≠ s_.2.2.2.2.2.2) ∧ (s_.2.2.2.2.2.2 ≠ gb706) ∧ (Below w.heap.size w w')) ?_ ?_
 rotate_left
 ·intro hCont
  refine tw_ 1 8 (some 96) (some 15) (h1 := fun K hK => ?_) (h2 := fun K hK => ?_)
  ·skip
   refine goes_ Try.func10 (by kernel_rfl) rfl #[.agg #[.slice A0_0 l0_0.length c0_0, .slice A0_1 l0_1.length c0_1]] (by rfl) rfl rfl nc_ ?_
   with_reducible refine (laws_toBag.calls kj101 _ _ l0_0 _ _ l0_1 t733 t736 _ ?side1 ?side2 ?side3 ?side4 A146.out).mono ?_
   (case side1 => exact kc_ (Kd.C_below HR0_0.out HB.out))
   (case side2 => exact HC0_0.out)
   (case side3 => exact kc_ (Kd.C_below HR0_1.out HB.out))
   (case side4 => exact HC0_1.out)
   rintro e w160 ⟨v734, v737, rfl, ho0, ho1, hb⟩
   refine ⟨_, rfl, ?_⟩
   have HO735 := Aside0.mk (Kd.R_lower (rn_ (rn_ (rn_ (rn_ (rn_ (rn_ (rn_ (rn_ ho0 HO_685000.out) HO_685001.out) HO_692000.out) HO_692001.out) HO_699000.out) HO_699001.out) HO_707000.out) HO_707001.out) bz_)
   have HO738 := Aside0.mk (Kd.R_lower (rn_ (rn_ (rn_ (rn_ (rn_ (rn_ (rn_ (rn_ ho1 HO_685000.out) HO_685001.out) HO_692000.out) HO_692001.out) HO_699000.out) HO_699001.out) HO_707000.out) HO_707001.out) bz_)
   replace HO_685000 := rp2_ HO_685000 hb ho0 ho1
   replace HO_685001 := rp2_ HO_685001 hb ho0 ho1
   replace HO_692000 := rp2_ HO_692000 hb ho0 ho1
   replace HO_692001 := rp2_ HO_692001 hb ho0 ho1
   replace HO_699000 := rp2_ HO_699000 hb ho0 ho1
   replace HO_699001 := rp2_ HO_699001 hb ho0 ho1
   replace HO_707000 := rp2_ HO_707000 hb ho0 ho1
   replace HO_707001 := rp2_ HO_707001 hb ho0 ho1
   replace BK661 := bb_ BK661 hb
   replace BK662 := bb_ BK662 hb
   replace BK684 := bb_ BK684 hb
   replace BK691 := bb_ BK691 hb
   replace BK698 := bb_ BK698 hb
   replace BK706 := bb_ BK706 hb
   replace HB := Aside0.mk (below_step bl_ hb)
   clear hb ho0 ho1
   refine hK.out _ _ ⟨bc_ BK661.out 0, bc_ BK661.out 1, bc_ BK662.out 0, bc_ BK662.out 1⟩ (fun hHeld => ?_)
   clear hK K
   refine norm_ nn_ ?_
   refine tw_ 3 8 (some 98) (some 15) (h1 := fun K hK => ?_) (h2 := fun K hK => ?_)
   ·skip
    refine goes_ Try.func10 (by kernel_rfl) rfl #[.agg #[.slice A1_0 l1_0.length c1_0, .slice A1_1 l1_1.length c1_1]] (by rfl) rfl rfl nc_ ?_
    with_reducible refine (laws_toBag.calls kj101 _ _ l1_0 _ _ l1_1 t739 t742 _ ?side1 ?side2 ?side3 ?side4 A147.out).mono ?_
    (case side1 => exact kc_ (Kd.C_below HR1_0.out HB.out))
    (case side2 => exact HC1_0.out)
    (case side3 => exact kc_ (Kd.C_below HR1_1.out HB.out))
    (case side4 => exact HC1_1.out)
    rintro e w161 ⟨v740, v743, rfl, ho0, ho1, hb⟩
    refine ⟨_, rfl, ?_⟩
    have HO741 := Aside0.mk (Kd.R_lower (rn_ (rn_ (rn_ (rn_ (rn_ (rn_ (rn_ (rn_ (rn_ (rn_ ho0 HO_685000.out) HO_685001.out) HO_692000.out) HO_692001.out) HO_699000.out) HO_699001.out) HO_707000.out) HO_707001.out) HO735.out) HO738.out) bz_)
    have HO744 := Aside0.mk (Kd.R_lower (rn_ (rn_ (rn_ (rn_ (rn_ (rn_ (rn_ (rn_ (rn_ (rn_ ho1 HO_685000.out) HO_685001.out) HO_692000.out) HO_692001.out) HO_699000.out) HO_699001.out) HO_707000.out) HO_707001.out) HO735.out) HO738.out) bz_)
    replace HO_685000 := rp2_ HO_685000 hb ho0 ho1
    replace HO_685001 := rp2_ HO_685001 hb ho0 ho1
    replace HO_692000 := rp2_ HO_692000 hb ho0 ho1
    replace HO_692001 := rp2_ HO_692001 hb ho0 ho1
    replace HO_699000 := rp2_ HO_699000 hb ho0 ho1
    replace HO_699001 := rp2_ HO_699001 hb ho0 ho1
    replace HO_707000 := rp2_ HO_707000 hb ho0 ho1
    replace HO_707001 := rp2_ HO_707001 hb ho0 ho1
    replace HO735 := rp2_ HO735 hb ho0 ho1
    replace HO738 := rp2_ HO738 hb ho0 ho1
    replace BK661 := bb_ BK661 hb
    replace BK662 := bb_ BK662 hb
    replace BK684 := bb_ BK684 hb
    replace BK691 := bb_ BK691 hb
    replace BK698 := bb_ BK698 hb
    replace BK706 := bb_ BK706 hb
    replace HB := Aside0.mk (below_step bl_ hb)
    clear hb ho0 ho1
    obtain ⟨Ao162, co162, eo162⟩ := Kd.R_slice HO735.out
    (first | subst eo162 | (injection eo162 with f1_ f2_ f3_; have f4_ := f1_.symm; have f5_ := f3_.symm; clear f1_ f2_ f3_; subst f4_; subst f5_))
    obtain ⟨Ao163, co163, eo163⟩ := Kd.R_slice HO738.out
    (first | subst eo163 | (injection eo163 with f1_ f2_ f3_; have f4_ := f1_.symm; have f5_ := f3_.symm; clear f1_ f2_ f3_; subst f4_; subst f5_))
    obtain ⟨Ao164, co164, eo164⟩ := Kd.R_slice HO741.out
    (first | subst eo164 | (injection eo164 with f1_ f2_ f3_; have f4_ := f1_.symm; have f5_ := f3_.symm; clear f1_ f2_ f3_; subst f4_; subst f5_))
    obtain ⟨Ao165, co165, eo165⟩ := Kd.R_slice HO744.out
    (first | subst eo165 | (injection eo165 with f1_ f2_ f3_; have f4_ := f1_.symm; have f5_ := f3_.symm; clear f1_ f2_ f3_; subst f4_; subst f5_))
    refine hK.out _ _ ⟨bc_ BK661.out 0, bc_ BK661.out 1, bc_ BK662.out 0, bc_ BK662.out 1⟩ (fun hHeld => ?_)
    clear hK K
    refine norm_ nn_ ?_
    refine tw_ 4 8 (some 99) (some 15) (h1 := fun K hK => ?_) (h2 := fun K hK => ?_)
    ·skip
     refine goes_ Try.func18 (by kernel_rfl) rfl #[.agg #[.slice Ao162 t733.length co162, .slice Ao163 t736.length co163], .agg #[.slice Ao164 t739.length co164, .slice Ao165 t742.length co165]] (by rfl) rfl rfl nc_ ?_
     with_reducible refine (impl_MergeBag.calls kj101 _ _ t733 _ _ t736 _ _ t739 _ _ t742 t745 t748 t751 _ ?side1 ?side2 ?side3 ?side4 ?side5 ?side6 ?side7 ?side8 A148.out).mono ?_
     (case side1 => exact kc_ (Kd.R_reads' HO735.out).2.2)
     (case side2 => exact (Kd.R_reads' HO735.out).2.1)
     (case side3 => exact kc_ (Kd.R_reads' HO738.out).2.2)
     (case side4 => exact (Kd.R_reads' HO738.out).2.1)
     (case side5 => exact kc_ (Kd.R_reads' HO741.out).2.2)
     (case side6 => exact (Kd.R_reads' HO741.out).2.1)
     (case side7 => exact kc_ (Kd.R_reads' HO744.out).2.2)
     (case side8 => exact (Kd.R_reads' HO744.out).2.1)
     rintro e w166 ⟨v746, v749, rfl, ho0, ho1, hb⟩
     refine ⟨_, rfl, ?_⟩
     have HO747 := Aside0.mk (Kd.R_lower (rn_ (rn_ (rn_ (rn_ (rn_ (rn_ (rn_ (rn_ (rn_ (rn_ (rn_ (rn_ ho0 HO_685000.out) HO_685001.out) HO_692000.out) HO_692001.out) HO_699000.out) HO_699001.out) HO_707000.out) HO_707001.out) HO735.out) HO738.out) HO741.out) HO744.out) bz_)
     have HO750 := Aside0.mk (Kd.R_lower (rn_ (rn_ (rn_ (rn_ (rn_ (rn_ (rn_ (rn_ (rn_ (rn_ (rn_ (rn_ ho1 HO_685000.out) HO_685001.out) HO_692000.out) HO_692001.out) HO_699000.out) HO_699001.out) HO_707000.out) HO_707001.out) HO735.out) HO738.out) HO741.out) HO744.out) bz_)
     replace HO_685000 := rp2_ HO_685000 hb ho0 ho1
     replace HO_685001 := rp2_ HO_685001 hb ho0 ho1
     replace HO_692000 := rp2_ HO_692000 hb ho0 ho1
     replace HO_692001 := rp2_ HO_692001 hb ho0 ho1
     replace HO_699000 := rp2_ HO_699000 hb ho0 ho1
     replace HO_699001 := rp2_ HO_699001 hb ho0 ho1
     replace HO_707000 := rp2_ HO_707000 hb ho0 ho1
     replace HO_707001 := rp2_ HO_707001 hb ho0 ho1
     replace HO735 := rp2_ HO735 hb ho0 ho1
     replace HO738 := rp2_ HO738 hb ho0 ho1
     replace HO741 := rp2_ HO741 hb ho0 ho1
     replace HO744 := rp2_ HO744 hb ho0 ho1
     replace BK661 := bb_ BK661 hb
     replace BK662 := bb_ BK662 hb
     replace BK684 := bb_ BK684 hb
     replace BK691 := bb_ BK691 hb
     replace BK698 := bb_ BK698 hb
     replace BK706 := bb_ BK706 hb
     replace HB := Aside0.mk (below_step bl_ hb)
     clear hb ho0 ho1
     refine hK.out _ _ ⟨bc_ BK661.out 0, bc_ BK661.out 1, bc_ BK662.out 0, bc_ BK662.out 1⟩ (fun hHeld => ?_)
     clear hK K
     refine norm_ nn_ ?_
     refine pu_ 5 (some 94) (h := ?_)
     refine pu_ 6 (some 100) (h := ?_)
     refine pu_ 7 (some 101) (h := ?_)
     refine on_ 8 (some 15) (h := fun K hK => ?_)
     refine box_step rfl (N := 15) rfl (cs := #[.slice none 0 0, .slice none 0 0]) (t := 29) gs_ ?_
     intro gb752 hg w167 hbox hb
     replace HO_685000 := rb_ HO_685000 hb
     replace HO_685001 := rb_ HO_685001 hb
     replace HO_692000 := rb_ HO_692000 hb
     replace HO_692001 := rb_ HO_692001 hb
     replace HO_699000 := rb_ HO_699000 hb
     replace HO_699001 := rb_ HO_699001 hb
     replace HO_707000 := rb_ HO_707000 hb
     replace HO_707001 := rb_ HO_707001 hb
     replace HO735 := rb_ HO735 hb
     replace HO738 := rb_ HO738 hb
     replace HO741 := rb_ HO741 hb
     replace HO744 := rb_ HO744 hb
     replace HO747 := rb_ HO747 hb
     replace HO750 := rb_ HO750 hb
     have BK752 := Aside0.mk (hbox)
     have GW752 := Aside0.mk ((by rw [hg]; exact bz_ : w.heap.size ≤ gb752))
     have GE752 := GW752
     replace HB := Aside0.mk (below_step bl_ hb)
     have NB661_752 := nl_ hg BK661
     have NB752_661 := nm_ hg BK661
     replace BK661 := bb_ BK661 hb
     have NB662_752 := nl_ hg BK662
     have NB752_662 := nm_ hg BK662
     replace BK662 := bb_ BK662 hb
     have NB684_752 := nl_ hg BK684
     have NB752_684 := nm_ hg BK684
     replace BK684 := bb_ BK684 hb
     have NB691_752 := nl_ hg BK691
     have NB752_691 := nm_ hg BK691
     replace BK691 := bb_ BK691 hb
     have NB698_752 := nl_ hg BK698
     have NB752_698 := nm_ hg BK698
     replace BK698 := bb_ BK698 hb
     have NB706_752 := nl_ hg BK706
     have NB752_706 := nm_ hg BK706
     replace BK706 := bb_ BK706 hb
     clear hb hbox hg
     refine hK.out _ _ ⟨bc_ BK661.out 0, bc_ BK661.out 1, bc_ BK662.out 0, bc_ BK662.out 1⟩ (fun hHeld => ?_)
     clear hK K
     refine norm_ nn_ ?_
     exact norm_ (by simp only [putAll, Act.put, List.setIfInBounds_toArray, List.set_cons_zero, List.set_cons_succ]) (hCont (.slice Ao162 t733.length co162, .slice Ao163 t736.length co163, .slice Ao164 t739.length co164, .slice Ao165 t742.length co165, v746, v749, gb752) _ ⟨hHeld, kp_ HO735.out, kp_ HO738.out, kp_ HO741.out, kp_ HO744.out, kp_ HO747.out, kp_ HO750.out, kp_ HO_685000.out, kp_ HO_685001.out, kp_ HO_692000.out, kp_ HO_692001.out, kp_ HO_699000.out, kp_ HO_699001.out, kp_ HO_707000.out, kp_ HO_707001.out, kb_ BK661.out, kb_ BK662.out, kb_ BK684.out, kb_ BK691.out, kb_ BK698.out, kb_ BK706.out, kb_ BK752.out, GW752.out, GE752.out, NB661_752.out, NB752_661.out, NB662_752.out, NB752_662.out, NB684_752.out, NB752_684.out, NB691_752.out, NB752_691.out, NB698_752.out, NB752_698.out, NB706_752.out, NB752_706.out, bl_⟩)
    ·skip
     refine box_step rfl (N := 15) rfl (cs := #[.slice none 0 0, .slice none 0 0]) (t := 29) gs_ ?_
     intro gb752 hg w162 hbox hb
     replace HO_685000 := rb_ HO_685000 hb
     replace HO_685001 := rb_ HO_685001 hb
     replace HO_692000 := rb_ HO_692000 hb
     replace HO_692001 := rb_ HO_692001 hb
     replace HO_699000 := rb_ HO_699000 hb
     replace HO_699001 := rb_ HO_699001 hb
     replace HO_707000 := rb_ HO_707000 hb
     replace HO_707001 := rb_ HO_707001 hb
     replace HO735 := rb_ HO735 hb
     replace HO738 := rb_ HO738 hb
     replace HO741 := rb_ HO741 hb
     replace HO744 := rb_ HO744 hb
     have BK752 := Aside0.mk (hbox)
     have GW752 := Aside0.mk ((by rw [hg]; exact bz_ : w.heap.size ≤ gb752))
     have GE752 := GW752
     replace HB := Aside0.mk (below_step bl_ hb)
     have NB661_752 := nl_ hg BK661
     have NB752_661 := nm_ hg BK661
     replace BK661 := bb_ BK661 hb
     have NB662_752 := nl_ hg BK662
     have NB752_662 := nm_ hg BK662
     replace BK662 := bb_ BK662 hb
     have NB684_752 := nl_ hg BK684
     have NB752_684 := nm_ hg BK684
     replace BK684 := bb_ BK684 hb
     have NB691_752 := nl_ hg BK691
     have NB752_691 := nm_ hg BK691
     replace BK691 := bb_ BK691 hb
     have NB698_752 := nl_ hg BK698
     have NB752_698 := nm_ hg BK698
     replace BK698 := bb_ BK698 hb
     have NB706_752 := nl_ hg BK706
     have NB752_706 := nm_ hg BK706
     replace BK706 := bb_ BK706 hb
     clear hb hbox hg
     obtain ⟨Ao163, co163, eo163⟩ := Kd.R_slice HO735.out
     (first | subst eo163 | (injection eo163 with f1_ f2_ f3_; have f4_ := f1_.symm; have f5_ := f3_.symm; clear f1_ f2_ f3_; subst f4_; subst f5_))
     obtain ⟨Ao164, co164, eo164⟩ := Kd.R_slice HO738.out
     (first | subst eo164 | (injection eo164 with f1_ f2_ f3_; have f4_ := f1_.symm; have f5_ := f3_.symm; clear f1_ f2_ f3_; subst f4_; subst f5_))
     obtain ⟨Ao165, co165, eo165⟩ := Kd.R_slice HO741.out
     (first | subst eo165 | (injection eo165 with f1_ f2_ f3_; have f4_ := f1_.symm; have f5_ := f3_.symm; clear f1_ f2_ f3_; subst f4_; subst f5_))
     obtain ⟨Ao166, co166, eo166⟩ := Kd.R_slice HO744.out
     (first | subst eo166 | (injection eo166 with f1_ f2_ f3_; have f4_ := f1_.symm; have f5_ := f3_.symm; clear f1_ f2_ f3_; subst f4_; subst f5_))
     refine hK.out _ _ ⟨bc_ BK661.out 0, bc_ BK661.out 1, bc_ BK662.out 0, bc_ BK662.out 1⟩ (fun hHeld => ?_)
     clear hK K
     refine norm_ nn_ ?_
     refine on_ 4 (some 99) (h := fun K hK => ?_)
     refine goes_ Try.func18 (by kernel_rfl) rfl #[.agg #[.slice Ao163 t733.length co163, .slice Ao164 t736.length co164], .agg #[.slice Ao165 t739.length co165, .slice Ao166 t742.length co166]] (by rfl) rfl rfl nc_ ?_
     with_reducible refine (impl_MergeBag.calls kj101 _ _ t733 _ _ t736 _ _ t739 _ _ t742 t745 t748 t751 _ ?side1 ?side2 ?side3 ?side4 ?side5 ?side6 ?side7 ?side8 A148.out).mono ?_
     (case side1 => exact kc_ (Kd.R_reads' HO735.out).2.2)
     (case side2 => exact (Kd.R_reads' HO735.out).2.1)
     (case side3 => exact kc_ (Kd.R_reads' HO738.out).2.2)
     (case side4 => exact (Kd.R_reads' HO738.out).2.1)
     (case side5 => exact kc_ (Kd.R_reads' HO741.out).2.2)
     (case side6 => exact (Kd.R_reads' HO741.out).2.1)
     (case side7 => exact kc_ (Kd.R_reads' HO744.out).2.2)
     (case side8 => exact (Kd.R_reads' HO744.out).2.1)
     rintro e w167 ⟨v746, v749, rfl, ho0, ho1, hb⟩
     refine ⟨_, rfl, ?_⟩
     have HO747 := Aside0.mk (Kd.R_lower (rn_ (rn_ (rn_ (rn_ (rn_ (rn_ (rn_ (rn_ (rn_ (rn_ (rn_ (rn_ ho0 HO_685000.out) HO_685001.out) HO_692000.out) HO_692001.out) HO_699000.out) HO_699001.out) HO_707000.out) HO_707001.out) HO735.out) HO738.out) HO741.out) HO744.out) bz_)
     have HO750 := Aside0.mk (Kd.R_lower (rn_ (rn_ (rn_ (rn_ (rn_ (rn_ (rn_ (rn_ (rn_ (rn_ (rn_ (rn_ ho1 HO_685000.out) HO_685001.out) HO_692000.out) HO_692001.out) HO_699000.out) HO_699001.out) HO_707000.out) HO_707001.out) HO735.out) HO738.out) HO741.out) HO744.out) bz_)
     replace HO_685000 := rp2_ HO_685000 hb ho0 ho1
     replace HO_685001 := rp2_ HO_685001 hb ho0 ho1
     replace HO_692000 := rp2_ HO_692000 hb ho0 ho1
     replace HO_692001 := rp2_ HO_692001 hb ho0 ho1
     replace HO_699000 := rp2_ HO_699000 hb ho0 ho1
     replace HO_699001 := rp2_ HO_699001 hb ho0 ho1
     replace HO_707000 := rp2_ HO_707000 hb ho0 ho1
     replace HO_707001 := rp2_ HO_707001 hb ho0 ho1
     replace HO735 := rp2_ HO735 hb ho0 ho1
     replace HO738 := rp2_ HO738 hb ho0 ho1
     replace HO741 := rp2_ HO741 hb ho0 ho1
     replace HO744 := rp2_ HO744 hb ho0 ho1
     replace BK661 := bb_ BK661 hb
     replace BK662 := bb_ BK662 hb
     replace BK684 := bb_ BK684 hb
     replace BK691 := bb_ BK691 hb
     replace BK698 := bb_ BK698 hb
     replace BK706 := bb_ BK706 hb
     replace BK752 := bb_ BK752 hb
     replace HB := Aside0.mk (below_step bl_ hb)
     clear hb ho0 ho1
     refine hK.out _ _ ⟨bc_ BK661.out 0, bc_ BK661.out 1, bc_ BK662.out 0, bc_ BK662.out 1⟩ (fun hHeld => ?_)
     clear hK K
     refine norm_ nn_ ?_
     refine pu_ 5 (some 94) (h := ?_)
     refine pu_ 6 (some 100) (h := ?_)
     refine pu_ 7 (some 101) (h := ?_)
     exact norm_ (by simp only [putAll, Act.put, List.setIfInBounds_toArray, List.set_cons_zero, List.set_cons_succ]) (hCont (.slice Ao163 t733.length co163, .slice Ao164 t736.length co164, .slice Ao165 t739.length co165, .slice Ao166 t742.length co166, v746, v749, gb752) _ ⟨hHeld, kp_ HO735.out, kp_ HO738.out, kp_ HO741.out, kp_ HO744.out, kp_ HO747.out, kp_ HO750.out, kp_ HO_685000.out, kp_ HO_685001.out, kp_ HO_692000.out, kp_ HO_692001.out, kp_ HO_699000.out, kp_ HO_699001.out, kp_ HO_707000.out, kp_ HO_707001.out, kb_ BK661.out, kb_ BK662.out, kb_ BK684.out, kb_ BK691.out, kb_ BK698.out, kb_ BK706.out, kb_ BK752.out, GW752.out, GE752.out, NB661_752.out, NB752_661.out, NB662_752.out, NB752_662.out, NB684_752.out, NB752_684.out, NB691_752.out, NB752_691.out, NB698_752.out, NB752_698.out, NB706_752.out, NB752_706.out, bl_⟩)
   ·skip
    refine box_step rfl (N := 15) rfl (cs := #[.slice none 0 0, .slice none 0 0]) (t := 29) gs_ ?_
    intro gb752 hg w161 hbox hb
    replace HO_685000 := rb_ HO_685000 hb
    replace HO_685001 := rb_ HO_685001 hb
    replace HO_692000 := rb_ HO_692000 hb
    replace HO_692001 := rb_ HO_692001 hb
    replace HO_699000 := rb_ HO_699000 hb
    replace HO_699001 := rb_ HO_699001 hb
    replace HO_707000 := rb_ HO_707000 hb
    replace HO_707001 := rb_ HO_707001 hb
    replace HO735 := rb_ HO735 hb
    replace HO738 := rb_ HO738 hb
    have BK752 := Aside0.mk (hbox)
    have GW752 := Aside0.mk ((by rw [hg]; exact bz_ : w.heap.size ≤ gb752))
    have GE752 := GW752
    replace HB := Aside0.mk (below_step bl_ hb)
    have NB661_752 := nl_ hg BK661
    have NB752_661 := nm_ hg BK661
    replace BK661 := bb_ BK661 hb
    have NB662_752 := nl_ hg BK662
    have NB752_662 := nm_ hg BK662
    replace BK662 := bb_ BK662 hb
    have NB684_752 := nl_ hg BK684
    have NB752_684 := nm_ hg BK684
    replace BK684 := bb_ BK684 hb
    have NB691_752 := nl_ hg BK691
    have NB752_691 := nm_ hg BK691
    replace BK691 := bb_ BK691 hb
    have NB698_752 := nl_ hg BK698
    have NB752_698 := nm_ hg BK698
    replace BK698 := bb_ BK698 hb
    have NB706_752 := nl_ hg BK706
    have NB752_706 := nm_ hg BK706
    replace BK706 := bb_ BK706 hb
    clear hb hbox hg
    refine hK.out _ _ ⟨bc_ BK661.out 0, bc_ BK661.out 1, bc_ BK662.out 0, bc_ BK662.out 1⟩ (fun hHeld => ?_)
    clear hK K
    refine norm_ nn_ ?_
    refine on_ 3 (some 98) (h := fun K hK => ?_)
    refine goes_ Try.func10 (by kernel_rfl) rfl #[.agg #[.slice A1_0 l1_0.length c1_0, .slice A1_1 l1_1.length c1_1]] (by rfl) rfl rfl nc_ ?_
    with_reducible refine (laws_toBag.calls kj101 _ _ l1_0 _ _ l1_1 t739 t742 _ ?side1 ?side2 ?side3 ?side4 A147.out).mono ?_
    (case side1 => exact kc_ (Kd.C_below HR1_0.out HB.out))
    (case side2 => exact HC1_0.out)
    (case side3 => exact kc_ (Kd.C_below HR1_1.out HB.out))
    (case side4 => exact HC1_1.out)
    rintro e w162 ⟨v740, v743, rfl, ho0, ho1, hb⟩
    refine ⟨_, rfl, ?_⟩
    have HO741 := Aside0.mk (Kd.R_lower (rn_ (rn_ (rn_ (rn_ (rn_ (rn_ (rn_ (rn_ (rn_ (rn_ ho0 HO_685000.out) HO_685001.out) HO_692000.out) HO_692001.out) HO_699000.out) HO_699001.out) HO_707000.out) HO_707001.out) HO735.out) HO738.out) bz_)
    have HO744 := Aside0.mk (Kd.R_lower (rn_ (rn_ (rn_ (rn_ (rn_ (rn_ (rn_ (rn_ (rn_ (rn_ ho1 HO_685000.out) HO_685001.out) HO_692000.out) HO_692001.out) HO_699000.out) HO_699001.out) HO_707000.out) HO_707001.out) HO735.out) HO738.out) bz_)
    replace HO_685000 := rp2_ HO_685000 hb ho0 ho1
    replace HO_685001 := rp2_ HO_685001 hb ho0 ho1
    replace HO_692000 := rp2_ HO_692000 hb ho0 ho1
    replace HO_692001 := rp2_ HO_692001 hb ho0 ho1
    replace HO_699000 := rp2_ HO_699000 hb ho0 ho1
    replace HO_699001 := rp2_ HO_699001 hb ho0 ho1
    replace HO_707000 := rp2_ HO_707000 hb ho0 ho1
    replace HO_707001 := rp2_ HO_707001 hb ho0 ho1
    replace HO735 := rp2_ HO735 hb ho0 ho1
    replace HO738 := rp2_ HO738 hb ho0 ho1
    replace BK661 := bb_ BK661 hb
    replace BK662 := bb_ BK662 hb
    replace BK684 := bb_ BK684 hb
    replace BK691 := bb_ BK691 hb
    replace BK698 := bb_ BK698 hb
    replace BK706 := bb_ BK706 hb
    replace BK752 := bb_ BK752 hb
    replace HB := Aside0.mk (below_step bl_ hb)
    clear hb ho0 ho1
    obtain ⟨Ao163, co163, eo163⟩ := Kd.R_slice HO735.out
    (first | subst eo163 | (injection eo163 with f1_ f2_ f3_; have f4_ := f1_.symm; have f5_ := f3_.symm; clear f1_ f2_ f3_; subst f4_; subst f5_))
    obtain ⟨Ao164, co164, eo164⟩ := Kd.R_slice HO738.out
    (first | subst eo164 | (injection eo164 with f1_ f2_ f3_; have f4_ := f1_.symm; have f5_ := f3_.symm; clear f1_ f2_ f3_; subst f4_; subst f5_))
    obtain ⟨Ao165, co165, eo165⟩ := Kd.R_slice HO741.out
    (first | subst eo165 | (injection eo165 with f1_ f2_ f3_; have f4_ := f1_.symm; have f5_ := f3_.symm; clear f1_ f2_ f3_; subst f4_; subst f5_))
    obtain ⟨Ao166, co166, eo166⟩ := Kd.R_slice HO744.out
    (first | subst eo166 | (injection eo166 with f1_ f2_ f3_; have f4_ := f1_.symm; have f5_ := f3_.symm; clear f1_ f2_ f3_; subst f4_; subst f5_))
    refine hK.out _ _ ⟨bc_ BK661.out 0, bc_ BK661.out 1, bc_ BK662.out 0, bc_ BK662.out 1⟩ (fun hHeld => ?_)
    clear hK K
    refine norm_ nn_ ?_
    refine on_ 4 (some 99) (h := fun K hK => ?_)
    refine goes_ Try.func18 (by kernel_rfl) rfl #[.agg #[.slice Ao163 t733.length co163, .slice Ao164 t736.length co164], .agg #[.slice Ao165 t739.length co165, .slice Ao166 t742.length co166]] (by rfl) rfl rfl nc_ ?_
    with_reducible refine (impl_MergeBag.calls kj101 _ _ t733 _ _ t736 _ _ t739 _ _ t742 t745 t748 t751 _ ?side1 ?side2 ?side3 ?side4 ?side5 ?side6 ?side7 ?side8 A148.out).mono ?_
    (case side1 => exact kc_ (Kd.R_reads' HO735.out).2.2)
    (case side2 => exact (Kd.R_reads' HO735.out).2.1)
    (case side3 => exact kc_ (Kd.R_reads' HO738.out).2.2)
    (case side4 => exact (Kd.R_reads' HO738.out).2.1)
    (case side5 => exact kc_ (Kd.R_reads' HO741.out).2.2)
    (case side6 => exact (Kd.R_reads' HO741.out).2.1)
    (case side7 => exact kc_ (Kd.R_reads' HO744.out).2.2)
    (case side8 => exact (Kd.R_reads' HO744.out).2.1)
    rintro e w167 ⟨v746, v749, rfl, ho0, ho1, hb⟩
    refine ⟨_, rfl, ?_⟩
    have HO747 := Aside0.mk (Kd.R_lower (rn_ (rn_ (rn_ (rn_ (rn_ (rn_ (rn_ (rn_ (rn_ (rn_ (rn_ (rn_ ho0 HO_685000.out) HO_685001.out) HO_692000.out) HO_692001.out) HO_699000.out) HO_699001.out) HO_707000.out) HO_707001.out) HO735.out) HO738.out) HO741.out) HO744.out) bz_)
    have HO750 := Aside0.mk (Kd.R_lower (rn_ (rn_ (rn_ (rn_ (rn_ (rn_ (rn_ (rn_ (rn_ (rn_ (rn_ (rn_ ho1 HO_685000.out) HO_685001.out) HO_692000.out) HO_692001.out) HO_699000.out) HO_699001.out) HO_707000.out) HO_707001.out) HO735.out) HO738.out) HO741.out) HO744.out) bz_)
    replace HO_685000 := rp2_ HO_685000 hb ho0 ho1
    replace HO_685001 := rp2_ HO_685001 hb ho0 ho1
    replace HO_692000 := rp2_ HO_692000 hb ho0 ho1
    replace HO_692001 := rp2_ HO_692001 hb ho0 ho1
    replace HO_699000 := rp2_ HO_699000 hb ho0 ho1
    replace HO_699001 := rp2_ HO_699001 hb ho0 ho1
    replace HO_707000 := rp2_ HO_707000 hb ho0 ho1
    replace HO_707001 := rp2_ HO_707001 hb ho0 ho1
    replace HO735 := rp2_ HO735 hb ho0 ho1
    replace HO738 := rp2_ HO738 hb ho0 ho1
    replace HO741 := rp2_ HO741 hb ho0 ho1
    replace HO744 := rp2_ HO744 hb ho0 ho1
    replace BK661 := bb_ BK661 hb
    replace BK662 := bb_ BK662 hb
    replace BK684 := bb_ BK684 hb
    replace BK691 := bb_ BK691 hb
    replace BK698 := bb_ BK698 hb
    replace BK706 := bb_ BK706 hb
    replace BK752 := bb_ BK752 hb
    replace HB := Aside0.mk (below_step bl_ hb)
    clear hb ho0 ho1
    refine hK.out _ _ ⟨bc_ BK661.out 0, bc_ BK661.out 1, bc_ BK662.out 0, bc_ BK662.out 1⟩ (fun hHeld => ?_)
    clear hK K
    refine norm_ nn_ ?_
    refine pu_ 5 (some 94) (h := ?_)
    refine pu_ 6 (some 100) (h := ?_)
    refine pu_ 7 (some 101) (h := ?_)
    exact norm_ (by simp only [putAll, Act.put, List.setIfInBounds_toArray, List.set_cons_zero, List.set_cons_succ]) (hCont (.slice Ao163 t733.length co163, .slice Ao164 t736.length co164, .slice Ao165 t739.length co165, .slice Ao166 t742.length co166, v746, v749, gb752) _ ⟨hHeld, kp_ HO735.out, kp_ HO738.out, kp_ HO741.out, kp_ HO744.out, kp_ HO747.out, kp_ HO750.out, kp_ HO_685000.out, kp_ HO_685001.out, kp_ HO_692000.out, kp_ HO_692001.out, kp_ HO_699000.out, kp_ HO_699001.out, kp_ HO_707000.out, kp_ HO_707001.out, kb_ BK661.out, kb_ BK662.out, kb_ BK684.out, kb_ BK691.out, kb_ BK698.out, kb_ BK706.out, kb_ BK752.out, GW752.out, GE752.out, NB661_752.out, NB752_661.out, NB662_752.out, NB752_662.out, NB684_752.out, NB752_684.out, NB691_752.out, NB752_691.out, NB698_752.out, NB752_698.out, NB706_752.out, NB752_706.out, bl_⟩)
  ·skip
   refine box_step rfl (N := 15) rfl (cs := #[.slice none 0 0, .slice none 0 0]) (t := 29) gs_ ?_
   intro gb752 hg w160 hbox hb
   replace HO_685000 := rb_ HO_685000 hb
   replace HO_685001 := rb_ HO_685001 hb
   replace HO_692000 := rb_ HO_692000 hb
   replace HO_692001 := rb_ HO_692001 hb
   replace HO_699000 := rb_ HO_699000 hb
   replace HO_699001 := rb_ HO_699001 hb
   replace HO_707000 := rb_ HO_707000 hb
   replace HO_707001 := rb_ HO_707001 hb
   have BK752 := Aside0.mk (hbox)
   have GW752 := Aside0.mk ((by rw [hg]; exact bz_ : w.heap.size ≤ gb752))
   have GE752 := GW752
   replace HB := Aside0.mk (below_step bl_ hb)
   have NB661_752 := nl_ hg BK661
   have NB752_661 := nm_ hg BK661
   replace BK661 := bb_ BK661 hb
   have NB662_752 := nl_ hg BK662
   have NB752_662 := nm_ hg BK662
   replace BK662 := bb_ BK662 hb
   have NB684_752 := nl_ hg BK684
   have NB752_684 := nm_ hg BK684
   replace BK684 := bb_ BK684 hb
   have NB691_752 := nl_ hg BK691
   have NB752_691 := nm_ hg BK691
   replace BK691 := bb_ BK691 hb
   have NB698_752 := nl_ hg BK698
   have NB752_698 := nm_ hg BK698
   replace BK698 := bb_ BK698 hb
   have NB706_752 := nl_ hg BK706
   have NB752_706 := nm_ hg BK706
   replace BK706 := bb_ BK706 hb
   clear hb hbox hg
   refine hK.out _ _ ⟨bc_ BK661.out 0, bc_ BK661.out 1, bc_ BK662.out 0, bc_ BK662.out 1⟩ (fun hHeld => ?_)
   clear hK K
   refine norm_ nn_ ?_
   refine on_ 1 (some 96) (h := fun K hK => ?_)
   refine goes_ Try.func10 (by kernel_rfl) rfl #[.agg #[.slice A0_0 l0_0.length c0_0, .slice A0_1 l0_1.length c0_1]] (by rfl) rfl rfl nc_ ?_
   with_reducible refine (laws_toBag.calls kj101 _ _ l0_0 _ _ l0_1 t733 t736 _ ?side1 ?side2 ?side3 ?side4 A146.out).mono ?_
   (case side1 => exact kc_ (Kd.C_below HR0_0.out HB.out))
   (case side2 => exact HC0_0.out)
   (case side3 => exact kc_ (Kd.C_below HR0_1.out HB.out))
   (case side4 => exact HC0_1.out)
   rintro e w161 ⟨v734, v737, rfl, ho0, ho1, hb⟩
   refine ⟨_, rfl, ?_⟩
   have HO735 := Aside0.mk (Kd.R_lower (rn_ (rn_ (rn_ (rn_ (rn_ (rn_ (rn_ (rn_ ho0 HO_685000.out) HO_685001.out) HO_692000.out) HO_692001.out) HO_699000.out) HO_699001.out) HO_707000.out) HO_707001.out) bz_)
   have HO738 := Aside0.mk (Kd.R_lower (rn_ (rn_ (rn_ (rn_ (rn_ (rn_ (rn_ (rn_ ho1 HO_685000.out) HO_685001.out) HO_692000.out) HO_692001.out) HO_699000.out) HO_699001.out) HO_707000.out) HO_707001.out) bz_)
   replace HO_685000 := rp2_ HO_685000 hb ho0 ho1
   replace HO_685001 := rp2_ HO_685001 hb ho0 ho1
   replace HO_692000 := rp2_ HO_692000 hb ho0 ho1
   replace HO_692001 := rp2_ HO_692001 hb ho0 ho1
   replace HO_699000 := rp2_ HO_699000 hb ho0 ho1
   replace HO_699001 := rp2_ HO_699001 hb ho0 ho1
   replace HO_707000 := rp2_ HO_707000 hb ho0 ho1
   replace HO_707001 := rp2_ HO_707001 hb ho0 ho1
   replace BK661 := bb_ BK661 hb
   replace BK662 := bb_ BK662 hb
   replace BK684 := bb_ BK684 hb
   replace BK691 := bb_ BK691 hb
   replace BK698 := bb_ BK698 hb
   replace BK706 := bb_ BK706 hb
   replace BK752 := bb_ BK752 hb
   replace HB := Aside0.mk (below_step bl_ hb)
   clear hb ho0 ho1
   refine hK.out _ _ ⟨bc_ BK661.out 0, bc_ BK661.out 1, bc_ BK662.out 0, bc_ BK662.out 1⟩ (fun hHeld => ?_)
   clear hK K
   refine norm_ nn_ ?_
   refine on_ 3 (some 98) (h := fun K hK => ?_)
   refine goes_ Try.func10 (by kernel_rfl) rfl #[.agg #[.slice A1_0 l1_0.length c1_0, .slice A1_1 l1_1.length c1_1]] (by rfl) rfl rfl nc_ ?_
   with_reducible refine (laws_toBag.calls kj101 _ _ l1_0 _ _ l1_1 t739 t742 _ ?side1 ?side2 ?side3 ?side4 A147.out).mono ?_
   (case side1 => exact kc_ (Kd.C_below HR1_0.out HB.out))
   (case side2 => exact HC1_0.out)
   (case side3 => exact kc_ (Kd.C_below HR1_1.out HB.out))
   (case side4 => exact HC1_1.out)
   rintro e w162 ⟨v740, v743, rfl, ho0, ho1, hb⟩
   refine ⟨_, rfl, ?_⟩
   have HO741 := Aside0.mk (Kd.R_lower (rn_ (rn_ (rn_ (rn_ (rn_ (rn_ (rn_ (rn_ (rn_ (rn_ ho0 HO_685000.out) HO_685001.out) HO_692000.out) HO_692001.out) HO_699000.out) HO_699001.out) HO_707000.out) HO_707001.out) HO735.out) HO738.out) bz_)
   have HO744 := Aside0.mk (Kd.R_lower (rn_ (rn_ (rn_ (rn_ (rn_ (rn_ (rn_ (rn_ (rn_ (rn_ ho1 HO_685000.out) HO_685001.out) HO_692000.out) HO_692001.out) HO_699000.out) HO_699001.out) HO_707000.out) HO_707001.out) HO735.out) HO738.out) bz_)
   replace HO_685000 := rp2_ HO_685000 hb ho0 ho1
   replace HO_685001 := rp2_ HO_685001 hb ho0 ho1
   replace HO_692000 := rp2_ HO_692000 hb ho0 ho1
   replace HO_692001 := rp2_ HO_692001 hb ho0 ho1
   replace HO_699000 := rp2_ HO_699000 hb ho0 ho1
   replace HO_699001 := rp2_ HO_699001 hb ho0 ho1
   replace HO_707000 := rp2_ HO_707000 hb ho0 ho1
   replace HO_707001 := rp2_ HO_707001 hb ho0 ho1
   replace HO735 := rp2_ HO735 hb ho0 ho1
   replace HO738 := rp2_ HO738 hb ho0 ho1
   replace BK661 := bb_ BK661 hb
   replace BK662 := bb_ BK662 hb
   replace BK684 := bb_ BK684 hb
   replace BK691 := bb_ BK691 hb
   replace BK698 := bb_ BK698 hb
   replace BK706 := bb_ BK706 hb
   replace BK752 := bb_ BK752 hb
   replace HB := Aside0.mk (below_step bl_ hb)
   clear hb ho0 ho1
   obtain ⟨Ao163, co163, eo163⟩ := Kd.R_slice HO735.out
   (first | subst eo163 | (injection eo163 with f1_ f2_ f3_; have f4_ := f1_.symm; have f5_ := f3_.symm; clear f1_ f2_ f3_; subst f4_; subst f5_))
   obtain ⟨Ao164, co164, eo164⟩ := Kd.R_slice HO738.out
   (first | subst eo164 | (injection eo164 with f1_ f2_ f3_; have f4_ := f1_.symm; have f5_ := f3_.symm; clear f1_ f2_ f3_; subst f4_; subst f5_))
   obtain ⟨Ao165, co165, eo165⟩ := Kd.R_slice HO741.out
   (first | subst eo165 | (injection eo165 with f1_ f2_ f3_; have f4_ := f1_.symm; have f5_ := f3_.symm; clear f1_ f2_ f3_; subst f4_; subst f5_))
   obtain ⟨Ao166, co166, eo166⟩ := Kd.R_slice HO744.out
   (first | subst eo166 | (injection eo166 with f1_ f2_ f3_; have f4_ := f1_.symm; have f5_ := f3_.symm; clear f1_ f2_ f3_; subst f4_; subst f5_))
   refine hK.out _ _ ⟨bc_ BK661.out 0, bc_ BK661.out 1, bc_ BK662.out 0, bc_ BK662.out 1⟩ (fun hHeld => ?_)
   clear hK K
   refine norm_ nn_ ?_
   refine on_ 4 (some 99) (h := fun K hK => ?_)
   refine goes_ Try.func18 (by kernel_rfl) rfl #[.agg #[.slice Ao163 t733.length co163, .slice Ao164 t736.length co164], .agg #[.slice Ao165 t739.length co165, .slice Ao166 t742.length co166]] (by rfl) rfl rfl nc_ ?_
   with_reducible refine (impl_MergeBag.calls kj101 _ _ t733 _ _ t736 _ _ t739 _ _ t742 t745 t748 t751 _ ?side1 ?side2 ?side3 ?side4 ?side5 ?side6 ?side7 ?side8 A148.out).mono ?_
   (case side1 => exact kc_ (Kd.R_reads' HO735.out).2.2)
   (case side2 => exact (Kd.R_reads' HO735.out).2.1)
   (case side3 => exact kc_ (Kd.R_reads' HO738.out).2.2)
   (case side4 => exact (Kd.R_reads' HO738.out).2.1)
   (case side5 => exact kc_ (Kd.R_reads' HO741.out).2.2)
   (case side6 => exact (Kd.R_reads' HO741.out).2.1)
   (case side7 => exact kc_ (Kd.R_reads' HO744.out).2.2)
   (case side8 => exact (Kd.R_reads' HO744.out).2.1)
   rintro e w167 ⟨v746, v749, rfl, ho0, ho1, hb⟩
   refine ⟨_, rfl, ?_⟩
   have HO747 := Aside0.mk (Kd.R_lower (rn_ (rn_ (rn_ (rn_ (rn_ (rn_ (rn_ (rn_ (rn_ (rn_ (rn_ (rn_ ho0 HO_685000.out) HO_685001.out) HO_692000.out) HO_692001.out) HO_699000.out) HO_699001.out) HO_707000.out) HO_707001.out) HO735.out) HO738.out) HO741.out) HO744.out) bz_)
   have HO750 := Aside0.mk (Kd.R_lower (rn_ (rn_ (rn_ (rn_ (rn_ (rn_ (rn_ (rn_ (rn_ (rn_ (rn_ (rn_ ho1 HO_685000.out) HO_685001.out) HO_692000.out) HO_692001.out) HO_699000.out) HO_699001.out) HO_707000.out) HO_707001.out) HO735.out) HO738.out) HO741.out) HO744.out) bz_)
   replace HO_685000 := rp2_ HO_685000 hb ho0 ho1
   replace HO_685001 := rp2_ HO_685001 hb ho0 ho1
   replace HO_692000 := rp2_ HO_692000 hb ho0 ho1
   replace HO_692001 := rp2_ HO_692001 hb ho0 ho1
   replace HO_699000 := rp2_ HO_699000 hb ho0 ho1
   replace HO_699001 := rp2_ HO_699001 hb ho0 ho1
   replace HO_707000 := rp2_ HO_707000 hb ho0 ho1
   replace HO_707001 := rp2_ HO_707001 hb ho0 ho1
   replace HO735 := rp2_ HO735 hb ho0 ho1
   replace HO738 := rp2_ HO738 hb ho0 ho1
   replace HO741 := rp2_ HO741 hb ho0 ho1
   replace HO744 := rp2_ HO744 hb ho0 ho1
   replace BK661 := bb_ BK661 hb
   replace BK662 := bb_ BK662 hb
   replace BK684 := bb_ BK684 hb
   replace BK691 := bb_ BK691 hb
   replace BK698 := bb_ BK698 hb
   replace BK706 := bb_ BK706 hb
   replace BK752 := bb_ BK752 hb
   replace HB := Aside0.mk (below_step bl_ hb)
   clear hb ho0 ho1
   refine hK.out _ _ ⟨bc_ BK661.out 0, bc_ BK661.out 1, bc_ BK662.out 0, bc_ BK662.out 1⟩ (fun hHeld => ?_)
   clear hK K
   refine norm_ nn_ ?_
   refine pu_ 5 (some 94) (h := ?_)
   refine pu_ 6 (some 100) (h := ?_)
   refine pu_ 7 (some 101) (h := ?_)
   exact norm_ (by simp only [putAll, Act.put, List.setIfInBounds_toArray, List.set_cons_zero, List.set_cons_succ]) (hCont (.slice Ao163 t733.length co163, .slice Ao164 t736.length co164, .slice Ao165 t739.length co165, .slice Ao166 t742.length co166, v746, v749, gb752) _ ⟨hHeld, kp_ HO735.out, kp_ HO738.out, kp_ HO741.out, kp_ HO744.out, kp_ HO747.out, kp_ HO750.out, kp_ HO_685000.out, kp_ HO_685001.out, kp_ HO_692000.out, kp_ HO_692001.out, kp_ HO_699000.out, kp_ HO_699001.out, kp_ HO_707000.out, kp_ HO_707001.out, kb_ BK661.out, kb_ BK662.out, kb_ BK684.out, kb_ BK691.out, kb_ BK698.out, kb_ BK706.out, kb_ BK752.out, GW752.out, GE752.out, NB661_752.out, NB752_661.out, NB662_752.out, NB752_662.out, NB684_752.out, NB752_684.out, NB691_752.out, NB752_691.out, NB698_752.out, NB752_698.out, NB706_752.out, NB752_706.out, bl_⟩)
 rintro ⟨v734, v737, v740, v743, v746, v749, gb752⟩ w168 ⟨hS_, h0_, h1_, h2_, h3_, h4_, h5_, h6_, h7_, h8_, h9_, h10_, h11_, h12_, h13_, h14_, h15_, h16_, h17_, h18_, h19_, h20_, h21_, h22_, h23_, h24_, h25_, h26_, h27_, h28_, h29_, h30_, h31_, h32_, h33_, h34_, h35_⟩
 dsimp only at h0_ h1_ h2_ h3_ h4_ h5_ h6_ h7_ h8_ h9_ h10_ h11_ h12_ h13_ h14_ h15_ h16_ h17_ h18_ h19_ h20_ h21_ h22_ h23_ h24_ h25_ h26_ h27_ h28_ h29_ h30_ h31_ h32_ h33_ h34_ h35_
 have HO735 := Aside0.mk h0_
 have HO738 := Aside0.mk h1_
 have HO741 := Aside0.mk h2_
 have HO744 := Aside0.mk h3_
 have HO747 := Aside0.mk h4_
 have HO750 := Aside0.mk h5_
 replace HO_685000 := Aside0.mk h6_
 replace HO_685001 := Aside0.mk h7_
 replace HO_692000 := Aside0.mk h8_
 replace HO_692001 := Aside0.mk h9_
 replace HO_699000 := Aside0.mk h10_
 replace HO_699001 := Aside0.mk h11_
 replace HO_707000 := Aside0.mk h12_
 replace HO_707001 := Aside0.mk h13_
 replace BK661 := Aside0.mk h14_
 replace BK662 := Aside0.mk h15_
 replace BK684 := Aside0.mk h16_
 replace BK691 := Aside0.mk h17_
 replace BK698 := Aside0.mk h18_
 replace BK706 := Aside0.mk h19_
 have BK752 := Aside0.mk h20_
 have GW752 := Aside0.mk h21_
 have GE752 := Aside0.mk h22_
 have NB661_752 := Aside0.mk h23_
 have NB752_661 := Aside0.mk h24_
 have NB662_752 := Aside0.mk h25_
 have NB752_662 := Aside0.mk h26_
 have NB684_752 := Aside0.mk h27_
 have NB752_684 := Aside0.mk h28_
 have NB691_752 := Aside0.mk h29_
 have NB752_691 := Aside0.mk h30_
 have NB698_752 := Aside0.mk h31_
 have NB752_698 := Aside0.mk h32_
 have NB706_752 := Aside0.mk h33_
 have NB752_706 := Aside0.mk h34_
 replace HB := Aside0.mk h35_
 clear h0_ h1_ h2_ h3_ h4_ h5_ h6_ h7_ h8_ h9_ h10_ h11_ h12_ h13_ h14_ h15_ h16_ h17_ h18_ h19_ h20_ h21_ h22_ h23_ h24_ h25_ h26_ h27_ h28_ h29_ h30_ h31_ h32_ h33_ h34_ h35_
 try dsimp only at hS_
 have hHeld := hS_
 obtain ⟨Ao169, co169, eo169⟩ := Kd.R_slice HO747.out
 (first | subst eo169 | (injection eo169 with f1_ f2_ f3_; have f4_ := f1_.symm; have f5_ := f3_.symm; clear f1_ f2_ f3_; subst f4_; subst f5_))
 obtain ⟨Ao171, co171, eo171⟩ := Kd.R_slice HO750.out
 (first | subst eo171 | (injection eo171 with f1_ f2_ f3_; have f4_ := f1_.symm; have f5_ := f3_.symm; clear f1_ f2_ f3_; subst f4_; subst f5_))
 refine norm_ np_ ?_
 refine on_ 9 none (h := fun K hK => ?_)
 have hs170 : w168.cell? ⟨gb752, 0, none⟩ = some (.slice none 0 0) := bc_ BK752.out 0
 have hfs170 := blk_frozen BK752.out 0
 have hns170_0 := NB661_752.out
 have hns170_1 := NB662_752.out
 have hns170_2 := NB684_752.out
 have hns170_3 := NB691_752.out
 have hns170_4 := NB698_752.out
 have hns170_5 := NB706_752.out
 have hms170_0 := NB752_661.out
 have hms170_1 := NB752_662.out
 have hms170_2 := NB752_684.out
 have hms170_3 := NB752_691.out
 have hms170_4 := NB752_698.out
 have hms170_5 := NB752_706.out
 have hs172 : w168.cell? ⟨gb752, 1, none⟩ = some (.slice none 0 0) := bc_ BK752.out 1
 have hfs172 := blk_frozen BK752.out 1
 have hns172_0 := NB661_752.out
 have hns172_1 := NB662_752.out
 have hns172_2 := NB684_752.out
 have hns172_3 := NB691_752.out
 have hns172_4 := NB698_752.out
 have hns172_5 := NB706_752.out
 have hms172_0 := NB752_661.out
 have hms172_1 := NB752_662.out
 have hms172_2 := NB752_684.out
 have hms172_3 := NB752_691.out
 have hms172_4 := NB752_698.out
 have hms172_5 := NB752_706.out
 refine skip_ (w1 := ?_) (by rfl) rfl ?_ ?_
 rotate_left
 ·go_simp
  rfl
 refine hK.out _ _ ⟨((cell_far (p := ⟨gb752, _, none⟩) NB661_752.out _).trans (((cell_far (p := ⟨gb752, _, none⟩) NB661_752.out _).trans (hHeld.1)))), ((cell_far (p := ⟨gb752, _, none⟩) NB661_752.out _).trans (((cell_far (p := ⟨gb752, _, none⟩) NB661_752.out _).trans (hHeld.2.1)))), ((cell_far (p := ⟨gb752, _, none⟩) NB662_752.out _).trans (((cell_far (p := ⟨gb752, _, none⟩) NB662_752.out _).trans (hHeld.2.2.1)))), ((cell_far (p := ⟨gb752, _, none⟩) NB662_752.out _).trans (((cell_far (p := ⟨gb752, _, none⟩) NB662_752.out _).trans (hHeld.2.2.2))))⟩ (fun hHeld => ?_)
 clear hK K
 refine pu_ 10 (some 16) (h := ?_)
 refine done_ (done_of HT_.out (by kernel_rfl)) ?_
 go_upto_region 32 with (fail)
 go_cut [110] (fun v110 wc => ∃ (kq : Nat) (x110_148 : Bool), v110 = .bool x110_148 ∧ Aside0 (laws_FnExactMergeBag.j2 kq t729 x110_148 t730 t731 = some r) ∧ Aside0 (kq ≤ kj101) ∧ Aside0 (Kd.R k48 48 wc w.heap.size (fun k_ => some k_ ≠ ((.slice Ao45 t680.length co45) : Value).ownBlock ∧ some k_ ≠ ((.slice Ao51 t723.length co51) : Value).ownBlock ∧ some k_ ≠ ((.slice Ao56 t724.length co56) : Value).ownBlock ∧ some k_ ≠ ((.slice Ao61 t726.length co61) : Value).ownBlock ∧ some k_ ≠ ((.slice Ao67 t727.length co67) : Value).ownBlock ∧ some k_ ≠ ((.slice Ao71 t699.length co71) : Value).ownBlock ∧ some k_ ≠ ((.slice Ao78 t702.length co78) : Value).ownBlock ∧ some k_ ≠ ((.slice Ao169 t745.length co169) : Value).ownBlock ∧ some k_ ≠ ((.slice Ao171 t748.length co171) : Value).ownBlock) (.slice Ao43 t677.length co43) t677) ∧ Aside0 (Kd.R k48 48 wc w.heap.size (fun k_ => some k_ ≠ ((.slice Ao43 t677.length co43) : Value).ownBlock ∧ some k_ ≠ ((.slice Ao51 t723.length co51) : Value).ownBlock ∧ some k_ ≠ ((.slice Ao56 t724.length co56) : Value).ownBlock ∧ some k_ ≠ ((.slice Ao61 t726.length co61) : Value).ownBlock ∧ some k_ ≠ ((.slice Ao67 t727.length co67) : Value).ownBlock ∧ some k_ ≠ ((.slice Ao71 t699.length co71) : Value).ownBlock ∧ some k_ ≠ ((.slice Ao78 t702.length co78) : Value).ownBlock ∧ some k_ ≠ ((.slice Ao169 t745.length co169) : Value).ownBlock ∧ some k_ ≠ ((.slice Ao171 t748.length co171) : Value).ownBlock) (.slice Ao45 t680.length co45) t680) ∧ Aside0 (Kd.R k48 48 wc w.heap.size (fun k_ => some k_ ≠ ((.slice Ao43 t677.length co43) : Value).ownBlock ∧ some k_ ≠ ((.slice Ao45 t680.length co45) : Value).ownBlock ∧ some k_ ≠ ((.slice Ao56 t724.length co56) : Value).ownBlock ∧ some k_ ≠ ((.slice Ao61 t726.length co61) : Value).ownBlock ∧ some k_ ≠ ((.slice Ao67 t727.length co67) : Value).ownBlock ∧ some k_ ≠ ((.slice Ao71 t699.length co71) : Value).ownBlock ∧ some k_ ≠ ((.slice Ao78 t702.length co78) : Value).ownBlock ∧ some k_ ≠ ((.slice Ao169 t745.length co169) : Value).ownBlock ∧ some k_ ≠ ((.slice Ao171 t748.length co171) : Value).ownBlock) (.slice Ao51 t723.length co51) t723) ∧ Aside0 (Kd.R k48 48 wc w.heap.size (fun k_ => some k_ ≠ ((.slice Ao43 t677.length co43) : Value).ownBlock ∧ some k_ ≠ ((.slice Ao45 t680.length co45) : Value).ownBlock ∧ some k_ ≠ ((.slice Ao51 t723.length co51) : Value).ownBlock ∧ some k_ ≠ ((.slice Ao61 t726.length co61) : Value).ownBlock ∧ some k_ ≠ ((.slice Ao67 t727.length co67) : Value).ownBlock ∧ some k_ ≠ ((.slice Ao71 t699.length co71) : Value).ownBlock ∧ some k_ ≠ ((.slice Ao78 t702.length co78) : Value).ownBlock ∧ some k_ ≠ ((.slice Ao169 t745.length co169) : Value).ownBlock ∧ some k_ ≠ ((.slice Ao171 t748.length co171) : Value).ownBlock) (.slice Ao56 t724.length co56) t724) ∧ Aside0 (Kd.R k48 48 wc w.heap.size (fun k_ => some k_ ≠ ((.slice Ao43 t677.length co43) : Value).ownBlock ∧ some k_ ≠ ((.slice Ao45 t680.length co45) : Value).ownBlock ∧ some k_ ≠ ((.slice Ao51 t723.length co51) : Value).ownBlock ∧ some k_ ≠ ((.slice Ao56 t724.length co56) : Value).ownBlock ∧ some k_ ≠ ((.slice Ao67 t727.length co67) : Value).ownBlock ∧ some k_ ≠ ((.slice Ao71 t699.length co71) : Value).ownBlock ∧ some k_ ≠ ((.slice Ao78 t702.length co78) : Value).ownBlock ∧ some k_ ≠ ((.slice Ao169 t745.length co169) : Value).ownBlock ∧ some k_ ≠ ((.slice Ao171 t748.length co171) : Value).ownBlock) (.slice Ao61 t726.length co61) t726) ∧ Aside0 (Kd.R k48 48 wc w.heap.size (fun k_ => some k_ ≠ ((.slice Ao43 t677.length co43) : Value).ownBlock ∧ some k_ ≠ ((.slice Ao45 t680.length co45) : Value).ownBlock ∧ some k_ ≠ ((.slice Ao51 t723.length co51) : Value).ownBlock ∧ some k_ ≠ ((.slice Ao56 t724.length co56) : Value).ownBlock ∧ some k_ ≠ ((.slice Ao61 t726.length co61) : Value).ownBlock ∧ some k_ ≠ ((.slice Ao71 t699.length co71) : Value).ownBlock ∧ some k_ ≠ ((.slice Ao78 t702.length co78) : Value).ownBlock ∧ some k_ ≠ ((.slice Ao169 t745.length co169) : Value).ownBlock ∧ some k_ ≠ ((.slice Ao171 t748.length co171) : Value).ownBlock) (.slice Ao67 t727.length co67) t727) ∧ Aside0 (Kd.R k48 48 wc w.heap.size (fun k_ => some k_ ≠ ((.slice Ao43 t677.length co43) : Value).ownBlock ∧ some k_ ≠ ((.slice Ao45 t680.length co45) : Value).ownBlock ∧ some k_ ≠ ((.slice Ao51 t723.length co51) : Value).ownBlock ∧ some k_ ≠ ((.slice Ao56 t724.length co56) : Value).ownBlock ∧ some k_ ≠ ((.slice Ao61 t726.length co61) : Value).ownBlock ∧ some k_ ≠ ((.slice Ao67 t727.length co67) : Value).ownBlock ∧ some k_ ≠ ((.slice Ao78 t702.length co78) : Value).ownBlock ∧ some k_ ≠ ((.slice Ao169 t745.length co169) : Value).ownBlock ∧ some k_ ≠ ((.slice Ao171 t748.length co171) : Value).ownBlock) (.slice Ao71 t699.length co71) t730) ∧ Aside0 (Kd.R k48 48 wc w.heap.size (fun k_ => some k_ ≠ ((.slice Ao43 t677.length co43) : Value).ownBlock ∧ some k_ ≠ ((.slice Ao45 t680.length co45) : Value).ownBlock ∧ some k_ ≠ ((.slice Ao51 t723.length co51) : Value).ownBlock ∧ some k_ ≠ ((.slice Ao56 t724.length co56) : Value).ownBlock ∧ some k_ ≠ ((.slice Ao61 t726.length co61) : Value).ownBlock ∧ some k_ ≠ ((.slice Ao67 t727.length co67) : Value).ownBlock ∧ some k_ ≠ ((.slice Ao71 t699.length co71) : Value).ownBlock ∧ some k_ ≠ ((.slice Ao169 t745.length co169) : Value).ownBlock ∧ some k_ ≠ ((.slice Ao171 t748.length co171) : Value).ownBlock) (.slice Ao78 t702.length co78) t731) ∧ Aside0 (Kd.R k48 48 wc w.heap.size (fun k_ => some k_ ≠ ((.slice Ao43 t677.length co43) : Value).ownBlock ∧ some k_ ≠ ((.slice Ao45 t680.length co45) : Value).ownBlock ∧ some k_ ≠ ((.slice Ao51 t723.length co51) : Value).ownBlock ∧ some k_ ≠ ((.slice Ao56 t724.length co56) : Value).ownBlock ∧ some k_ ≠ ((.slice Ao61 t726.length co61) : Value).ownBlock ∧ some k_ ≠ ((.slice Ao67 t727.length co67) : Value).ownBlock ∧ some k_ ≠ ((.slice Ao71 t699.length co71) : Value).ownBlock ∧ some k_ ≠ ((.slice Ao78 t702.length co78) : Value).ownBlock ∧ some k_ ≠ ((.slice Ao171 t748.length co171) : Value).ownBlock) (.slice Ao169 t745.length co169) t745) ∧ Aside0 (Kd.R k48 48 wc w.heap.size (fun k_ => some k_ ≠ ((.slice Ao43 t677.length co43) : Value).ownBlock ∧ some k_ ≠ ((.slice Ao45 t680.length co45) : Value).ownBlock ∧ some k_ ≠ ((.slice Ao51 t723.length co51) : Value).ownBlock ∧ some k_ ≠ ((.slice Ao56 t724.length co56) : Value).ownBlock ∧ some k_ ≠ ((.slice Ao61 t726.length co61) : Value).ownBlock ∧ some k_ ≠ ((.slice Ao67 t727.length co67) : Value).ownBlock ∧ some k_ ≠ ((.slice Ao71 t699.length co71) : Value).ownBlock ∧ some k_ ≠ ((.slice Ao78 t702.length co78) : Value).ownBlock ∧ some k_ ≠ ((.slice Ao169 t745.length co169) : Value).ownBlock) (.slice Ao171 t748.length co171) t748) ∧ Aside0 (wc.heap[gb661]? = some (.cells #[(.slice A0_0 l0_0.length c0_0), (.slice A0_1 l0_1.length c0_1)] 24 (0, 0))) ∧ Aside0 (wc.heap[gb662]? = some (.cells #[(.slice A1_0 l1_0.length c1_0), (.slice A1_1 l1_1.length c1_1)] 24 (0, 0))) ∧ Aside0 (wc.heap[gb684]? = some (.cells #[(.slice Ao43 t677.length co43), (.slice Ao45 t680.length co45)] 29 (0, 0))) ∧ Aside0 (wc.heap[gb691]? = some (.cells #[(.slice Ao51 t723.length co51), (.slice Ao56 t724.length co56)] 29 (0, 0))) ∧ Aside0 (wc.heap[gb698]? = some (.cells #[(.slice Ao61 t726.length co61), (.slice Ao67 t727.length co67)] 29 (0, 0))) ∧ Aside0 (wc.heap[gb706]? = some (.cells #[(.slice Ao71 t699.length co71), (.slice Ao78 t702.length co78)] 29 (0, 0))) ∧ Aside0 (wc.heap[gb752]? = some (.cells #[(.slice Ao169 t745.length co169), (.slice Ao171 t748.length co171)] 29 (0, 0))) ∧ Aside0 (Below w.heap.size w wc))
 case first =>
  have H := HC149.out
  clear HC149
  replace H := Option.bind_eq_some_iff.mp H
  obtain ⟨t753, A1730, H⟩ := H
  replace H : (if t753 = true then (laws_FnExactMergeBag.j2 kj101 t729 (t751 != t683) t730 t731) else (none)) = some r := H
  have A173 := Aside0.mk A1730
  clear A1730
  by_cases c174 : t753 = true
  rotate_left
  ·replace c174 := Bool.eq_false_iff.mpr c174
   subst c174
   have H1 : (none) = some r := by rw [if_neg (show ¬ (false = true) by decide)] at H; exact H
   clear H
   have H := H1
   clear H1
   exact absurd H (by simp)
  subst c174
  have H1 : (laws_FnExactMergeBag.j2 kj101 t729 (t751 != t683) t730 t731) = some r := by rw [if_pos rfl] at H; exact H
  clear H
  have H := H1
  clear H1
  have H' := Aside0.mk H
  clear H
  have hnb175 := NB752_661.out
  have hnc175 := NB661_752.out
  have hnb176 := NB752_662.out
  have hnc176 := NB662_752.out
  have hnb177 := NB752_684.out
  have hnc177 := NB684_752.out
  have hnb178 := NB752_691.out
  have hnc178 := NB691_752.out
  have hnb179 := NB752_698.out
  have hnc179 := NB698_752.out
  have hnb180 := NB752_706.out
  have hnc180 := NB706_752.out
  have hcz181_0 : w168.cell? ⟨gb752, 0, none⟩ = some (.slice none 0 0) := bc_ BK752.out 0
  have hcz181_1 : w168.cell? ⟨gb752, 1, none⟩ = some (.slice none 0 0) := bc_ BK752.out 1
  have hfz181_0 := blk_frozen BK752.out 0
  have hfz181_1 := blk_frozen BK752.out 1
  have hnb182 := NB684_661.out
  have hnc182 := NB661_684.out
  have hnb183 := NB684_662.out
  have hnc183 := NB662_684.out
  have hnb184 := NB684_691.out
  have hnc184 := NB691_684.out
  have hnb185 := NB684_698.out
  have hnc185 := NB698_684.out
  have hnb186 := NB684_706.out
  have hnc186 := NB706_684.out
  have hcz187_0 : w168.cell? ⟨gb684, 0, none⟩ = some (.slice Ao43 t677.length co43) := bc_ BK684.out 0
  have hcz187_1 : w168.cell? ⟨gb684, 1, none⟩ = some (.slice Ao45 t680.length co45) := bc_ BK684.out 1
  have hfz187_0 := blk_frozen BK684.out 0
  have hfz187_1 := blk_frozen BK684.out 1
  go_wp2_with (first | ((with_reducible refine gate_callee (f := 12) rfl ?_); refine goesL_ (some 104) rfl rfl Try.func12 (by kernel_rfl) rfl #[.agg #[.slice Ao169 t745.length co169, .slice Ao171 t748.length co171], .agg #[.slice Ao43 t677.length co43, .slice Ao45 t680.length co45]] rfl nc_ ?_; (with_reducible refine (laws_eqBag.calls kj101 _ _ t745 _ _ t748 _ _ t677 _ _ t680 true _ ?side1 ?side2 ?side3 ?side4 ?side5 ?side6 ?side7 ?side8 A173.out).mono ?_); (case side1 => exact (Kd.R_reads' (kr_ (rs2_ HO747.out BK752.out (.slice Ao169 t745.length co169) (.slice Ao171 t748.length co171)))).2.2); (case side2 => exact (Kd.R_reads' HO747.out).2.1); (case side3 => exact (Kd.R_reads' (kr_ (rs2_ HO750.out BK752.out (.slice Ao169 t745.length co169) (.slice Ao171 t748.length co171)))).2.2); (case side4 => exact (Kd.R_reads' HO750.out).2.1); (case side5 => exact (Kd.R_reads' (kr_ (rs2_ HO_685000.out BK752.out (.slice Ao169 t745.length co169) (.slice Ao171 t748.length co171)))).2.2); (case side6 => exact (Kd.R_reads' HO_685000.out).2.1); (case side7 => exact (Kd.R_reads' (kr_ (rs2_ HO_685001.out BK752.out (.slice Ao169 t745.length co169) (.slice Ao171 t748.length co171)))).2.2); (case side8 => exact (Kd.R_reads' HO_685001.out).2.1); rintro e w188 ⟨rfl, hb⟩; refine ⟨_, rfl, ?_⟩; replace HO_685000 := Aside0.mk (Kd.R_below (kr_ (rs2_ HO_685000.out BK752.out (.slice Ao169 t745.length co169) (.slice Ao171 t748.length co171))) hb); replace HO_685001 := Aside0.mk (Kd.R_below (kr_ (rs2_ HO_685001.out BK752.out (.slice Ao169 t745.length co169) (.slice Ao171 t748.length co171))) hb); replace HO_692000 := Aside0.mk (Kd.R_below (kr_ (rs2_ HO_692000.out BK752.out (.slice Ao169 t745.length co169) (.slice Ao171 t748.length co171))) hb); replace HO_692001 := Aside0.mk (Kd.R_below (kr_ (rs2_ HO_692001.out BK752.out (.slice Ao169 t745.length co169) (.slice Ao171 t748.length co171))) hb); replace HO_699000 := Aside0.mk (Kd.R_below (kr_ (rs2_ HO_699000.out BK752.out (.slice Ao169 t745.length co169) (.slice Ao171 t748.length co171))) hb); replace HO_699001 := Aside0.mk (Kd.R_below (kr_ (rs2_ HO_699001.out BK752.out (.slice Ao169 t745.length co169) (.slice Ao171 t748.length co171))) hb); replace HO_707000 := Aside0.mk (Kd.R_below (kr_ (rs2_ HO_707000.out BK752.out (.slice Ao169 t745.length co169) (.slice Ao171 t748.length co171))) hb); replace HO_707001 := Aside0.mk (Kd.R_below (kr_ (rs2_ HO_707001.out BK752.out (.slice Ao169 t745.length co169) (.slice Ao171 t748.length co171))) hb); replace HO735 := Aside0.mk (Kd.R_below (kr_ (rs2_ HO735.out BK752.out (.slice Ao169 t745.length co169) (.slice Ao171 t748.length co171))) hb); replace HO738 := Aside0.mk (Kd.R_below (kr_ (rs2_ HO738.out BK752.out (.slice Ao169 t745.length co169) (.slice Ao171 t748.length co171))) hb); replace HO741 := Aside0.mk (Kd.R_below (kr_ (rs2_ HO741.out BK752.out (.slice Ao169 t745.length co169) (.slice Ao171 t748.length co171))) hb); replace HO744 := Aside0.mk (Kd.R_below (kr_ (rs2_ HO744.out BK752.out (.slice Ao169 t745.length co169) (.slice Ao171 t748.length co171))) hb); replace HO747 := Aside0.mk (Kd.R_below (kr_ (rs2_ HO747.out BK752.out (.slice Ao169 t745.length co169) (.slice Ao171 t748.length co171))) hb); replace HO750 := Aside0.mk (Kd.R_below (kr_ (rs2_ HO750.out BK752.out (.slice Ao169 t745.length co169) (.slice Ao171 t748.length co171))) hb); replace BK661 := Aside0.mk (blk_below (g := gb661) (o := .cells #[.slice A0_0 l0_0.length c0_0, .slice A0_1 l0_1.length c0_1] 24 (0, 0)) kz_ hb); replace BK662 := Aside0.mk (blk_below (g := gb662) (o := .cells #[.slice A1_0 l1_0.length c1_0, .slice A1_1 l1_1.length c1_1] 24 (0, 0)) kz_ hb); replace BK684 := Aside0.mk (blk_below (g := gb684) (o := .cells #[.slice Ao43 t677.length co43, .slice Ao45 t680.length co45] 29 (0, 0)) kz_ hb); replace BK691 := Aside0.mk (blk_below (g := gb691) (o := .cells #[.slice Ao51 t723.length co51, .slice Ao56 t724.length co56] 29 (0, 0)) kz_ hb); replace BK698 := Aside0.mk (blk_below (g := gb698) (o := .cells #[.slice Ao61 t726.length co61, .slice Ao67 t727.length co67] 29 (0, 0)) kz_ hb); replace BK706 := Aside0.mk (blk_below (g := gb706) (o := .cells #[.slice Ao71 t699.length co71, .slice Ao78 t702.length co78] 29 (0, 0)) kz_ hb); replace BK752 := Aside0.mk (blk_below (g := gb752) (o := .cells #[.slice Ao169 t745.length co169, .slice Ao171 t748.length co171] 29 (0, 0)) (by (with_reducible repeat (first | refine blk_drewN ?_ _ | refine blk_drew ?_ | refine blk_alloc ?_ _)); refine blk_put (cs := #[.slice Ao169 t745.length co169, .slice none 0 0]) ?_ 1 _ rfl; (with_reducible repeat (first | refine blk_drewN ?_ _ | refine blk_drew ?_ | refine blk_alloc ?_ _)); refine blk_put (cs := #[.slice none 0 0, .slice none 0 0]) ?_ 0 _ rfl; exact kb_ BK752.out) hb); replace HB := Aside0.mk (below_step bl_ hb); clear hb))
  go_meet
  case rel => exact ⟨_, ((t751 != t683)), (by first | rfl | (simp; done) | (simp [*]; done)), H', ⟨by have := HJ24.out; have := HJ101.out; first | omega | exact Nat.le_refl _⟩, ⟨by (try simp only [hl692000_101]); (try simp only [hl692001_101]); (try simp only [hl699000_101]); (try simp only [hl699001_101]); exact kr_ (Kd.R_mono HO_685000.out (fun _ hk => ⟨hk.2.2.2.2.2.2.1, ⟨hk.2.2.2.2.2.2.2.1, ⟨hk.2.2.2.2.2.2.2.2.1, ⟨hk.2.2.2.2.2.2.2.2.2.1, ⟨hk.2.2.2.2.2.2.2.2.2.2.1, ⟨hk.2.2.2.2.2.2.2.2.2.2.2.1, ⟨hk.2.2.2.2.2.2.2.2.2.2.2.2, ⟨hk.2.2.2.2.1, hk.2.2.2.2.2.1⟩⟩⟩⟩⟩⟩⟩⟩))⟩, ⟨by (try simp only [hl692000_101]); (try simp only [hl692001_101]); (try simp only [hl699000_101]); (try simp only [hl699001_101]); exact kr_ (Kd.R_mono HO_685001.out (fun _ hk => ⟨hk.2.2.2.2.2.2.1, ⟨hk.2.2.2.2.2.2.2.1, ⟨hk.2.2.2.2.2.2.2.2.1, ⟨hk.2.2.2.2.2.2.2.2.2.1, ⟨hk.2.2.2.2.2.2.2.2.2.2.1, ⟨hk.2.2.2.2.2.2.2.2.2.2.2.1, ⟨hk.2.2.2.2.2.2.2.2.2.2.2.2, ⟨hk.2.2.2.2.1, hk.2.2.2.2.2.1⟩⟩⟩⟩⟩⟩⟩⟩))⟩, ⟨by (try simp only [hl692000_101]); (try simp only [hl692001_101]); (try simp only [hl699000_101]); (try simp only [hl699001_101]); exact kr_ (Kd.R_mono HO_692000.out (fun _ hk => ⟨hk.2.2.2.2.2.2.1, ⟨hk.2.2.2.2.2.2.2.1, ⟨hk.2.2.2.2.2.2.2.2.1, ⟨hk.2.2.2.2.2.2.2.2.2.1, ⟨hk.2.2.2.2.2.2.2.2.2.2.1, ⟨hk.2.2.2.2.2.2.2.2.2.2.2.1, ⟨hk.2.2.2.2.2.2.2.2.2.2.2.2, ⟨hk.2.2.2.2.1, hk.2.2.2.2.2.1⟩⟩⟩⟩⟩⟩⟩⟩))⟩, ⟨by (try simp only [hl692000_101]); (try simp only [hl692001_101]); (try simp only [hl699000_101]); (try simp only [hl699001_101]); exact kr_ (Kd.R_mono HO_692001.out (fun _ hk => ⟨hk.2.2.2.2.2.2.1, ⟨hk.2.2.2.2.2.2.2.1, ⟨hk.2.2.2.2.2.2.2.2.1, ⟨hk.2.2.2.2.2.2.2.2.2.1, ⟨hk.2.2.2.2.2.2.2.2.2.2.1, ⟨hk.2.2.2.2.2.2.2.2.2.2.2.1, ⟨hk.2.2.2.2.2.2.2.2.2.2.2.2, ⟨hk.2.2.2.2.1, hk.2.2.2.2.2.1⟩⟩⟩⟩⟩⟩⟩⟩))⟩, ⟨by (try simp only [hl692000_101]); (try simp only [hl692001_101]); (try simp only [hl699000_101]); (try simp only [hl699001_101]); exact kr_ (Kd.R_mono HO_699000.out (fun _ hk => ⟨hk.2.2.2.2.2.2.1, ⟨hk.2.2.2.2.2.2.2.1, ⟨hk.2.2.2.2.2.2.2.2.1, ⟨hk.2.2.2.2.2.2.2.2.2.1, ⟨hk.2.2.2.2.2.2.2.2.2.2.1, ⟨hk.2.2.2.2.2.2.2.2.2.2.2.1, ⟨hk.2.2.2.2.2.2.2.2.2.2.2.2, ⟨hk.2.2.2.2.1, hk.2.2.2.2.2.1⟩⟩⟩⟩⟩⟩⟩⟩))⟩, ⟨by (try simp only [hl692000_101]); (try simp only [hl692001_101]); (try simp only [hl699000_101]); (try simp only [hl699001_101]); exact kr_ (Kd.R_mono HO_699001.out (fun _ hk => ⟨hk.2.2.2.2.2.2.1, ⟨hk.2.2.2.2.2.2.2.1, ⟨hk.2.2.2.2.2.2.2.2.1, ⟨hk.2.2.2.2.2.2.2.2.2.1, ⟨hk.2.2.2.2.2.2.2.2.2.2.1, ⟨hk.2.2.2.2.2.2.2.2.2.2.2.1, ⟨hk.2.2.2.2.2.2.2.2.2.2.2.2, ⟨hk.2.2.2.2.1, hk.2.2.2.2.2.1⟩⟩⟩⟩⟩⟩⟩⟩))⟩, ⟨by (try simp only [hl692000_101]); (try simp only [hl692001_101]); (try simp only [hl699000_101]); (try simp only [hl699001_101]); exact kr_ (Kd.R_mono HO_707000.out (fun _ hk => ⟨hk.2.2.2.2.2.2.1, ⟨hk.2.2.2.2.2.2.2.1, ⟨hk.2.2.2.2.2.2.2.2.1, ⟨hk.2.2.2.2.2.2.2.2.2.1, ⟨hk.2.2.2.2.2.2.2.2.2.2.1, ⟨hk.2.2.2.2.2.2.2.2.2.2.2.1, ⟨hk.2.2.2.2.2.2.2.2.2.2.2.2, ⟨hk.2.2.2.2.1, hk.2.2.2.2.2.1⟩⟩⟩⟩⟩⟩⟩⟩))⟩, ⟨by (try simp only [hl692000_101]); (try simp only [hl692001_101]); (try simp only [hl699000_101]); (try simp only [hl699001_101]); exact kr_ (Kd.R_mono HO_707001.out (fun _ hk => ⟨hk.2.2.2.2.2.2.1, ⟨hk.2.2.2.2.2.2.2.1, ⟨hk.2.2.2.2.2.2.2.2.1, ⟨hk.2.2.2.2.2.2.2.2.2.1, ⟨hk.2.2.2.2.2.2.2.2.2.2.1, ⟨hk.2.2.2.2.2.2.2.2.2.2.2.1, ⟨hk.2.2.2.2.2.2.2.2.2.2.2.2, ⟨hk.2.2.2.2.1, hk.2.2.2.2.2.1⟩⟩⟩⟩⟩⟩⟩⟩))⟩, ⟨by (try simp only [hl692000_101]); (try simp only [hl692001_101]); (try simp only [hl699000_101]); (try simp only [hl699001_101]); exact kr_ (Kd.R_mono HO747.out (fun _ hk => ⟨hk.2.2.2.2.2.1, ⟨hk.2.2.2.2.2.2.1, ⟨hk.2.2.2.2.2.2.2.1, ⟨hk.2.2.2.2.2.2.2.2.1, ⟨hk.2.2.2.2.2.2.2.2.2.1, ⟨hk.2.2.2.2.2.2.2.2.2.2.1, ⟨hk.2.2.2.2.2.2.2.2.2.2.2.1, ⟨hk.2.2.2.2.2.2.2.2.2.2.2.2, hk.2.2.2.2.1⟩⟩⟩⟩⟩⟩⟩⟩))⟩, ⟨by (try simp only [hl692000_101]); (try simp only [hl692001_101]); (try simp only [hl699000_101]); (try simp only [hl699001_101]); exact kr_ (Kd.R_mono HO750.out (fun _ hk => ⟨hk.2.2.2.2.2.1, ⟨hk.2.2.2.2.2.2.1, ⟨hk.2.2.2.2.2.2.2.1, ⟨hk.2.2.2.2.2.2.2.2.1, ⟨hk.2.2.2.2.2.2.2.2.2.1, ⟨hk.2.2.2.2.2.2.2.2.2.2.1, ⟨hk.2.2.2.2.2.2.2.2.2.2.2.1, ⟨hk.2.2.2.2.2.2.2.2.2.2.2.2, hk.2.2.2.2.1⟩⟩⟩⟩⟩⟩⟩⟩))⟩, ⟨by (try simp only [hl692000_101]); (try simp only [hl692001_101]); (try simp only [hl699000_101]); (try simp only [hl699001_101]); exact kb_ BK661.out⟩, ⟨by (try simp only [hl692000_101]); (try simp only [hl692001_101]); (try simp only [hl699000_101]); (try simp only [hl699001_101]); exact kb_ BK662.out⟩, ⟨by (try simp only [hl692000_101]); (try simp only [hl692001_101]); (try simp only [hl699000_101]); (try simp only [hl699001_101]); exact kb_ BK684.out⟩, ⟨by (try simp only [hl692000_101]); (try simp only [hl692001_101]); (try simp only [hl699000_101]); (try simp only [hl699001_101]); exact kb_ BK691.out⟩, ⟨by (try simp only [hl692000_101]); (try simp only [hl692001_101]); (try simp only [hl699000_101]); (try simp only [hl699001_101]); exact kb_ BK698.out⟩, ⟨by (try simp only [hl692000_101]); (try simp only [hl692001_101]); (try simp only [hl699000_101]); (try simp only [hl699001_101]); exact kb_ BK706.out⟩, ⟨by (try simp only [hl692000_101]); (try simp only [hl692001_101]); (try simp only [hl699000_101]); (try simp only [hl699001_101]); exact kb_ BK752.out⟩, ⟨bl_⟩⟩
 clear HC149
 try clear c1
 try clear p2
 try clear c10
 try clear c12
 try clear c17
 try clear c18
 try clear c174
 try clear c175
 try clear c176
 try clear c177
 try clear c178
 try clear c179
 try clear c180
 try clear c182
 try clear c183
 try clear c184
 try clear c185
 try clear c186
 try clear hcz181_0
 try clear hcz181_1
 try clear hcz187_0
 try clear hcz187_1
 try clear hfz181_0
 try clear hfz181_1
 try clear hfz187_0
 try clear hfz187_1
 obtain ⟨kq, x110_148, rfl, HA, HJ148, HO_685000, HO_685001, HO_692000, HO_692001, HO_699000, HO_699001, HO_707000, HO_707001, HO_753000, HO_753001, BK661, BK662, BK684, BK691, BK698, BK706, BK752, HB⟩ := hcut
 have hl707000_148 := (Kd.R_reads' HO_707000.out).1
 rw [hl707000_148] at HO_707000
 (try simp only [hl707000_148])
 (try simp only [hl707000_148] at BK661)
 (try simp only [hl707000_148] at BK662)
 (try simp only [hl707000_148] at BK684)
 (try simp only [hl707000_148] at BK691)
 (try simp only [hl707000_148] at BK698)
 (try simp only [hl707000_148] at BK706)
 (try simp only [hl707000_148] at BK752)
 (try simp only [hl707000_148] at HO_685000)
 (try simp only [hl707000_148] at HO_685001)
 (try simp only [hl707000_148] at HO_692000)
 (try simp only [hl707000_148] at HO_692001)
 (try simp only [hl707000_148] at HO_699000)
 (try simp only [hl707000_148] at HO_699001)
 (try simp only [hl707000_148] at HO_707001)
 (try simp only [hl707000_148] at HO_753000)
 (try simp only [hl707000_148] at HO_753001)
 have hl707001_148 := (Kd.R_reads' HO_707001.out).1
 rw [hl707001_148] at HO_707001
 (try simp only [hl707001_148])
 (try simp only [hl707001_148] at BK661)
 (try simp only [hl707001_148] at BK662)
 (try simp only [hl707001_148] at BK684)
 (try simp only [hl707001_148] at BK691)
 (try simp only [hl707001_148] at BK698)
 (try simp only [hl707001_148] at BK706)
 (try simp only [hl707001_148] at BK752)
 (try simp only [hl707001_148] at HO_685000)
 (try simp only [hl707001_148] at HO_685001)
 (try simp only [hl707001_148] at HO_692000)
 (try simp only [hl707001_148] at HO_692001)
 (try simp only [hl707001_148] at HO_699000)
 (try simp only [hl707001_148] at HO_699001)
 (try simp only [hl707001_148] at HO_707000)
 (try simp only [hl707001_148] at HO_753000)
 (try simp only [hl707001_148] at HO_753001)
 cases kq with
 | zero => exact absurd HA.out (by simp [laws_FnExactMergeBag.j2])
 | succ kj148 => ?_
 have H := HA.out
 clear HA
 simp only [laws_FnExactMergeBag.j2] at H
 by_cases c189 : x110_148 = true
 ·subst c189
  have H1 : (none) = some r := by rw [if_pos rfl] at H; exact H
  clear H
  have H := H1
  clear H1
  exact absurd H (by simp)
 replace c189 := Bool.eq_false_iff.mpr c189
 subst c189
 have H1 : ((laws_heldBag.f kj148 t730 t731 1).bind fun t754 => (if t754 < 0 then (none) else (if t754 = t729 then (some true) else (none)))) = some r := by rw [if_neg (show ¬ (false = true) by decide)] at H; exact H
 clear H
 have H := H1
 clear H1
 replace H := Option.bind_eq_some_iff.mp H
 obtain ⟨t754, A1900, H⟩ := H
 replace H : (if t754 < 0 then (none) else (if t754 = t729 then (some true) else (none))) = some r := H
 have A190 := Aside0.mk A1900
 clear A1900
 by_cases c191 : t754 < 0
 ·rw [if_pos c191] at H
  exact absurd H (by simp)
 rw [if_neg c191] at H
 have c191b0 : decide (t754 < 0) = false := decide_eq_false c191
 clear c191
 by_cases c192 : t754 = t729
 rotate_left
 ·rw [if_neg c192] at H
  exact absurd H (by simp)
 rw [if_pos c192] at H
 have c192b0 : (t754 == t729) = true := beq_iff_eq.mpr c192
 have c192b1 : (t754 != t729) = false := bne_eq_false_iff_eq.mpr c192
 clear c192
 obtain rfl := Option.some.inj H
 have hnb193 := NB706_661.out
 have hnc193 := NB661_706.out
 have hnb194 := NB706_662.out
 have hnc194 := NB662_706.out
 have hnb195 := NB706_684.out
 have hnc195 := NB684_706.out
 have hnb196 := NB706_691.out
 have hnc196 := NB691_706.out
 have hnb197 := NB706_698.out
 have hnc197 := NB698_706.out
 have hnb198 := NB706_752.out
 have hnc198 := NB752_706.out
 have hcz199_0 : wc.cell? ⟨gb706, 0, none⟩ = some (.slice Ao71 t730.length co71) := bc_ BK706.out 0
 have hcz199_1 : wc.cell? ⟨gb706, 1, none⟩ = some (.slice Ao78 t731.length co78) := bc_ BK706.out 1
 have hfz199_0 := blk_frozen BK706.out 0
 have hfz199_1 := blk_frozen BK706.out 1
 go_wp2_with (first | ((with_reducible refine gate_callee (f := 16) rfl ?_); refine goesL_ (some 113) rfl rfl Try.func16 (by kernel_rfl) rfl #[.agg #[.slice Ao71 t730.length co71, .slice Ao78 t731.length co78], .int .i64 1] rfl nc_ ?_; (with_reducible refine (laws_heldBag.calls kj148 _ _ t730 _ _ t731 1 t754 _ ?side1 ?side2 ?side3 ?side4 A190.out).mono ?_); (case side1 => exact kc_ (Kd.R_reads' HO_707000.out).2.2); (case side2 => exact (Kd.R_reads' HO_707000.out).2.1); (case side3 => exact kc_ (Kd.R_reads' HO_707001.out).2.2); (case side4 => exact (Kd.R_reads' HO_707001.out).2.1); rintro e w200 ⟨rfl, hb⟩; refine ⟨_, rfl, ?_⟩; replace HO_685000 := rb_ HO_685000 hb; replace HO_685001 := rb_ HO_685001 hb; replace HO_692000 := rb_ HO_692000 hb; replace HO_692001 := rb_ HO_692001 hb; replace HO_699000 := rb_ HO_699000 hb; replace HO_699001 := rb_ HO_699001 hb; replace HO_707000 := rb_ HO_707000 hb; replace HO_707001 := rb_ HO_707001 hb; replace HO_753000 := rb_ HO_753000 hb; replace HO_753001 := rb_ HO_753001 hb; replace BK661 := bb_ BK661 hb; replace BK662 := bb_ BK662 hb; replace BK684 := bb_ BK684 hb; replace BK691 := bb_ BK691 hb; replace BK698 := bb_ BK698 hb; replace BK706 := bb_ BK706 hb; replace BK752 := bb_ BK752 hb; replace HB := Aside0.mk (below_step bl_ hb); clear hb))
 go_ret
 exact ⟨ng_, bl_⟩

end Go.Proofs.Ytdnapgnnliibfaa.PMB
