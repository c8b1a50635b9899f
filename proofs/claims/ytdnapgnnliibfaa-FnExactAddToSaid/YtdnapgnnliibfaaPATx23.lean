/- What this text proves: the machine calls of these functions return what the plain functions say. Conditions: as each theorem says. Printed by a program of this session out of the translation. -/
import Derived.Test.YtdnapgnnliibfaaPATx0
import Derived.Test.YtdnapgnnliibfaaPATx2
import Derived.Test.YtdnapgnnliibfaaPATx3
import Derived.Test.YtdnapgnnliibfaaPATx18
import Derived.Test.YtdnapgnnliibfaaPATx20
import Derived.Test.YtdnapgnnliibfaaPATx22
namespace Go.Proofs.Ytdnapgnnliibfaa.PAT
open Go.RowKit Go.Proofs.YtdnapgnnliibfaaW.PrintWords Go.Proofs.YtdnapgnnliibfaaW.PrintLast Go.Proofs.YtdnapgnnliibfaaW.PrintMore
attribute [local go_sem] max2_int min2_int max_two min_two max_three min_three max_four min_four   -- for this text's walks alone
set_option linter.unusedVariables false
set_option linter.unusedSimpArgs false

/-! ### laws_FnExactAddTo: function 7 -/
mutual
def laws_FnExactAddTo.j0 : Nat → Int → ByteArray → Bool → Bool → Bool → List (S72) → List (S72) → List (S48) → List (S48) → List (S48) → List (S48) → List (S48) → List (S48) → Option (Bool)
 | 0, _, _, _, _, _, _, _, _, _, _, _, _, _ => none
 | k + 1, x1, x2, x9, x12, x51, x604000, x604001, x619000, x619001, x626000, x626001, x634000, x634001 => if x51 = true then (none) else ((laws_toBag.f k x604000 x604001).bind fun bt635 => ((laws_eqBag.f k x626000 x626001 bt635.1 bt635.2).bind fun t641 => (if t641 = true then ((laws_markBag.f k x626000 x626001 1).bind fun bt642 => (if bt642.1 < 0 then (none) else ((laws_eqBag.f k x634000 x634001 x619000 x619001).bind fun t645 => (if t645 = true then (laws_FnExactAddTo.j1 k x1 x2 x9 (x12 != x9) x604000 x604001 x619000 x619001 x634000 x634001) else (none))))) else (none))))
def laws_FnExactAddTo.j1 : Nat → Int → ByteArray → Bool → Bool → List (S72) → List (S72) → List (S48) → List (S48) → List (S48) → List (S48) → Option (Bool)
 | 0, _, _, _, _, _, _, _, _, _, _ => none
 | k + 1, x1, x2, x9, x72, x604000, x604001, x619000, x619001, x634000, x634001 => if x72 = true then (none) else ((laws_markBag.f k x634000 x634001 1).bind fun bt646 => ((laws_heldBag.f k bt646.2.1 bt646.2.2 1).bind fun t649 => (if t649 < 0 then (none) else (if t649 = bt646.1 then ((laws_toBag.f k x604000 x604001).bind fun bt650 => ((impl_AddTo.f k bt650.1 bt650.2 x1 x2).bind fun bt656 => ((laws_eqBag.f k bt656.1 bt656.2.1 x619000 x619001).bind fun t664 => (if t664 = true then (laws_FnExactAddTo.j2 k bt646.1 (bt656.2.2 != x9) bt646.2.1 bt646.2.2) else (none))))) else (none)))))
def laws_FnExactAddTo.j2 : Nat → Int → Bool → List (S48) → List (S48) → Option (Bool)
 | 0, _, _, _, _ => none
 | k + 1, x14, x100, x634000, x634001 => if x100 = true then (none) else ((laws_heldBag.f k x634000 x634001 1).bind fun t665 => (if t665 < 0 then (none) else (if t665 = x14 then (some true) else (none))))
end
def laws_FnExactAddTo.f (k : Nat) (l0_0 : List (S72)) (l0_1 : List (S72)) (a1 : Int) (a2 : ByteArray) : Option (Bool) := if (a2.size : Int) > 1048576 then (some true) else ((laws_szBag.f k l0_0 l0_1 1048576).bind fun t604 => (if t604 < 0 then (some true) else ((laws_toBag.f k l0_0 l0_1).bind fun bt605 => ((spec_AddTo.f k bt605.1 bt605.2 a1 a2).bind fun bt611 => ((laws_toBag.f k l0_0 l0_1).bind fun bt619 => ((impl_AddTo.f k bt619.1 bt619.2 a1 a2).bind fun bt626 => ((laws_eqBag.f k bt626.1 bt626.2.1 bt611.1 bt611.2.1).bind fun t634 => (if t634 = true then (laws_FnExactAddTo.j0 k a1 a2 bt611.2.2 bt626.2.2 (bt626.2.2 != bt611.2.2) l0_0 l0_1 bt611.1 bt611.2.1 bt619.1 bt619.2 bt626.1 bt626.2.1) else (none)))))))))
theorem laws_FnExactAddTo.mono_l : ∀ k, (∀ y0 y1 y2 y3 y4 y5 y6 y7 y8 y9 y10 y11 y12, LeO (laws_FnExactAddTo.j0 k y0 y1 y2 y3 y4 y5 y6 y7 y8 y9 y10 y11 y12) (laws_FnExactAddTo.j0 (k + 1) y0 y1 y2 y3 y4 y5 y6 y7 y8 y9 y10 y11 y12)) ∧ (∀ y0 y1 y2 y3 y4 y5 y6 y7 y8 y9, LeO (laws_FnExactAddTo.j1 k y0 y1 y2 y3 y4 y5 y6 y7 y8 y9) (laws_FnExactAddTo.j1 (k + 1) y0 y1 y2 y3 y4 y5 y6 y7 y8 y9)) ∧ (∀ y0 y1 y2 y3, LeO (laws_FnExactAddTo.j2 k y0 y1 y2 y3) (laws_FnExactAddTo.j2 (k + 1) y0 y1 y2 y3))
 | 0 => ⟨fun _ _ _ _ _ _ _ _ _ _ _ _ _ r h => by simp [laws_FnExactAddTo.j0] at h, fun _ _ _ _ _ _ _ _ _ _ r h => by simp [laws_FnExactAddTo.j1] at h, fun _ _ _ _ r h => by simp [laws_FnExactAddTo.j2] at h⟩
 | k + 1 => by
  obtain ⟨ih0, ih1, ih2⟩ := laws_FnExactAddTo.mono_l k
  refine ⟨?_, ?_, ?_⟩
  ·intro y0 y1 y2 y3 y4 y5 y6 y7 y8 y9 y10 y11 y12
   unfold laws_FnExactAddTo.j0
   repeat' first
   | (with_reducible exact ih0 _ _ _ _ _ _ _ _ _ _ _ _ _)
   | (with_reducible exact ih1 _ _ _ _ _ _ _ _ _ _)
   | (with_reducible exact ih2 _ _ _ _)
   | (with_reducible exact impl_AddTo.mono _ _ _ _ _)
   | (with_reducible exact laws_eqBag.mono _ _ _ _ _)
   | (with_reducible exact laws_heldBag.mono _ _ _ _)
   | (with_reducible exact laws_markBag.mono _ _ _ _)
   | (with_reducible exact laws_szBag.mono _ _ _ _)
   | (with_reducible exact laws_toBag.mono _ _ _)
   | (with_reducible exact spec_AddTo.mono _ _ _ _ _)
   | (with_reducible exact LeO.refl _)
   | (with_reducible exact LeO.none _)
   | (with_reducible refine LeO.ite ?_ ?_)
   | (with_reducible refine LeO.bind ?_ (fun _ => ?_))
   | exact ih0 _ _ _ _ _ _ _ _ _ _ _ _ _
   | exact ih1 _ _ _ _ _ _ _ _ _ _
   | exact ih2 _ _ _ _
   | exact impl_AddTo.mono _ _ _ _ _
   | exact laws_eqBag.mono _ _ _ _ _
   | exact laws_heldBag.mono _ _ _ _
   | exact laws_markBag.mono _ _ _ _
   | exact laws_szBag.mono _ _ _ _
   | exact laws_toBag.mono _ _ _
   | exact spec_AddTo.mono _ _ _ _ _
   | exact LeO.none _
   | refine LeO.ite ?_ ?_
   | refine LeO.bind ?_ (fun _ => ?_)
  ·intro y0 y1 y2 y3 y4 y5 y6 y7 y8 y9
   unfold laws_FnExactAddTo.j1
   repeat' first
   | (with_reducible exact ih0 _ _ _ _ _ _ _ _ _ _ _ _ _)
   | (with_reducible exact ih1 _ _ _ _ _ _ _ _ _ _)
   | (with_reducible exact ih2 _ _ _ _)
   | (with_reducible exact impl_AddTo.mono _ _ _ _ _)
   | (with_reducible exact laws_eqBag.mono _ _ _ _ _)
   | (with_reducible exact laws_heldBag.mono _ _ _ _)
   | (with_reducible exact laws_markBag.mono _ _ _ _)
   | (with_reducible exact laws_szBag.mono _ _ _ _)
   | (with_reducible exact laws_toBag.mono _ _ _)
   | (with_reducible exact spec_AddTo.mono _ _ _ _ _)
   | (with_reducible exact LeO.refl _)
   | (with_reducible exact LeO.none _)
   | (with_reducible refine LeO.ite ?_ ?_)
   | (with_reducible refine LeO.bind ?_ (fun _ => ?_))
   | exact ih0 _ _ _ _ _ _ _ _ _ _ _ _ _
   | exact ih1 _ _ _ _ _ _ _ _ _ _
   | exact ih2 _ _ _ _
   | exact impl_AddTo.mono _ _ _ _ _
   | exact laws_eqBag.mono _ _ _ _ _
   | exact laws_heldBag.mono _ _ _ _
   | exact laws_markBag.mono _ _ _ _
   | exact laws_szBag.mono _ _ _ _
   | exact laws_toBag.mono _ _ _
   | exact spec_AddTo.mono _ _ _ _ _
   | exact LeO.none _
   | refine LeO.ite ?_ ?_
   | refine LeO.bind ?_ (fun _ => ?_)
  ·intro y0 y1 y2 y3
   unfold laws_FnExactAddTo.j2
   repeat' first
   | (with_reducible exact ih0 _ _ _ _ _ _ _ _ _ _ _ _ _)
   | (with_reducible exact ih1 _ _ _ _ _ _ _ _ _ _)
   | (with_reducible exact ih2 _ _ _ _)
   | (with_reducible exact impl_AddTo.mono _ _ _ _ _)
   | (with_reducible exact laws_eqBag.mono _ _ _ _ _)
   | (with_reducible exact laws_heldBag.mono _ _ _ _)
   | (with_reducible exact laws_markBag.mono _ _ _ _)
   | (with_reducible exact laws_szBag.mono _ _ _ _)
   | (with_reducible exact laws_toBag.mono _ _ _)
   | (with_reducible exact spec_AddTo.mono _ _ _ _ _)
   | (with_reducible exact LeO.refl _)
   | (with_reducible exact LeO.none _)
   | (with_reducible refine LeO.ite ?_ ?_)
   | (with_reducible refine LeO.bind ?_ (fun _ => ?_))
   | exact ih0 _ _ _ _ _ _ _ _ _ _ _ _ _
   | exact ih1 _ _ _ _ _ _ _ _ _ _
   | exact ih2 _ _ _ _
   | exact impl_AddTo.mono _ _ _ _ _
   | exact laws_eqBag.mono _ _ _ _ _
   | exact laws_heldBag.mono _ _ _ _
   | exact laws_markBag.mono _ _ _ _
   | exact laws_szBag.mono _ _ _ _
   | exact laws_toBag.mono _ _ _
   | exact spec_AddTo.mono _ _ _ _ _
   | exact LeO.none _
   | refine LeO.ite ?_ ?_
   | refine LeO.bind ?_ (fun _ => ?_)
theorem laws_FnExactAddTo.mono : ∀ a0 a1 a2 a3 k, LeO (laws_FnExactAddTo.f k a0 a1 a2 a3) (laws_FnExactAddTo.f (k + 1) a0 a1 a2 a3) := by
 intro a0 a1 a2 a3 k
 obtain ⟨ih0, ih1, ih2⟩ := laws_FnExactAddTo.mono_l k
 unfold laws_FnExactAddTo.f
 repeat' first
   | (with_reducible exact ih0 _ _ _ _ _ _ _ _ _ _ _ _ _)
   | (with_reducible exact ih1 _ _ _ _ _ _ _ _ _ _)
   | (with_reducible exact ih2 _ _ _ _)
   | (with_reducible exact impl_AddTo.mono _ _ _ _ _)
   | (with_reducible exact laws_eqBag.mono _ _ _ _ _)
   | (with_reducible exact laws_heldBag.mono _ _ _ _)
   | (with_reducible exact laws_markBag.mono _ _ _ _)
   | (with_reducible exact laws_szBag.mono _ _ _ _)
   | (with_reducible exact laws_toBag.mono _ _ _)
   | (with_reducible exact spec_AddTo.mono _ _ _ _ _)
   | (with_reducible exact LeO.refl _)
   | (with_reducible exact LeO.none _)
   | (with_reducible refine LeO.ite ?_ ?_)
   | (with_reducible refine LeO.bind ?_ (fun _ => ?_))
   | exact ih0 _ _ _ _ _ _ _ _ _ _ _ _ _
   | exact ih1 _ _ _ _ _ _ _ _ _ _
   | exact ih2 _ _ _ _
   | exact impl_AddTo.mono _ _ _ _ _
   | exact laws_eqBag.mono _ _ _ _ _
   | exact laws_heldBag.mono _ _ _ _
   | exact laws_markBag.mono _ _ _ _
   | exact laws_szBag.mono _ _ _ _
   | exact laws_toBag.mono _ _ _
   | exact spec_AddTo.mono _ _ _ _ _
   | exact LeO.none _
   | refine LeO.ite ?_ ?_
   | refine LeO.bind ?_ (fun _ => ?_)
set_option maxHeartbeats 8000000 in
set_option maxRecDepth 100000 in
theorem laws_FnExactAddTo.calls (k : Nat) (A0_0 : Option Addr) (c0_0 : Nat) (l0_0 : List (S72)) (A0_1 : Option Addr) (c0_1 : Nat) (l0_1 : List (S72)) (a1 : Int) (a2 : ByteArray) (r : Bool) (w : World) (hr0_0 : Kd.C k72 w A0_0 l0_0.length l0_0) (hc0_0 : l0_0.length ≤ c0_0) (hr0_1 : Kd.C k72 w A0_1 l0_1.length l0_1) (hc0_1 : l0_1.length ≤ c0_1) (h : laws_FnExactAddTo.f k l0_0 l0_1 a1 a2 = some r) :
  Calls Try.prog 7 #[.agg #[.slice A0_0 l0_0.length c0_0, .slice A0_1 l0_1.length c0_1], .int .i64 a1, .string a2] w fun e w' => e = .returned (.bool r) ∧ Below w.heap.size w w' := by
 have hu24 := Try.underlying24
 have hu29 := Try.underlying29
 have HR0_0 := Aside0.mk hr0_0
 have HC0_0 := Aside0.mk hc0_0
 clear hr0_0 hc0_0
 have HR0_1 := Aside0.mk hr0_1
 have HC0_1 := Aside0.mk hc0_1
 clear hr0_1 hc0_1
 have HB := Aside0.mk (Below.refl w.heap.size w)
 have H : (if (a2.size : Int) > 1048576 then (some true) else ((laws_szBag.f k l0_0 l0_1 1048576).bind fun t604 => (if t604 < 0 then (some true) else ((laws_toBag.f k l0_0 l0_1).bind fun bt605 => ((spec_AddTo.f k bt605.1 bt605.2 a1 a2).bind fun bt611 => ((laws_toBag.f k l0_0 l0_1).bind fun bt619 => ((impl_AddTo.f k bt619.1 bt619.2 a1 a2).bind fun bt626 => ((laws_eqBag.f k bt626.1 bt626.2.1 bt611.1 bt611.2.1).bind fun t634 => (if t634 = true then (laws_FnExactAddTo.j0 k a1 a2 bt611.2.2 bt626.2.2 (bt626.2.2 != bt611.2.2) l0_0 l0_1 bt611.1 bt611.2.1 bt619.1 bt619.2 bt626.1 bt626.2.1) else (none)))))))))) = some r := h
 clear h
 by_cases c4 : (a2.size : Int) > 1048576
 ·rw [if_pos c4] at H
  have c4b0 : decide (1048576 < (a2.size : Int)) = true := decide_eq_true c4
  have c4b1 : decide (1048576 < a2.size) = true := decide_eq_true (by omega)
  clear c4
  obtain rfl := Option.some.inj H
  go_enter Try.func7, Try.ntmps7
  go_wp2_with (first | ((with_reducible refine gate_dst (N := 3) rfl ?_); refine box_event rfl (N := 3) rfl (cs := #[.slice A0_0 l0_0.length c0_0, .slice A0_1 l0_1.length c0_1]) (t := 24) gs_ ?_; intro gb603 hg w5 hbox hb; have BK603 := Aside0.mk (hbox); have GW603 := Aside0.mk ((by rw [hg]; exact bz_ : w.heap.size ≤ gb603)); have GE603 := GW603; replace HB := Aside0.mk (below_step bl_ hb); clear hb hbox hg))
  go_ret
  exact ⟨ng_, bl_⟩
 rw [if_neg c4] at H
 have c4b0 : decide (1048576 < (a2.size : Int)) = false := decide_eq_false c4
 have c4b1 : decide (1048576 < a2.size) = false := decide_eq_false (by omega)
 clear c4
 replace H := Option.bind_eq_some_iff.mp H
 obtain ⟨t604, A60, H⟩ := H
 replace H : (if t604 < 0 then (some true) else ((laws_toBag.f k l0_0 l0_1).bind fun bt605 => ((spec_AddTo.f k bt605.1 bt605.2 a1 a2).bind fun bt611 => ((laws_toBag.f k l0_0 l0_1).bind fun bt619 => ((impl_AddTo.f k bt619.1 bt619.2 a1 a2).bind fun bt626 => ((laws_eqBag.f k bt626.1 bt626.2.1 bt611.1 bt611.2.1).bind fun t634 => (if t634 = true then (laws_FnExactAddTo.j0 k a1 a2 bt611.2.2 bt626.2.2 (bt626.2.2 != bt611.2.2) l0_0 l0_1 bt611.1 bt611.2.1 bt619.1 bt619.2 bt626.1 bt626.2.1) else (none)))))))) = some r := H
 have A6 := Aside0.mk A60
 clear A60
 by_cases c7 : t604 < 0
 ·rw [if_pos c7] at H
  have c7b0 : decide (t604 < 0) = true := decide_eq_true c7
  clear c7
  obtain rfl := Option.some.inj H
  go_enter Try.func7, Try.ntmps7
  go_wp2_with (first | ((with_reducible refine gate_dst (N := 3) rfl ?_); refine box_event rfl (N := 3) rfl (cs := #[.slice A0_0 l0_0.length c0_0, .slice A0_1 l0_1.length c0_1]) (t := 24) gs_ ?_; intro gb603 hg w8 hbox hb; have BK603 := Aside0.mk (hbox); have GW603 := Aside0.mk ((by rw [hg]; exact bz_ : w.heap.size ≤ gb603)); have GE603 := GW603; replace HB := Aside0.mk (below_step bl_ hb); clear hb hbox hg; have hcz9_0 : w8.cell? ⟨gb603, 0, none⟩ = some (.slice A0_0 l0_0.length c0_0) := bc_ BK603.out 0; have hcz9_1 : w8.cell? ⟨gb603, 1, none⟩ = some (.slice A0_1 l0_1.length c0_1) := bc_ BK603.out 1; have hfz9_0 := blk_frozen BK603.out 0; have hfz9_1 := blk_frozen BK603.out 1) | ((with_reducible refine gate_callee (f := 8) rfl ?_); refine goesL_ (some 23) rfl rfl Try.func8 (by kernel_rfl) rfl #[.agg #[.slice A0_0 l0_0.length c0_0, .slice A0_1 l0_1.length c0_1], .int .i64 1048576] rfl nc_ ?_; (with_reducible refine (laws_szBag.calls k _ _ l0_0 _ _ l0_1 1048576 t604 _ ?side1 ?side2 ?side3 ?side4 A6.out).mono ?_); (case side1 => exact kc_ (Kd.C_below HR0_0.out HB.out)); (case side2 => exact HC0_0.out); (case side3 => exact kc_ (Kd.C_below HR0_1.out HB.out)); (case side4 => exact HC0_1.out); rintro e w10 ⟨rfl, hb⟩; refine ⟨_, rfl, ?_⟩; replace BK603 := bb_ BK603 hb; replace HB := Aside0.mk (below_step bl_ hb); clear hb))
  go_ret
  exact ⟨ng_, bl_⟩
 rw [if_neg c7] at H
 have c7b0 : decide (t604 < 0) = false := decide_eq_false c7
 clear c7
 replace H := Option.bind_eq_some_iff.mp H
 obtain ⟨⟨t605, t608⟩, A110, H⟩ := H
 replace H : ((spec_AddTo.f k t605 t608 a1 a2).bind fun bt611 => ((laws_toBag.f k l0_0 l0_1).bind fun bt619 => ((impl_AddTo.f k bt619.1 bt619.2 a1 a2).bind fun bt626 => ((laws_eqBag.f k bt626.1 bt626.2.1 bt611.1 bt611.2.1).bind fun t634 => (if t634 = true then (laws_FnExactAddTo.j0 k a1 a2 bt611.2.2 bt626.2.2 (bt626.2.2 != bt611.2.2) l0_0 l0_1 bt611.1 bt611.2.1 bt619.1 bt619.2 bt626.1 bt626.2.1) else (none)))))) = some r := H
 have A11 := Aside0.mk A110
 clear A110
 replace H := Option.bind_eq_some_iff.mp H
 obtain ⟨⟨t611, t614, t617⟩, A120, H⟩ := H
 replace H : ((laws_toBag.f k l0_0 l0_1).bind fun bt619 => ((impl_AddTo.f k bt619.1 bt619.2 a1 a2).bind fun bt626 => ((laws_eqBag.f k bt626.1 bt626.2.1 t611 t614).bind fun t634 => (if t634 = true then (laws_FnExactAddTo.j0 k a1 a2 t617 bt626.2.2 (bt626.2.2 != t617) l0_0 l0_1 t611 t614 bt619.1 bt619.2 bt626.1 bt626.2.1) else (none))))) = some r := H
 have A12 := Aside0.mk A120
 clear A120
 replace H := Option.bind_eq_some_iff.mp H
 obtain ⟨⟨t619, t622⟩, A130, H⟩ := H
 replace H : ((impl_AddTo.f k t619 t622 a1 a2).bind fun bt626 => ((laws_eqBag.f k bt626.1 bt626.2.1 t611 t614).bind fun t634 => (if t634 = true then (laws_FnExactAddTo.j0 k a1 a2 t617 bt626.2.2 (bt626.2.2 != t617) l0_0 l0_1 t611 t614 t619 t622 bt626.1 bt626.2.1) else (none)))) = some r := H
 have A13 := Aside0.mk A130
 clear A130
 replace H := Option.bind_eq_some_iff.mp H
 obtain ⟨⟨t626, t629, t632⟩, A140, H⟩ := H
 replace H : ((laws_eqBag.f k t626 t629 t611 t614).bind fun t634 => (if t634 = true then (laws_FnExactAddTo.j0 k a1 a2 t617 t632 (t632 != t617) l0_0 l0_1 t611 t614 t619 t622 t626 t629) else (none))) = some r := H
 have A14 := Aside0.mk A140
 clear A140
 have HC15 := Aside0.mk H
 clear H
 go_enter Try.func7, Try.ntmps7
 go_upto_region 10 with (first | ((with_reducible refine gate_dst (N := 3) rfl ?_); refine box_event rfl (N := 3) rfl (cs := #[.slice A0_0 l0_0.length c0_0, .slice A0_1 l0_1.length c0_1]) (t := 24) gs_ ?_; intro gb603 hg w16 hbox hb; have BK603 := Aside0.mk (hbox); have GW603 := Aside0.mk ((by rw [hg]; exact bz_ : w.heap.size ≤ gb603)); have GE603 := GW603; replace HB := Aside0.mk (below_step bl_ hb); clear hb hbox hg; have hcz17_0 : w16.cell? ⟨gb603, 0, none⟩ = some (.slice A0_0 l0_0.length c0_0) := bc_ BK603.out 0; have hcz17_1 : w16.cell? ⟨gb603, 1, none⟩ = some (.slice A0_1 l0_1.length c0_1) := bc_ BK603.out 1; have hfz17_0 := blk_frozen BK603.out 0; have hfz17_1 := blk_frozen BK603.out 1) | ((with_reducible refine gate_callee (f := 8) rfl ?_); refine goesL_ (some 23) rfl rfl Try.func8 (by kernel_rfl) rfl #[.agg #[.slice A0_0 l0_0.length c0_0, .slice A0_1 l0_1.length c0_1], .int .i64 1048576] rfl nc_ ?_; (with_reducible refine (laws_szBag.calls k _ _ l0_0 _ _ l0_1 1048576 t604 _ ?side1 ?side2 ?side3 ?side4 A6.out).mono ?_); (case side1 => exact kc_ (Kd.C_below HR0_0.out HB.out)); (case side2 => exact HC0_0.out); (case side3 => exact kc_ (Kd.C_below HR0_1.out HB.out)); (case side4 => exact HC0_1.out); rintro e w18 ⟨rfl, hb⟩; refine ⟨_, rfl, ?_⟩; replace BK603 := bb_ BK603 hb; replace HB := Aside0.mk (below_step bl_ hb); clear hb; have hcz19_0 : w18.cell? ⟨gb603, 0, none⟩ = some (.slice A0_0 l0_0.length c0_0) := bc_ BK603.out 0; have hcz19_1 : w18.cell? ⟨gb603, 1, none⟩ = some (.slice A0_1 l0_1.length c0_1) := bc_ BK603.out 1; have hfz19_0 := blk_frozen BK603.out 0; have hfz19_1 := blk_frozen BK603.out 1) | ((with_reducible refine gate_callee (f := 10) rfl ?_); refine goesL_ (some 28) rfl rfl Try.func10 (by kernel_rfl) rfl #[.agg #[.slice A0_0 l0_0.length c0_0, .slice A0_1 l0_1.length c0_1]] rfl nc_ ?_; (with_reducible refine (laws_toBag.calls k _ _ l0_0 _ _ l0_1 t605 t608 _ ?side1 ?side2 ?side3 ?side4 A11.out).mono ?_); (case side1 => exact kc_ (Kd.C_below HR0_0.out HB.out)); (case side2 => exact HC0_0.out); (case side3 => exact kc_ (Kd.C_below HR0_1.out HB.out)); (case side4 => exact HC0_1.out); rintro e w20 ⟨v606, v609, rfl, ho0, ho1, hb⟩; refine ⟨_, rfl, ?_⟩; have HO607 := Aside0.mk (Kd.R_lower ho0 bz_); have HO610 := Aside0.mk (Kd.R_lower ho1 bz_); replace BK603 := bb_ BK603 hb; replace HB := Aside0.mk (below_step bl_ hb); clear hb ho0 ho1; obtain ⟨Ao21, co21, eo21⟩ := Kd.R_slice HO607.out; subst eo21; obtain ⟨Ao22, co22, eo22⟩ := Kd.R_slice HO610.out; subst eo22) | ((with_reducible refine gate_callee (f := 24) rfl ?_); refine goesL_ (some 31) rfl rfl Try.func24 (by kernel_rfl) rfl #[.agg #[.slice Ao21 t605.length co21, .slice Ao22 t608.length co22], .int .i64 a1, .string a2] rfl nc_ ?_; (with_reducible refine (spec_AddTo.calls k (fun k_ => some k_ = (.slice Ao21 t605.length co21 : Value).ownBlock) _ _ t605 (fun k_ => some k_ = (.slice Ao22 t608.length co22 : Value).ownBlock) _ _ t608 a1 a2 t611 t614 t617 _ ?side1 ?side2 A12.out).mono ?_); (case side1 => exact Kd.R_V (Kd.R_tight rfl (Kd.R_types (HO607.out) BK603.out (by decide)))); (case side2 => exact Kd.R_V (Kd.R_tight rfl (Kd.R_types (HO610.out) BK603.out (by decide)))); rintro e w23 ⟨v612, v615, rfl, ho0, ho1, hb⟩; refine ⟨_, rfl, ?_⟩; have HO613 := Aside0.mk (Kd.R_lower (rn_ (rn_ (Kd.R_mono (ok' := fun k_ => some k_ ≠ (v615 : Value).ownBlock) ho0 (fun _ hk_ => hk_.2)) HO607.out) HO610.out) bz_); have HO616 := Aside0.mk (Kd.R_lower (rn_ (rn_ (Kd.R_mono (ok' := fun k_ => some k_ ≠ (v612 : Value).ownBlock) ho1 (fun _ hk_ => hk_.2)) HO607.out) HO610.out) bz_); replace HO607 := rp2_ HO607 hb ho0 ho1; replace HO610 := rp2_ HO610 hb ho0 ho1; replace BK603 := bb_ BK603 hb; replace HB := Aside0.mk (below_step bl_ hb); clear hb ho0 ho1) | ((with_reducible refine gate_dst (N := 8) rfl ?_); refine box_event rfl (N := 8) rfl (cs := #[.slice none 0 0, .slice none 0 0]) (t := 29) gs_ ?_; intro gb618 hg w24 hbox hb; replace HO607 := rb_ HO607 hb; replace HO610 := rb_ HO610 hb; replace HO613 := rb_ HO613 hb; replace HO616 := rb_ HO616 hb; have BK618 := Aside0.mk (hbox); have GW618 := Aside0.mk ((by rw [hg]; exact bz_ : w.heap.size ≤ gb618)); have GE618 := GW618; replace HB := Aside0.mk (below_step bl_ hb); have NB603_618 := nl_ hg BK603; have NB618_603 := nm_ hg BK603; replace BK603 := bb_ BK603 hb; clear hb hbox hg; obtain ⟨Ao25, co25, eo25⟩ := Kd.R_slice HO613.out; subst eo25; have hnb26 := NB618_603.out; have hnc26 := NB603_618.out; have hcz27_0 : w24.cell? ⟨gb618, 0, none⟩ = some (.slice none 0 0) := bc_ BK618.out 0; have hcz27_1 : w24.cell? ⟨gb618, 1, none⟩ = some (.slice none 0 0) := bc_ BK618.out 1; have hfz27_0 := blk_frozen BK618.out 0; have hfz27_1 := blk_frozen BK618.out 1; obtain ⟨Ao28, co28, eo28⟩ := Kd.R_slice HO616.out; subst eo28; have hcz29_0 : w24.cell? ⟨gb603, 0, none⟩ = some (.slice A0_0 l0_0.length c0_0) := bc_ BK603.out 0; have hcz29_1 : w24.cell? ⟨gb603, 1, none⟩ = some (.slice A0_1 l0_1.length c0_1) := bc_ BK603.out 1; have hfz29_0 := blk_frozen BK603.out 0; have hfz29_1 := blk_frozen BK603.out 1) | ((with_reducible refine gate_callee (f := 10) rfl ?_); refine goesL_ (some 35) rfl rfl Try.func10 (by kernel_rfl) rfl #[.agg #[.slice A0_0 l0_0.length c0_0, .slice A0_1 l0_1.length c0_1]] rfl nc_ ?_; (with_reducible refine (laws_toBag.calls k _ _ l0_0 _ _ l0_1 t619 t622 _ ?side1 ?side2 ?side3 ?side4 A13.out).mono ?_); (case side1 => exact Kd.C_below HR0_0.out bl_); (case side2 => exact HC0_0.out); (case side3 => exact Kd.C_below HR0_1.out bl_); (case side4 => exact HC0_1.out); rintro e w30 ⟨v620, v623, rfl, ho0, ho1, hb⟩; refine ⟨_, rfl, ?_⟩; have HO621 := Aside0.mk (Kd.R_lower (rn_ (rn_ (rn_ (rn_ ho0 (rs2_ HO607.out BK618.out (.slice Ao25 t611.length co25) (.slice Ao28 t614.length co28))) (rs2_ HO610.out BK618.out (.slice Ao25 t611.length co25) (.slice Ao28 t614.length co28))) (rs2_ HO613.out BK618.out (.slice Ao25 t611.length co25) (.slice Ao28 t614.length co28))) (rs2_ HO616.out BK618.out (.slice Ao25 t611.length co25) (.slice Ao28 t614.length co28))) bz_); have HO624 := Aside0.mk (Kd.R_lower (rn_ (rn_ (rn_ (rn_ ho1 (rs2_ HO607.out BK618.out (.slice Ao25 t611.length co25) (.slice Ao28 t614.length co28))) (rs2_ HO610.out BK618.out (.slice Ao25 t611.length co25) (.slice Ao28 t614.length co28))) (rs2_ HO613.out BK618.out (.slice Ao25 t611.length co25) (.slice Ao28 t614.length co28))) (rs2_ HO616.out BK618.out (.slice Ao25 t611.length co25) (.slice Ao28 t614.length co28))) bz_); replace HO607 := Aside0.mk (ro2_ (rs2_ HO607.out BK618.out (.slice Ao25 t611.length co25) (.slice Ao28 t614.length co28)) hb (Kd.R_base ho0) (Kd.R_base ho1)); replace HO610 := Aside0.mk (ro2_ (rs2_ HO610.out BK618.out (.slice Ao25 t611.length co25) (.slice Ao28 t614.length co28)) hb (Kd.R_base ho0) (Kd.R_base ho1)); replace HO613 := Aside0.mk (ro2_ (rs2_ HO613.out BK618.out (.slice Ao25 t611.length co25) (.slice Ao28 t614.length co28)) hb (Kd.R_base ho0) (Kd.R_base ho1)); replace HO616 := Aside0.mk (ro2_ (rs2_ HO616.out BK618.out (.slice Ao25 t611.length co25) (.slice Ao28 t614.length co28)) hb (Kd.R_base ho0) (Kd.R_base ho1)); replace BK603 := Aside0.mk (blk_below (g := gb603) (o := .cells #[.slice A0_0 l0_0.length c0_0, .slice A0_1 l0_1.length c0_1] 24 (0, 0)) kz_ hb); replace BK618 := Aside0.mk (blk_below (g := gb618) (o := .cells #[.slice Ao25 t611.length co25, .slice Ao28 t614.length co28] 29 (0, 0)) (by (with_reducible repeat (first | refine blk_drewN ?_ _ | refine blk_drew ?_ | refine blk_alloc ?_ _)); refine blk_put (cs := #[.slice Ao25 t611.length co25, .slice none 0 0]) ?_ 1 _ rfl; (with_reducible repeat (first | refine blk_drewN ?_ _ | refine blk_drew ?_ | refine blk_alloc ?_ _)); refine blk_put (cs := #[.slice none 0 0, .slice none 0 0]) ?_ 0 _ rfl; exact kb_ BK618.out) hb); replace HB := Aside0.mk (below_step bl_ hb); clear hb ho0 ho1) | ((with_reducible refine gate_dst (N := 10) rfl ?_); refine box_event rfl (N := 10) rfl (cs := #[.slice none 0 0, .slice none 0 0]) (t := 29) gs_ ?_; intro gb625 hg w31 hbox hb; replace HO607 := rb_ HO607 hb; replace HO610 := rb_ HO610 hb; replace HO613 := rb_ HO613 hb; replace HO616 := rb_ HO616 hb; replace HO621 := rb_ HO621 hb; replace HO624 := rb_ HO624 hb; have BK625 := Aside0.mk (hbox); have GW625 := Aside0.mk ((by rw [hg]; exact bz_ : w.heap.size ≤ gb625)); have GE625 := GW625; replace HB := Aside0.mk (below_step bl_ hb); have NB603_625 := nl_ hg BK603; have NB625_603 := nm_ hg BK603; replace BK603 := bb_ BK603 hb; have NB618_625 := nl_ hg BK618; have NB625_618 := nm_ hg BK618; replace BK618 := bb_ BK618 hb; clear hb hbox hg; obtain ⟨Ao32, co32, eo32⟩ := Kd.R_slice HO621.out; subst eo32; have hnb33 := NB625_603.out; have hnc33 := NB603_625.out; have hnb34 := NB625_618.out; have hnc34 := NB618_625.out; have hcz35_0 : w31.cell? ⟨gb625, 0, none⟩ = some (.slice none 0 0) := bc_ BK625.out 0; have hcz35_1 : w31.cell? ⟨gb625, 1, none⟩ = some (.slice none 0 0) := bc_ BK625.out 1; have hfz35_0 := blk_frozen BK625.out 0; have hfz35_1 := blk_frozen BK625.out 1; obtain ⟨Ao36, co36, eo36⟩ := Kd.R_slice HO624.out; subst eo36) | ((with_reducible refine gate_callee (f := 25) rfl ?_); refine goesL_ (some 40) rfl rfl Try.func25 (by kernel_rfl) rfl #[.agg #[.slice Ao32 t619.length co32, .slice Ao36 t622.length co36], .int .i64 a1, .string a2] rfl nc_ ?_; (with_reducible refine (impl_AddTo.calls k _ _ t619 _ _ t622 a1 a2 t626 t629 t632 _ ?side1 ?side2 ?side3 ?side4 A14.out).mono ?_); (case side1 => exact (Kd.R_reads' (kr_ (rs2_ HO621.out BK625.out (.slice Ao32 t619.length co32) (.slice Ao36 t622.length co36)))).2.2); (case side2 => exact (Kd.R_reads' HO621.out).2.1); (case side3 => exact (Kd.R_reads' (kr_ (rs2_ HO624.out BK625.out (.slice Ao32 t619.length co32) (.slice Ao36 t622.length co36)))).2.2); (case side4 => exact (Kd.R_reads' HO624.out).2.1); rintro e w37 ⟨v627, v630, rfl, ho0, ho1, hb⟩; refine ⟨_, rfl, ?_⟩; have HO628 := Aside0.mk (Kd.R_lower (rn_ (rn_ (rn_ (rn_ (rn_ (rn_ ho0 (rs2_ HO607.out BK625.out (.slice Ao32 t619.length co32) (.slice Ao36 t622.length co36))) (rs2_ HO610.out BK625.out (.slice Ao32 t619.length co32) (.slice Ao36 t622.length co36))) (rs2_ HO613.out BK625.out (.slice Ao32 t619.length co32) (.slice Ao36 t622.length co36))) (rs2_ HO616.out BK625.out (.slice Ao32 t619.length co32) (.slice Ao36 t622.length co36))) (rs2_ HO621.out BK625.out (.slice Ao32 t619.length co32) (.slice Ao36 t622.length co36))) (rs2_ HO624.out BK625.out (.slice Ao32 t619.length co32) (.slice Ao36 t622.length co36))) bz_); have HO631 := Aside0.mk (Kd.R_lower (rn_ (rn_ (rn_ (rn_ (rn_ (rn_ ho1 (rs2_ HO607.out BK625.out (.slice Ao32 t619.length co32) (.slice Ao36 t622.length co36))) (rs2_ HO610.out BK625.out (.slice Ao32 t619.length co32) (.slice Ao36 t622.length co36))) (rs2_ HO613.out BK625.out (.slice Ao32 t619.length co32) (.slice Ao36 t622.length co36))) (rs2_ HO616.out BK625.out (.slice Ao32 t619.length co32) (.slice Ao36 t622.length co36))) (rs2_ HO621.out BK625.out (.slice Ao32 t619.length co32) (.slice Ao36 t622.length co36))) (rs2_ HO624.out BK625.out (.slice Ao32 t619.length co32) (.slice Ao36 t622.length co36))) bz_); replace HO607 := Aside0.mk (ro2_ (rs2_ HO607.out BK625.out (.slice Ao32 t619.length co32) (.slice Ao36 t622.length co36)) hb (Kd.R_base ho0) (Kd.R_base ho1)); replace HO610 := Aside0.mk (ro2_ (rs2_ HO610.out BK625.out (.slice Ao32 t619.length co32) (.slice Ao36 t622.length co36)) hb (Kd.R_base ho0) (Kd.R_base ho1)); replace HO613 := Aside0.mk (ro2_ (rs2_ HO613.out BK625.out (.slice Ao32 t619.length co32) (.slice Ao36 t622.length co36)) hb (Kd.R_base ho0) (Kd.R_base ho1)); replace HO616 := Aside0.mk (ro2_ (rs2_ HO616.out BK625.out (.slice Ao32 t619.length co32) (.slice Ao36 t622.length co36)) hb (Kd.R_base ho0) (Kd.R_base ho1)); replace HO621 := Aside0.mk (ro2_ (rs2_ HO621.out BK625.out (.slice Ao32 t619.length co32) (.slice Ao36 t622.length co36)) hb (Kd.R_base ho0) (Kd.R_base ho1)); replace HO624 := Aside0.mk (ro2_ (rs2_ HO624.out BK625.out (.slice Ao32 t619.length co32) (.slice Ao36 t622.length co36)) hb (Kd.R_base ho0) (Kd.R_base ho1)); replace BK603 := Aside0.mk (blk_below (g := gb603) (o := .cells #[.slice A0_0 l0_0.length c0_0, .slice A0_1 l0_1.length c0_1] 24 (0, 0)) kz_ hb); replace BK618 := Aside0.mk (blk_below (g := gb618) (o := .cells #[.slice Ao25 t611.length co25, .slice Ao28 t614.length co28] 29 (0, 0)) kz_ hb); replace BK625 := Aside0.mk (blk_below (g := gb625) (o := .cells #[.slice Ao32 t619.length co32, .slice Ao36 t622.length co36] 29 (0, 0)) (by (with_reducible repeat (first | refine blk_drewN ?_ _ | refine blk_drew ?_ | refine blk_alloc ?_ _)); refine blk_put (cs := #[.slice Ao32 t619.length co32, .slice none 0 0]) ?_ 1 _ rfl; (with_reducible repeat (first | refine blk_drewN ?_ _ | refine blk_drew ?_ | refine blk_alloc ?_ _)); refine blk_put (cs := #[.slice none 0 0, .slice none 0 0]) ?_ 0 _ rfl; exact kb_ BK625.out) hb); replace HB := Aside0.mk (below_step bl_ hb); clear hb ho0 ho1) | ((with_reducible refine gate_dst (N := 11) rfl ?_); refine box_event rfl (N := 11) rfl (cs := #[.slice none 0 0, .slice none 0 0]) (t := 29) gs_ ?_; intro gb633 hg w38 hbox hb; replace HO607 := rb_ HO607 hb; replace HO610 := rb_ HO610 hb; replace HO613 := rb_ HO613 hb; replace HO616 := rb_ HO616 hb; replace HO621 := rb_ HO621 hb; replace HO624 := rb_ HO624 hb; replace HO628 := rb_ HO628 hb; replace HO631 := rb_ HO631 hb; have BK633 := Aside0.mk (hbox); have GW633 := Aside0.mk ((by rw [hg]; exact bz_ : w.heap.size ≤ gb633)); have GE633 := GW633; replace HB := Aside0.mk (below_step bl_ hb); have NB603_633 := nl_ hg BK603; have NB633_603 := nm_ hg BK603; replace BK603 := bb_ BK603 hb; have NB618_633 := nl_ hg BK618; have NB633_618 := nm_ hg BK618; replace BK618 := bb_ BK618 hb; have NB625_633 := nl_ hg BK625; have NB633_625 := nm_ hg BK625; replace BK625 := bb_ BK625 hb; clear hb hbox hg; obtain ⟨Ao39, co39, eo39⟩ := Kd.R_slice HO628.out; subst eo39; have hnb40 := NB633_603.out; have hnc40 := NB603_633.out; have hnb41 := NB633_618.out; have hnc41 := NB618_633.out; have hnb42 := NB633_625.out; have hnc42 := NB625_633.out; have hcz43_0 : w38.cell? ⟨gb633, 0, none⟩ = some (.slice none 0 0) := bc_ BK633.out 0; have hcz43_1 : w38.cell? ⟨gb633, 1, none⟩ = some (.slice none 0 0) := bc_ BK633.out 1; have hfz43_0 := blk_frozen BK633.out 0; have hfz43_1 := blk_frozen BK633.out 1; obtain ⟨Ao44, co44, eo44⟩ := Kd.R_slice HO631.out; subst eo44))
 (try simp only [Act.put, List.setIfInBounds_toArray, List.set_cons_zero, List.set_cons_succ])
 go_cut [51] (fun v51 wc => ∃ (kq : Nat) (x51_14 : Bool), v51 = .bool x51_14 ∧ Aside0 (laws_FnExactAddTo.j0 kq a1 a2 t617 t632 x51_14 l0_0 l0_1 t611 t614 t619 t622 t626 t629 = some r) ∧ Aside0 (kq ≤ k) ∧ Aside0 (Kd.R k48 48 wc w.heap.size (fun k_ => some k_ ≠ ((.slice Ao28 t614.length co28) : Value).ownBlock ∧ some k_ ≠ ((.slice Ao32 t619.length co32) : Value).ownBlock ∧ some k_ ≠ ((.slice Ao36 t622.length co36) : Value).ownBlock ∧ some k_ ≠ ((.slice Ao39 t626.length co39) : Value).ownBlock ∧ some k_ ≠ ((.slice Ao44 t629.length co44) : Value).ownBlock) (.slice Ao25 t611.length co25) t611) ∧ Aside0 (Kd.R k48 48 wc w.heap.size (fun k_ => some k_ ≠ ((.slice Ao25 t611.length co25) : Value).ownBlock ∧ some k_ ≠ ((.slice Ao32 t619.length co32) : Value).ownBlock ∧ some k_ ≠ ((.slice Ao36 t622.length co36) : Value).ownBlock ∧ some k_ ≠ ((.slice Ao39 t626.length co39) : Value).ownBlock ∧ some k_ ≠ ((.slice Ao44 t629.length co44) : Value).ownBlock) (.slice Ao28 t614.length co28) t614) ∧ Aside0 (Kd.R k48 48 wc w.heap.size (fun k_ => some k_ ≠ ((.slice Ao25 t611.length co25) : Value).ownBlock ∧ some k_ ≠ ((.slice Ao28 t614.length co28) : Value).ownBlock ∧ some k_ ≠ ((.slice Ao36 t622.length co36) : Value).ownBlock ∧ some k_ ≠ ((.slice Ao39 t626.length co39) : Value).ownBlock ∧ some k_ ≠ ((.slice Ao44 t629.length co44) : Value).ownBlock) (.slice Ao32 t619.length co32) t619) ∧ Aside0 (Kd.R k48 48 wc w.heap.size (fun k_ => some k_ ≠ ((.slice Ao25 t611.length co25) : Value).ownBlock ∧ some k_ ≠ ((.slice Ao28 t614.length co28) : Value).ownBlock ∧ some k_ ≠ ((.slice Ao32 t619.length co32) : Value).ownBlock ∧ some k_ ≠ ((.slice Ao39 t626.length co39) : Value).ownBlock ∧ some k_ ≠ ((.slice Ao44 t629.length co44) : Value).ownBlock) (.slice Ao36 t622.length co36) t622) ∧ Aside0 (Kd.R k48 48 wc w.heap.size (fun k_ => some k_ ≠ ((.slice Ao25 t611.length co25) : Value).ownBlock ∧ some k_ ≠ ((.slice Ao28 t614.length co28) : Value).ownBlock ∧ some k_ ≠ ((.slice Ao32 t619.length co32) : Value).ownBlock ∧ some k_ ≠ ((.slice Ao36 t622.length co36) : Value).ownBlock ∧ some k_ ≠ ((.slice Ao44 t629.length co44) : Value).ownBlock) (.slice Ao39 t626.length co39) t626) ∧ Aside0 (Kd.R k48 48 wc w.heap.size (fun k_ => some k_ ≠ ((.slice Ao25 t611.length co25) : Value).ownBlock ∧ some k_ ≠ ((.slice Ao28 t614.length co28) : Value).ownBlock ∧ some k_ ≠ ((.slice Ao32 t619.length co32) : Value).ownBlock ∧ some k_ ≠ ((.slice Ao36 t622.length co36) : Value).ownBlock ∧ some k_ ≠ ((.slice Ao39 t626.length co39) : Value).ownBlock) (.slice Ao44 t629.length co44) t629) ∧ Aside0 (wc.heap[gb603]? = some (.cells #[(.slice A0_0 l0_0.length c0_0), (.slice A0_1 l0_1.length c0_1)] 24 (0, 0))) ∧ Aside0 (wc.heap[gb618]? = some (.cells #[(.slice Ao25 t611.length co25), (.slice Ao28 t614.length co28)] 29 (0, 0))) ∧ Aside0 (wc.heap[gb625]? = some (.cells #[(.slice Ao32 t619.length co32), (.slice Ao36 t622.length co36)] 29 (0, 0))) ∧ Aside0 (wc.heap[gb633]? = some (.cells #[(.slice Ao39 t626.length co39), (.slice Ao44 t629.length co44)] 29 (0, 0))) ∧ Aside0 (Below w.heap.size w wc))
 case first =>
  have H := HC15.out
  clear HC15
  replace H := Option.bind_eq_some_iff.mp H
  obtain ⟨t634, A450, H⟩ := H
  replace H : (if t634 = true then (laws_FnExactAddTo.j0 k a1 a2 t617 t632 (t632 != t617) l0_0 l0_1 t611 t614 t619 t622 t626 t629) else (none)) = some r := H
  have A45 := Aside0.mk A450
  clear A450
  by_cases c46 : t634 = true
  rotate_left
  ·replace c46 := Bool.eq_false_iff.mpr c46
   subst c46
   have H1 : (none) = some r := by rw [if_neg (show ¬ (false = true) by decide)] at H; exact H
   clear H
   have H := H1
   clear H1
   exact absurd H (by simp)
  subst c46
  have H1 : (laws_FnExactAddTo.j0 k a1 a2 t617 t632 (t632 != t617) l0_0 l0_1 t611 t614 t619 t622 t626 t629) = some r := by rw [if_pos rfl] at H; exact H
  clear H
  have H := H1
  clear H1
  have H' := Aside0.mk H
  clear H
  have hnb47 := NB633_603.out
  have hnc47 := NB603_633.out
  have hnb48 := NB633_618.out
  have hnc48 := NB618_633.out
  have hnb49 := NB633_625.out
  have hnc49 := NB625_633.out
  have hcz50_0 : w38.cell? ⟨gb633, 0, none⟩ = some (.slice none 0 0) := bc_ BK633.out 0
  have hcz50_1 : w38.cell? ⟨gb633, 1, none⟩ = some (.slice none 0 0) := bc_ BK633.out 1
  have hfz50_0 := blk_frozen BK633.out 0
  have hfz50_1 := blk_frozen BK633.out 1
  have hnb51 := NB618_603.out
  have hnc51 := NB603_618.out
  have hnb52 := NB618_625.out
  have hnc52 := NB625_618.out
  have hcz53_0 : w38.cell? ⟨gb618, 0, none⟩ = some (.slice Ao25 t611.length co25) := bc_ BK618.out 0
  have hcz53_1 : w38.cell? ⟨gb618, 1, none⟩ = some (.slice Ao28 t614.length co28) := bc_ BK618.out 1
  have hfz53_0 := blk_frozen BK618.out 0
  have hfz53_1 := blk_frozen BK618.out 1
  go_wp2_with (first | ((with_reducible refine gate_callee (f := 12) rfl ?_); refine goesL_ (some 45) rfl rfl Try.func12 (by kernel_rfl) rfl #[.agg #[.slice Ao39 t626.length co39, .slice Ao44 t629.length co44], .agg #[.slice Ao25 t611.length co25, .slice Ao28 t614.length co28]] rfl nc_ ?_; (with_reducible refine (laws_eqBag.calls k _ _ t626 _ _ t629 _ _ t611 _ _ t614 true _ ?side1 ?side2 ?side3 ?side4 ?side5 ?side6 ?side7 ?side8 A45.out).mono ?_); (case side1 => exact (Kd.R_reads' (kr_ (rs2_ HO628.out BK633.out (.slice Ao39 t626.length co39) (.slice Ao44 t629.length co44)))).2.2); (case side2 => exact (Kd.R_reads' HO628.out).2.1); (case side3 => exact (Kd.R_reads' (kr_ (rs2_ HO631.out BK633.out (.slice Ao39 t626.length co39) (.slice Ao44 t629.length co44)))).2.2); (case side4 => exact (Kd.R_reads' HO631.out).2.1); (case side5 => exact (Kd.R_reads' (kr_ (rs2_ HO613.out BK633.out (.slice Ao39 t626.length co39) (.slice Ao44 t629.length co44)))).2.2); (case side6 => exact (Kd.R_reads' HO613.out).2.1); (case side7 => exact (Kd.R_reads' (kr_ (rs2_ HO616.out BK633.out (.slice Ao39 t626.length co39) (.slice Ao44 t629.length co44)))).2.2); (case side8 => exact (Kd.R_reads' HO616.out).2.1); rintro e w54 ⟨rfl, hb⟩; refine ⟨_, rfl, ?_⟩; replace HO607 := Aside0.mk (Kd.R_below (kr_ (rs2_ HO607.out BK633.out (.slice Ao39 t626.length co39) (.slice Ao44 t629.length co44))) hb); replace HO610 := Aside0.mk (Kd.R_below (kr_ (rs2_ HO610.out BK633.out (.slice Ao39 t626.length co39) (.slice Ao44 t629.length co44))) hb); replace HO613 := Aside0.mk (Kd.R_below (kr_ (rs2_ HO613.out BK633.out (.slice Ao39 t626.length co39) (.slice Ao44 t629.length co44))) hb); replace HO616 := Aside0.mk (Kd.R_below (kr_ (rs2_ HO616.out BK633.out (.slice Ao39 t626.length co39) (.slice Ao44 t629.length co44))) hb); replace HO621 := Aside0.mk (Kd.R_below (kr_ (rs2_ HO621.out BK633.out (.slice Ao39 t626.length co39) (.slice Ao44 t629.length co44))) hb); replace HO624 := Aside0.mk (Kd.R_below (kr_ (rs2_ HO624.out BK633.out (.slice Ao39 t626.length co39) (.slice Ao44 t629.length co44))) hb); replace HO628 := Aside0.mk (Kd.R_below (kr_ (rs2_ HO628.out BK633.out (.slice Ao39 t626.length co39) (.slice Ao44 t629.length co44))) hb); replace HO631 := Aside0.mk (Kd.R_below (kr_ (rs2_ HO631.out BK633.out (.slice Ao39 t626.length co39) (.slice Ao44 t629.length co44))) hb); replace BK603 := Aside0.mk (blk_below (g := gb603) (o := .cells #[.slice A0_0 l0_0.length c0_0, .slice A0_1 l0_1.length c0_1] 24 (0, 0)) kz_ hb); replace BK618 := Aside0.mk (blk_below (g := gb618) (o := .cells #[.slice Ao25 t611.length co25, .slice Ao28 t614.length co28] 29 (0, 0)) kz_ hb); replace BK625 := Aside0.mk (blk_below (g := gb625) (o := .cells #[.slice Ao32 t619.length co32, .slice Ao36 t622.length co36] 29 (0, 0)) kz_ hb); replace BK633 := Aside0.mk (blk_below (g := gb633) (o := .cells #[.slice Ao39 t626.length co39, .slice Ao44 t629.length co44] 29 (0, 0)) (by (with_reducible repeat (first | refine blk_drewN ?_ _ | refine blk_drew ?_ | refine blk_alloc ?_ _)); refine blk_put (cs := #[.slice Ao39 t626.length co39, .slice none 0 0]) ?_ 1 _ rfl; (with_reducible repeat (first | refine blk_drewN ?_ _ | refine blk_drew ?_ | refine blk_alloc ?_ _)); refine blk_put (cs := #[.slice none 0 0, .slice none 0 0]) ?_ 0 _ rfl; exact kb_ BK633.out) hb); replace HB := Aside0.mk (below_step bl_ hb); clear hb))
  go_meet
  case rel => exact ⟨_, ((t632 != t617)), (by first | rfl | (simp; done) | (simp [*]; done)), H', ⟨by first | omega | exact Nat.le_refl _⟩, ⟨kp_ HO613.out⟩, ⟨kp_ HO616.out⟩, ⟨kp_ HO621.out⟩, ⟨kp_ HO624.out⟩, ⟨kp_ HO628.out⟩, ⟨kp_ HO631.out⟩, ⟨by exact kb_ BK603.out⟩, ⟨by exact kb_ BK618.out⟩, ⟨by exact kb_ BK625.out⟩, ⟨by exact kb_ BK633.out⟩, ⟨bl_⟩⟩
 clear HC15
 try clear c1
 try clear c2
 try clear p2
 try clear c3
 try clear c4
 try clear c4b0
 try clear c4b1
 try clear c5
 try clear c7
 try clear c7b0
 try clear c8
 try clear c10
 try clear c12
 try clear c24
 try clear c25
 try clear c26
 try clear c33
 try clear c34
 try clear c40
 try clear c41
 try clear c42
 try clear c46
 try clear c47
 try clear c48
 try clear c49
 try clear c51
 try clear c52
 try clear hcz17_0
 try clear hcz17_1
 try clear hcz19_0
 try clear hcz19_1
 try clear hcz27_0
 try clear hcz27_1
 try clear hcz29_0
 try clear hcz29_1
 try clear hcz35_0
 try clear hcz35_1
 try clear hcz43_0
 try clear hcz43_1
 try clear hcz50_0
 try clear hcz50_1
 try clear hcz53_0
 try clear hcz53_1
 try clear hcz9_0
 try clear hcz9_1
 try clear hfz17_0
 try clear hfz17_1
 try clear hfz19_0
 try clear hfz19_1
 try clear hfz27_0
 try clear hfz27_1
 try clear hfz29_0
 try clear hfz29_1
 try clear hfz35_0
 try clear hfz35_1
 try clear hfz43_0
 try clear hfz43_1
 try clear hfz50_0
 try clear hfz50_1
 try clear hfz53_0
 try clear hfz53_1
 try clear hfz9_0
 try clear hfz9_1
 obtain ⟨kq, x51_14, rfl, HA, HJ14, HO_619000, HO_619001, HO_626000, HO_626001, HO_634000, HO_634001, BK603, BK618, BK625, BK633, HB⟩ := hcut
 cases kq with
 | zero => exact absurd HA.out (by simp [laws_FnExactAddTo.j0])
 | succ kj14 => ?_
 have H := HA.out
 clear HA
 simp only [laws_FnExactAddTo.j0] at H
 by_cases c55 : x51_14 = true
 ·subst c55
  have H1 : (none) = some r := by rw [if_pos rfl] at H; exact H
  clear H
  have H := H1
  clear H1
  exact absurd H (by simp)
 replace c55 := Bool.eq_false_iff.mpr c55
 subst c55
 have H1 : ((laws_toBag.f kj14 l0_0 l0_1).bind fun bt635 => ((laws_eqBag.f kj14 t619 t622 bt635.1 bt635.2).bind fun t641 => (if t641 = true then ((laws_markBag.f kj14 t619 t622 1).bind fun bt642 => (if bt642.1 < 0 then (none) else ((laws_eqBag.f kj14 t626 t629 t611 t614).bind fun t645 => (if t645 = true then (laws_FnExactAddTo.j1 kj14 a1 a2 t617 (t632 != t617) l0_0 l0_1 t611 t614 t626 t629) else (none))))) else (none)))) = some r := by rw [if_neg (show ¬ (false = true) by decide)] at H; exact H
 clear H
 have H := H1
 clear H1
 replace H := Option.bind_eq_some_iff.mp H
 obtain ⟨⟨t635, t638⟩, A560, H⟩ := H
 replace H : ((laws_eqBag.f kj14 t619 t622 t635 t638).bind fun t641 => (if t641 = true then ((laws_markBag.f kj14 t619 t622 1).bind fun bt642 => (if bt642.1 < 0 then (none) else ((laws_eqBag.f kj14 t626 t629 t611 t614).bind fun t645 => (if t645 = true then (laws_FnExactAddTo.j1 kj14 a1 a2 t617 (t632 != t617) l0_0 l0_1 t611 t614 t626 t629) else (none))))) else (none))) = some r := H
 have A56 := Aside0.mk A560
 clear A560
 replace H := Option.bind_eq_some_iff.mp H
 obtain ⟨t641, A570, H⟩ := H
 replace H : (if t641 = true then ((laws_markBag.f kj14 t619 t622 1).bind fun bt642 => (if bt642.1 < 0 then (none) else ((laws_eqBag.f kj14 t626 t629 t611 t614).bind fun t645 => (if t645 = true then (laws_FnExactAddTo.j1 kj14 a1 a2 t617 (t632 != t617) l0_0 l0_1 t611 t614 t626 t629) else (none))))) else (none)) = some r := H
 have A57 := Aside0.mk A570
 clear A570
 by_cases c58 : t641 = true
 rotate_left
 ·replace c58 := Bool.eq_false_iff.mpr c58
  subst c58
  have H1 : (none) = some r := by rw [if_neg (show ¬ (false = true) by decide)] at H; exact H
  clear H
  have H := H1
  clear H1
  exact absurd H (by simp)
 subst c58
 have H1 : ((laws_markBag.f kj14 t619 t622 1).bind fun bt642 => (if bt642.1 < 0 then (none) else ((laws_eqBag.f kj14 t626 t629 t611 t614).bind fun t645 => (if t645 = true then (laws_FnExactAddTo.j1 kj14 a1 a2 t617 (t632 != t617) l0_0 l0_1 t611 t614 t626 t629) else (none))))) = some r := by rw [if_pos rfl] at H; exact H
 clear H
 have H := H1
 clear H1
 replace H := Option.bind_eq_some_iff.mp H
 obtain ⟨⟨t642, t643, t644⟩, A590, H⟩ := H
 replace H : (if t642 < 0 then (none) else ((laws_eqBag.f kj14 t626 t629 t611 t614).bind fun t645 => (if t645 = true then (laws_FnExactAddTo.j1 kj14 a1 a2 t617 (t632 != t617) l0_0 l0_1 t611 t614 t626 t629) else (none)))) = some r := H
 have A59 := Aside0.mk A590
 clear A590
 have HC60 := Aside0.mk H
 clear H
 try go_wp2
 replace HO_619000 := Aside0.mk (Kd.R_drew HO_619000.out)
 replace HO_619001 := Aside0.mk (Kd.R_drew HO_619001.out)
 replace HO_626000 := Aside0.mk (Kd.R_drew HO_626000.out)
 replace HO_626001 := Aside0.mk (Kd.R_drew HO_626001.out)
 replace HO_634000 := Aside0.mk (Kd.R_drew HO_634000.out)
 replace HO_634001 := Aside0.mk (Kd.R_drew HO_634001.out)
 replace BK603 := Aside0.mk (blk_drew BK603.out)
 replace BK618 := Aside0.mk (blk_drew BK618.out)
 replace BK625 := Aside0.mk (blk_drew BK625.out)
 replace BK633 := Aside0.mk (blk_drew BK633.out)
 replace HB := Aside0.mk (below_drew1 HB.out)
 refine start_ (n := 5) (S := fun w' => w'.cell? ⟨gb625, 0, none⟩ = some (.slice Ao32 t619.length co32) ∧ w'.cell? ⟨gb625, 1, none⟩ = some (.slice Ao36 t622.length co36) ∧ w'.cell? ⟨gb603, 0, none⟩ = some (.slice A0_0 l0_0.length c0_0) ∧ w'.cell? ⟨gb603, 1, none⟩ = some (.slice A0_1 l0_1.length c0_1)) (ds := []) #[false, false, false, false, false] (by kernel_rfl) rfl rfl ⟨bc_ BK625.out 0, bc_ BK625.out 1, bc_ BK603.out 0, bc_ BK603.out 1⟩ (fun hHeld => ?_)
 generalize wc.drew = w61 at HO_619000 HO_619001 HO_626000 HO_626001 HO_634000 HO_634001 BK603 BK618 BK625 BK633 HB hHeld ⊢
 refine tk4_ 0 (some 52) (h := ?_)
 refine tk4_ 1 (some 53) (h := ?_)
 refine on_ 2 (some 54) (h := fun K hK => ?_)
 refine goes_ Try.func10 (by kernel_rfl) rfl #[.agg #[.slice A0_0 l0_0.length c0_0, .slice A0_1 l0_1.length c0_1]] (by rfl) rfl rfl nc_ ?_
 with_reducible refine (laws_toBag.calls kj14 _ _ l0_0 _ _ l0_1 t635 t638 _ ?side1 ?side2 ?side3 ?side4 A56.out).mono ?_
 (case side1 => exact kc_ (Kd.C_below HR0_0.out HB.out))
 (case side2 => exact HC0_0.out)
 (case side3 => exact kc_ (Kd.C_below HR0_1.out HB.out))
 (case side4 => exact HC0_1.out)
 rintro e w62 ⟨v636, v639, rfl, ho0, ho1, hb⟩
 refine ⟨_, rfl, ?_⟩
 have HO637 := Aside0.mk (Kd.R_lower (rn_ (rn_ (rn_ (rn_ (rn_ (rn_ ho0 HO_619000.out) HO_619001.out) HO_626000.out) HO_626001.out) HO_634000.out) HO_634001.out) bz_)
 have HO640 := Aside0.mk (Kd.R_lower (rn_ (rn_ (rn_ (rn_ (rn_ (rn_ ho1 HO_619000.out) HO_619001.out) HO_626000.out) HO_626001.out) HO_634000.out) HO_634001.out) bz_)
 replace HO_619000 := rp2_ HO_619000 hb ho0 ho1
 replace HO_619001 := rp2_ HO_619001 hb ho0 ho1
 replace HO_626000 := rp2_ HO_626000 hb ho0 ho1
 replace HO_626001 := rp2_ HO_626001 hb ho0 ho1
 replace HO_634000 := rp2_ HO_634000 hb ho0 ho1
 replace HO_634001 := rp2_ HO_634001 hb ho0 ho1
 replace BK603 := bb_ BK603 hb
 replace BK618 := bb_ BK618 hb
 replace BK625 := bb_ BK625 hb
 replace BK633 := bb_ BK633 hb
 replace HB := Aside0.mk (below_step bl_ hb)
 clear hb ho0 ho1
 obtain ⟨Ao63, co63, eo63⟩ := Kd.R_slice HO637.out
 (first | subst eo63 | (injection eo63 with f1_ f2_ f3_; have f4_ := f1_.symm; have f5_ := f3_.symm; clear f1_ f2_ f3_; subst f4_; subst f5_))
 obtain ⟨Ao64, co64, eo64⟩ := Kd.R_slice HO640.out
 (first | subst eo64 | (injection eo64 with f1_ f2_ f3_; have f4_ := f1_.symm; have f5_ := f3_.symm; clear f1_ f2_ f3_; subst f4_; subst f5_))
 refine hK.out _ _ ⟨bc_ BK625.out 0, bc_ BK625.out 1, bc_ BK603.out 0, bc_ BK603.out 1⟩ (fun hHeld => ?_)
 clear hK K
 refine norm_ nn_ ?_
 refine on_ 3 (some 55) (h := fun K hK => ?_)
 refine goes_ Try.func12 (by kernel_rfl) rfl #[.agg #[.slice Ao32 t619.length co32, .slice Ao36 t622.length co36], .agg #[.slice Ao63 t635.length co63, .slice Ao64 t638.length co64]] (by rfl) rfl rfl nc_ ?_
 with_reducible refine (laws_eqBag.calls kj14 _ _ t619 _ _ t622 _ _ t635 _ _ t638 true _ ?side1 ?side2 ?side3 ?side4 ?side5 ?side6 ?side7 ?side8 A57.out).mono ?_
 (case side1 => exact kc_ (Kd.R_reads' HO_626000.out).2.2)
 (case side2 => exact (Kd.R_reads' HO_626000.out).2.1)
 (case side3 => exact kc_ (Kd.R_reads' HO_626001.out).2.2)
 (case side4 => exact (Kd.R_reads' HO_626001.out).2.1)
 (case side5 => exact kc_ (Kd.R_reads' HO637.out).2.2)
 (case side6 => exact (Kd.R_reads' HO637.out).2.1)
 (case side7 => exact kc_ (Kd.R_reads' HO640.out).2.2)
 (case side8 => exact (Kd.R_reads' HO640.out).2.1)
 rintro e w65 ⟨rfl, hb⟩
 refine ⟨_, rfl, ?_⟩
 replace HO_619000 := rb_ HO_619000 hb
 replace HO_619001 := rb_ HO_619001 hb
 replace HO_626000 := rb_ HO_626000 hb
 replace HO_626001 := rb_ HO_626001 hb
 replace HO_634000 := rb_ HO_634000 hb
 replace HO_634001 := rb_ HO_634001 hb
 replace HO637 := rb_ HO637 hb
 replace HO640 := rb_ HO640 hb
 replace BK603 := bb_ BK603 hb
 replace BK618 := bb_ BK618 hb
 replace BK625 := bb_ BK625 hb
 replace BK633 := bb_ BK633 hb
 replace HB := Aside0.mk (below_step bl_ hb)
 clear hb
 refine hK.out _ _ ⟨bc_ BK625.out 0, bc_ BK625.out 1, bc_ BK603.out 0, bc_ BK603.out 1⟩ (fun hHeld => ?_)
 clear hK K
 refine norm_ nn_ ?_
 refine pu_ 4 (some 56) (h := ?_)
 refine done_ (by kernel_rfl) ?_
 have hnb66 := NB625_603.out
 have hnc66 := NB603_625.out
 have hnb67 := NB625_618.out
 have hnc67 := NB618_625.out
 have hnb68 := NB625_633.out
 have hnc68 := NB633_625.out
 have hcz69_0 : w65.cell? ⟨gb625, 0, none⟩ = some (.slice Ao32 t619.length co32) := bc_ BK625.out 0
 have hcz69_1 : w65.cell? ⟨gb625, 1, none⟩ = some (.slice Ao36 t622.length co36) := bc_ BK625.out 1
 have hfz69_0 := blk_frozen BK625.out 0
 have hfz69_1 := blk_frozen BK625.out 1
 go_upto_region 16 with (first | ((with_reducible refine gate_callee (f := 15) rfl ?_); refine goesL_ (some 59) rfl rfl Try.func15 (by kernel_rfl) rfl #[.agg #[.slice Ao32 t619.length co32, .slice Ao36 t622.length co36], .int .i64 1] rfl nc_ ?_; (with_reducible refine (laws_markBag.calls kj14 (fun k_ => some k_ = (.slice Ao32 t619.length co32 : Value).ownBlock) (.slice Ao32 t619.length co32) t619 (fun k_ => some k_ = (.slice Ao36 t622.length co36 : Value).ownBlock) (.slice Ao36 t622.length co36) t622 1 t642 t643 t644 w _ ?side1 ?side2 ?side3 ?side4 ?side5 A59.out).mono ?_); (case side1 => repeat (first | (with_reducible first | exact HB.out | apply below_alloc | apply pw_below_drewN | apply below_drew1 | refine below_set ?_ GE603.out | refine below_set ?_ GE618.out | refine below_set ?_ GE625.out | refine below_set ?_ GE633.out) | exact HB.out)); (case side2 => exact Kd.R_tight rfl HO_626000.out); (case side3 => exact fun k_ e_ => (HO_626000.out.1 k_ e_.symm).1.1.2.2.1); (case side4 => exact Kd.R_tight rfl HO_626001.out); (case side5 => exact fun k_ e_ => (HO_626001.out.1 k_ e_.symm).1.1.2.2.1); rintro e w70 ⟨rfl, hy0, hy1, hb, hkp⟩; refine ⟨_, rfl, ?_⟩; replace HO_619000 := Aside0.mk (Kd.R_mono (ok' := fun k_ => some k_ ≠ (.slice Ao28 t614.length co28 : Value).ownBlock ∧ some k_ ≠ (.slice Ao32 t619.length co32 : Value).ownBlock ∧ some k_ ≠ (.slice Ao36 t622.length co36 : Value).ownBlock ∧ some k_ ≠ (.slice Ao39 t626.length co39 : Value).ownBlock ∧ some k_ ≠ (.slice Ao44 t629.length co44 : Value).ownBlock ∧ some k_ ≠ (.slice Ao63 t635.length co63 : Value).ownBlock ∧ some k_ ≠ (.slice Ao64 t638.length co64 : Value).ownBlock) (Kd.R_keptB (HO_619000.out) hkp (fun k_ hk_ hs_ => Or.elim hs_ (fun e_ => (hk_.1.1.2.1) e_) (fun e_ => (hk_.1.1.2.2.1) e_))) (fun k_ hk_ => ⟨hk_.1.1.1.1, hk_.1.1.1.2.1, hk_.1.1.1.2.2.1, hk_.1.1.1.2.2.2.1, hk_.1.1.1.2.2.2.2, hk_.1.1.2, hk_.1.2⟩)); replace HO_619001 := Aside0.mk (Kd.R_mono (ok' := fun k_ => some k_ ≠ (.slice Ao25 t611.length co25 : Value).ownBlock ∧ some k_ ≠ (.slice Ao32 t619.length co32 : Value).ownBlock ∧ some k_ ≠ (.slice Ao36 t622.length co36 : Value).ownBlock ∧ some k_ ≠ (.slice Ao39 t626.length co39 : Value).ownBlock ∧ some k_ ≠ (.slice Ao44 t629.length co44 : Value).ownBlock ∧ some k_ ≠ (.slice Ao63 t635.length co63 : Value).ownBlock ∧ some k_ ≠ (.slice Ao64 t638.length co64 : Value).ownBlock) (Kd.R_keptB (HO_619001.out) hkp (fun k_ hk_ hs_ => Or.elim hs_ (fun e_ => (hk_.1.1.2.1) e_) (fun e_ => (hk_.1.1.2.2.1) e_))) (fun k_ hk_ => ⟨hk_.1.1.1.1, hk_.1.1.1.2.1, hk_.1.1.1.2.2.1, hk_.1.1.1.2.2.2.1, hk_.1.1.1.2.2.2.2, hk_.1.1.2, hk_.1.2⟩)); replace HO_634000 := Aside0.mk (Kd.R_mono (ok' := fun k_ => some k_ ≠ (.slice Ao25 t611.length co25 : Value).ownBlock ∧ some k_ ≠ (.slice Ao28 t614.length co28 : Value).ownBlock ∧ some k_ ≠ (.slice Ao32 t619.length co32 : Value).ownBlock ∧ some k_ ≠ (.slice Ao36 t622.length co36 : Value).ownBlock ∧ some k_ ≠ (.slice Ao44 t629.length co44 : Value).ownBlock ∧ some k_ ≠ (.slice Ao63 t635.length co63 : Value).ownBlock ∧ some k_ ≠ (.slice Ao64 t638.length co64 : Value).ownBlock) (Kd.R_keptB (HO_634000.out) hkp (fun k_ hk_ hs_ => Or.elim hs_ (fun e_ => (hk_.1.1.2.2.1) e_) (fun e_ => (hk_.1.1.2.2.2.1) e_))) (fun k_ hk_ => ⟨hk_.1.1.1.1, hk_.1.1.1.2.1, hk_.1.1.1.2.2.1, hk_.1.1.1.2.2.2.1, hk_.1.1.1.2.2.2.2, hk_.1.1.2, hk_.1.2⟩)); replace HO_634001 := Aside0.mk (Kd.R_mono (ok' := fun k_ => some k_ ≠ (.slice Ao25 t611.length co25 : Value).ownBlock ∧ some k_ ≠ (.slice Ao28 t614.length co28 : Value).ownBlock ∧ some k_ ≠ (.slice Ao32 t619.length co32 : Value).ownBlock ∧ some k_ ≠ (.slice Ao36 t622.length co36 : Value).ownBlock ∧ some k_ ≠ (.slice Ao39 t626.length co39 : Value).ownBlock ∧ some k_ ≠ (.slice Ao63 t635.length co63 : Value).ownBlock ∧ some k_ ≠ (.slice Ao64 t638.length co64 : Value).ownBlock) (Kd.R_keptB (HO_634001.out) hkp (fun k_ hk_ hs_ => Or.elim hs_ (fun e_ => (hk_.1.1.2.2.1) e_) (fun e_ => (hk_.1.1.2.2.2.1) e_))) (fun k_ hk_ => ⟨hk_.1.1.1.1, hk_.1.1.1.2.1, hk_.1.1.1.2.2.1, hk_.1.1.1.2.2.2.1, hk_.1.1.1.2.2.2.2, hk_.1.1.2, hk_.1.2⟩)); replace BK603 := Aside0.mk (blk_kept (kb_ BK603.out) hkp (fun hs_ => Or.elim hs_ (fun e_ => (fun e_ => (Kd.R_ne HO_626000.out BK603.out (by decide)) e_) e_) (fun e_ => (fun e_ => (Kd.R_ne HO_626001.out BK603.out (by decide)) e_) e_))); replace BK618 := Aside0.mk (blk_kept (kb_ BK618.out) hkp (fun hs_ => Or.elim hs_ (fun e_ => (fun e_ => (Kd.R_ne HO_626000.out BK618.out (by decide)) e_) e_) (fun e_ => (fun e_ => (Kd.R_ne HO_626001.out BK618.out (by decide)) e_) e_))); replace BK625 := Aside0.mk (blk_kept (kb_ BK625.out) hkp (fun hs_ => Or.elim hs_ (fun e_ => (fun e_ => (Kd.R_ne HO_626000.out BK625.out (by decide)) e_) e_) (fun e_ => (fun e_ => (Kd.R_ne HO_626001.out BK625.out (by decide)) e_) e_))); replace BK633 := Aside0.mk (blk_kept (kb_ BK633.out) hkp (fun hs_ => Or.elim hs_ (fun e_ => (fun e_ => (Kd.R_ne HO_626000.out BK633.out (by decide)) e_) e_) (fun e_ => (fun e_ => (Kd.R_ne HO_626001.out BK633.out (by decide)) e_) e_))); replace HO_626000 := Aside0.mk (Kd.R_reok rfl hy0 (fun k_ e_ => HO_626000.out.1 k_ e_)); replace HO_626001 := Aside0.mk (Kd.R_reok rfl hy1 (fun k_ e_ => HO_626001.out.1 k_ e_)); replace HO637 := Aside0.mk (Kd.R_mono (ok' := fun k_ => some k_ ≠ (.slice Ao25 t611.length co25 : Value).ownBlock ∧ some k_ ≠ (.slice Ao28 t614.length co28 : Value).ownBlock ∧ some k_ ≠ (.slice Ao32 t619.length co32 : Value).ownBlock ∧ some k_ ≠ (.slice Ao36 t622.length co36 : Value).ownBlock ∧ some k_ ≠ (.slice Ao39 t626.length co39 : Value).ownBlock ∧ some k_ ≠ (.slice Ao44 t629.length co44 : Value).ownBlock ∧ some k_ ≠ (.slice Ao64 t638.length co64 : Value).ownBlock) (Kd.R_keptB (HO637.out) hkp (fun k_ hk_ hs_ => Or.elim hs_ (fun e_ => (hk_.1.1.1.2) e_) (fun e_ => (hk_.1.1.2) e_))) (fun k_ hk_ => ⟨hk_.1.1.1.1.1.1.2, hk_.1.1.1.1.1.2, hk_.1.1.1.1.2, hk_.1.1.1.2, hk_.1.1.2, hk_.1.2, hk_.1.1.1.1.1.1.1⟩)); replace HO640 := Aside0.mk (Kd.R_mono (ok' := fun k_ => some k_ ≠ (.slice Ao25 t611.length co25 : Value).ownBlock ∧ some k_ ≠ (.slice Ao28 t614.length co28 : Value).ownBlock ∧ some k_ ≠ (.slice Ao32 t619.length co32 : Value).ownBlock ∧ some k_ ≠ (.slice Ao36 t622.length co36 : Value).ownBlock ∧ some k_ ≠ (.slice Ao39 t626.length co39 : Value).ownBlock ∧ some k_ ≠ (.slice Ao44 t629.length co44 : Value).ownBlock ∧ some k_ ≠ (.slice Ao63 t635.length co63 : Value).ownBlock) (Kd.R_keptB (HO640.out) hkp (fun k_ hk_ hs_ => Or.elim hs_ (fun e_ => (hk_.1.1.1.2) e_) (fun e_ => (hk_.1.1.2) e_))) (fun k_ hk_ => ⟨hk_.1.1.1.1.1.1.2, hk_.1.1.1.1.1.2, hk_.1.1.1.1.2, hk_.1.1.1.2, hk_.1.1.2, hk_.1.2, hk_.1.1.1.1.1.1.1⟩)); replace HB := Aside0.mk (hb); clear hb))
 (try simp only [Act.put, List.setIfInBounds_toArray, List.set_cons_zero, List.set_cons_succ])
 go_cut [72] (fun v72 wc => ∃ (kq : Nat) (x72_59 : Bool), v72 = .bool x72_59 ∧ Aside0 (laws_FnExactAddTo.j1 kq a1 a2 t617 x72_59 l0_0 l0_1 t611 t614 t626 t629 = some r) ∧ Aside0 (kq ≤ kj14) ∧ Aside0 (Kd.R k48 48 wc w.heap.size (fun k_ => some k_ ≠ ((.slice Ao28 t614.length co28) : Value).ownBlock ∧ some k_ ≠ ((.slice Ao32 t619.length co32) : Value).ownBlock ∧ some k_ ≠ ((.slice Ao36 t622.length co36) : Value).ownBlock ∧ some k_ ≠ ((.slice Ao39 t626.length co39) : Value).ownBlock ∧ some k_ ≠ ((.slice Ao44 t629.length co44) : Value).ownBlock) (.slice Ao25 t611.length co25) t611) ∧ Aside0 (Kd.R k48 48 wc w.heap.size (fun k_ => some k_ ≠ ((.slice Ao25 t611.length co25) : Value).ownBlock ∧ some k_ ≠ ((.slice Ao32 t619.length co32) : Value).ownBlock ∧ some k_ ≠ ((.slice Ao36 t622.length co36) : Value).ownBlock ∧ some k_ ≠ ((.slice Ao39 t626.length co39) : Value).ownBlock ∧ some k_ ≠ ((.slice Ao44 t629.length co44) : Value).ownBlock) (.slice Ao28 t614.length co28) t614) ∧ Aside0 (Kd.R k48 48 wc w.heap.size (fun k_ => some k_ ≠ ((.slice Ao25 t611.length co25) : Value).ownBlock ∧ some k_ ≠ ((.slice Ao28 t614.length co28) : Value).ownBlock ∧ some k_ ≠ ((.slice Ao36 t622.length co36) : Value).ownBlock ∧ some k_ ≠ ((.slice Ao39 t626.length co39) : Value).ownBlock ∧ some k_ ≠ ((.slice Ao44 t629.length co44) : Value).ownBlock) (.slice Ao32 t619.length co32) t643) ∧ Aside0 (Kd.R k48 48 wc w.heap.size (fun k_ => some k_ ≠ ((.slice Ao25 t611.length co25) : Value).ownBlock ∧ some k_ ≠ ((.slice Ao28 t614.length co28) : Value).ownBlock ∧ some k_ ≠ ((.slice Ao32 t619.length co32) : Value).ownBlock ∧ some k_ ≠ ((.slice Ao39 t626.length co39) : Value).ownBlock ∧ some k_ ≠ ((.slice Ao44 t629.length co44) : Value).ownBlock) (.slice Ao36 t622.length co36) t644) ∧ Aside0 (Kd.R k48 48 wc w.heap.size (fun k_ => some k_ ≠ ((.slice Ao25 t611.length co25) : Value).ownBlock ∧ some k_ ≠ ((.slice Ao28 t614.length co28) : Value).ownBlock ∧ some k_ ≠ ((.slice Ao32 t619.length co32) : Value).ownBlock ∧ some k_ ≠ ((.slice Ao36 t622.length co36) : Value).ownBlock ∧ some k_ ≠ ((.slice Ao44 t629.length co44) : Value).ownBlock) (.slice Ao39 t626.length co39) t626) ∧ Aside0 (Kd.R k48 48 wc w.heap.size (fun k_ => some k_ ≠ ((.slice Ao25 t611.length co25) : Value).ownBlock ∧ some k_ ≠ ((.slice Ao28 t614.length co28) : Value).ownBlock ∧ some k_ ≠ ((.slice Ao32 t619.length co32) : Value).ownBlock ∧ some k_ ≠ ((.slice Ao36 t622.length co36) : Value).ownBlock ∧ some k_ ≠ ((.slice Ao39 t626.length co39) : Value).ownBlock) (.slice Ao44 t629.length co44) t629) ∧ Aside0 (wc.heap[gb603]? = some (.cells #[(.slice A0_0 l0_0.length c0_0), (.slice A0_1 l0_1.length c0_1)] 24 (0, 0))) ∧ Aside0 (wc.heap[gb618]? = some (.cells #[(.slice Ao25 t611.length co25), (.slice Ao28 t614.length co28)] 29 (0, 0))) ∧ Aside0 (wc.heap[gb625]? = some (.cells #[(.slice Ao32 t619.length co32), (.slice Ao36 t622.length co36)] 29 (0, 0))) ∧ Aside0 (wc.heap[gb633]? = some (.cells #[(.slice Ao39 t626.length co39), (.slice Ao44 t629.length co44)] 29 (0, 0))) ∧ Aside0 (Below w.heap.size w wc))
 case first =>
  have H := HC60.out
  clear HC60
  by_cases c71 : t642 < 0
  ·rw [if_pos c71] at H
   exact absurd H (by simp)
  rw [if_neg c71] at H
  have c71b0 : decide (t642 < 0) = false := decide_eq_false c71
  clear c71
  (first | rw [c71b0] | (simp only [i64_w, i32_w]; rw [c71b0]) | skip)
  replace H := Option.bind_eq_some_iff.mp H
  obtain ⟨t645, A720, H⟩ := H
  replace H : (if t645 = true then (laws_FnExactAddTo.j1 kj14 a1 a2 t617 (t632 != t617) l0_0 l0_1 t611 t614 t626 t629) else (none)) = some r := H
  have A72 := Aside0.mk A720
  clear A720
  by_cases c73 : t645 = true
  rotate_left
  ·replace c73 := Bool.eq_false_iff.mpr c73
   subst c73
   have H1 : (none) = some r := by rw [if_neg (show ¬ (false = true) by decide)] at H; exact H
   clear H
   have H := H1
   clear H1
   exact absurd H (by simp)
  subst c73
  have H1 : (laws_FnExactAddTo.j1 kj14 a1 a2 t617 (t632 != t617) l0_0 l0_1 t611 t614 t626 t629) = some r := by rw [if_pos rfl] at H; exact H
  clear H
  have H := H1
  clear H1
  have H' := Aside0.mk H
  clear H
  have hnb74 := NB633_603.out
  have hnc74 := NB603_633.out
  have hnb75 := NB633_618.out
  have hnc75 := NB618_633.out
  have hnb76 := NB633_625.out
  have hnc76 := NB625_633.out
  have hcz77_0 : w70.cell? ⟨gb633, 0, none⟩ = some (.slice Ao39 t626.length co39) := bc_ BK633.out 0
  have hcz77_1 : w70.cell? ⟨gb633, 1, none⟩ = some (.slice Ao44 t629.length co44) := bc_ BK633.out 1
  have hfz77_0 := blk_frozen BK633.out 0
  have hfz77_1 := blk_frozen BK633.out 1
  have hnb78 := NB618_603.out
  have hnc78 := NB603_618.out
  have hnb79 := NB618_625.out
  have hnc79 := NB625_618.out
  have hcz80_0 : w70.cell? ⟨gb618, 0, none⟩ = some (.slice Ao25 t611.length co25) := bc_ BK618.out 0
  have hcz80_1 : w70.cell? ⟨gb618, 1, none⟩ = some (.slice Ao28 t614.length co28) := bc_ BK618.out 1
  have hfz80_0 := blk_frozen BK618.out 0
  have hfz80_1 := blk_frozen BK618.out 1
  go_wp2_with (first | (go_at_call 12; (with_reducible refine (laws_eqBag.calls kj14 _ _ t626 _ _ t629 _ _ t611 _ _ t614 true _ ?side1 ?side2 ?side3 ?side4 ?side5 ?side6 ?side7 ?side8 A72.out).mono ?_); (case side1 => exact kc_ (Kd.R_reads' HO_634000.out).2.2); (case side2 => exact (Kd.R_reads' HO_634000.out).2.1); (case side3 => exact kc_ (Kd.R_reads' HO_634001.out).2.2); (case side4 => exact (Kd.R_reads' HO_634001.out).2.1); (case side5 => exact kc_ (Kd.R_reads' HO_619000.out).2.2); (case side6 => exact (Kd.R_reads' HO_619000.out).2.1); (case side7 => exact kc_ (Kd.R_reads' HO_619001.out).2.2); (case side8 => exact (Kd.R_reads' HO_619001.out).2.1); rintro e w81 ⟨rfl, hb⟩; replace HO_619000 := rb_ HO_619000 hb; replace HO_619001 := rb_ HO_619001 hb; replace HO_626000 := rb_ HO_626000 hb; replace HO_626001 := rb_ HO_626001 hb; replace HO_634000 := rb_ HO_634000 hb; replace HO_634001 := rb_ HO_634001 hb; replace HO637 := rb_ HO637 hb; replace HO640 := rb_ HO640 hb; replace BK603 := bb_ BK603 hb; replace BK618 := bb_ BK618 hb; replace BK625 := bb_ BK625 hb; replace BK633 := bb_ BK633 hb; replace HB := Aside0.mk (below_step bl_ hb); clear hb))
  go_meet
  case rel => exact ⟨_, ((t632 != t617)), (by first | rfl | (simp; done) | (simp [*]; done)), H', ⟨by have := HJ14.out; first | omega | exact Nat.le_refl _⟩, ⟨kp_ HO_619000.out⟩, ⟨kp_ HO_619001.out⟩, ⟨kp_ HO_626000.out⟩, ⟨kp_ HO_626001.out⟩, ⟨kp_ HO_634000.out⟩, ⟨kp_ HO_634001.out⟩, ⟨by exact kb_ BK603.out⟩, ⟨by exact kb_ BK618.out⟩, ⟨by exact kb_ BK625.out⟩, ⟨by exact kb_ BK633.out⟩, ⟨bl_⟩⟩
 clear HC60
 try clear c1
 try clear c2
 try clear p2
 try clear c3
 try clear c4
 try clear c4b0
 try clear c4b1
 try clear c5
 try clear c6
 try clear c7
 try clear c7b0
 try clear c8
 try clear c10
 try clear c12
 try clear c15
 try clear c24
 try clear c25
 try clear c26
 try clear c33
 try clear c34
 try clear c40
 try clear c41
 try clear c42
 try clear c46
 try clear c47
 try clear c48
 try clear c49
 try clear c51
 try clear c52
 try clear c55
 try clear c58
 try clear c66
 try clear c67
 try clear c68
 try clear c71
 try clear c71b0
 try clear c73
 try clear c74
 try clear c75
 try clear c76
 try clear c78
 try clear c79
 try clear hcz17_0
 try clear hcz17_1
 try clear hcz19_0
 try clear hcz19_1
 try clear hcz27_0
 try clear hcz27_1
 try clear hcz29_0
 try clear hcz29_1
 try clear hcz35_0
 try clear hcz35_1
 try clear hcz43_0
 try clear hcz43_1
 try clear hcz50_0
 try clear hcz50_1
 try clear hcz53_0
 try clear hcz53_1
 try clear hcz69_0
 try clear hcz69_1
 try clear hcz77_0
 try clear hcz77_1
 try clear hcz80_0
 try clear hcz80_1
 try clear hcz9_0
 try clear hcz9_1
 try clear hfz17_0
 try clear hfz17_1
 try clear hfz19_0
 try clear hfz19_1
 try clear hfz27_0
 try clear hfz27_1
 try clear hfz29_0
 try clear hfz29_1
 try clear hfz35_0
 try clear hfz35_1
 try clear hfz43_0
 try clear hfz43_1
 try clear hfz50_0
 try clear hfz50_1
 try clear hfz53_0
 try clear hfz53_1
 try clear hfz69_0
 try clear hfz69_1
 try clear hfz77_0
 try clear hfz77_1
 try clear hfz80_0
 try clear hfz80_1
 try clear hfz9_0
 try clear hfz9_1
 try clear p2
 obtain ⟨kq, x72_59, rfl, HA, HJ59, HO_619000, HO_619001, HO_626000, HO_626001, HO_634000, HO_634001, BK603, BK618, BK625, BK633, HB⟩ := hcut
 have hl626000_59 := (Kd.R_reads' HO_626000.out).1
 rw [hl626000_59] at HO_626000
 (try simp only [hl626000_59])
 (try simp only [hl626000_59] at BK603)
 (try simp only [hl626000_59] at BK618)
 (try simp only [hl626000_59] at BK625)
 (try simp only [hl626000_59] at BK633)
 (try simp only [hl626000_59] at HO_619000)
 (try simp only [hl626000_59] at HO_619001)
 (try simp only [hl626000_59] at HO_626001)
 (try simp only [hl626000_59] at HO_634000)
 (try simp only [hl626000_59] at HO_634001)
 have hl626001_59 := (Kd.R_reads' HO_626001.out).1
 rw [hl626001_59] at HO_626001
 (try simp only [hl626001_59])
 (try simp only [hl626001_59] at BK603)
 (try simp only [hl626001_59] at BK618)
 (try simp only [hl626001_59] at BK625)
 (try simp only [hl626001_59] at BK633)
 (try simp only [hl626001_59] at HO_619000)
 (try simp only [hl626001_59] at HO_619001)
 (try simp only [hl626001_59] at HO_626000)
 (try simp only [hl626001_59] at HO_634000)
 (try simp only [hl626001_59] at HO_634001)
 cases kq with
 | zero => exact absurd HA.out (by simp [laws_FnExactAddTo.j1])
 | succ kj59 => ?_
 have H := HA.out
 clear HA
 simp only [laws_FnExactAddTo.j1] at H
 by_cases c82 : x72_59 = true
 ·subst c82
  have H1 : (none) = some r := by rw [if_pos rfl] at H; exact H
  clear H
  have H := H1
  clear H1
  exact absurd H (by simp)
 replace c82 := Bool.eq_false_iff.mpr c82
 subst c82
 have H1 : ((laws_markBag.f kj59 t626 t629 1).bind fun bt646 => ((laws_heldBag.f kj59 bt646.2.1 bt646.2.2 1).bind fun t649 => (if t649 < 0 then (none) else (if t649 = bt646.1 then ((laws_toBag.f kj59 l0_0 l0_1).bind fun bt650 => ((impl_AddTo.f kj59 bt650.1 bt650.2 a1 a2).bind fun bt656 => ((laws_eqBag.f kj59 bt656.1 bt656.2.1 t611 t614).bind fun t664 => (if t664 = true then (laws_FnExactAddTo.j2 kj59 bt646.1 (bt656.2.2 != t617) bt646.2.1 bt646.2.2) else (none))))) else (none))))) = some r := by rw [if_neg (show ¬ (false = true) by decide)] at H; exact H
 clear H
 have H := H1
 clear H1
 replace H := Option.bind_eq_some_iff.mp H
 obtain ⟨⟨t646, t647, t648⟩, A830, H⟩ := H
 replace H : ((laws_heldBag.f kj59 t647 t648 1).bind fun t649 => (if t649 < 0 then (none) else (if t649 = t646 then ((laws_toBag.f kj59 l0_0 l0_1).bind fun bt650 => ((impl_AddTo.f kj59 bt650.1 bt650.2 a1 a2).bind fun bt656 => ((laws_eqBag.f kj59 bt656.1 bt656.2.1 t611 t614).bind fun t664 => (if t664 = true then (laws_FnExactAddTo.j2 kj59 t646 (bt656.2.2 != t617) t647 t648) else (none))))) else (none)))) = some r := H
 have A83 := Aside0.mk A830
 clear A830
 replace H := Option.bind_eq_some_iff.mp H
 obtain ⟨t649, A840, H⟩ := H
 replace H : (if t649 < 0 then (none) else (if t649 = t646 then ((laws_toBag.f kj59 l0_0 l0_1).bind fun bt650 => ((impl_AddTo.f kj59 bt650.1 bt650.2 a1 a2).bind fun bt656 => ((laws_eqBag.f kj59 bt656.1 bt656.2.1 t611 t614).bind fun t664 => (if t664 = true then (laws_FnExactAddTo.j2 kj59 t646 (bt656.2.2 != t617) t647 t648) else (none))))) else (none))) = some r := H
 have A84 := Aside0.mk A840
 clear A840
 by_cases c85 : t649 < 0
 ·rw [if_pos c85] at H
  exact absurd H (by simp)
 rw [if_neg c85] at H
 have c85b0 : decide (t649 < 0) = false := decide_eq_false c85
 clear c85
 by_cases c86 : t649 = t646
 rotate_left
 ·rw [if_neg c86] at H
  exact absurd H (by simp)
 rw [if_pos c86] at H
 have c86b0 : (t649 == t646) = true := beq_iff_eq.mpr c86
 have c86b1 : (t649 != t646) = false := bne_eq_false_iff_eq.mpr c86
 clear c86
 replace H := Option.bind_eq_some_iff.mp H
 obtain ⟨⟨t650, t653⟩, A870, H⟩ := H
 replace H : ((impl_AddTo.f kj59 t650 t653 a1 a2).bind fun bt656 => ((laws_eqBag.f kj59 bt656.1 bt656.2.1 t611 t614).bind fun t664 => (if t664 = true then (laws_FnExactAddTo.j2 kj59 t646 (bt656.2.2 != t617) t647 t648) else (none)))) = some r := H
 have A87 := Aside0.mk A870
 clear A870
 replace H := Option.bind_eq_some_iff.mp H
 obtain ⟨⟨t656, t659, t662⟩, A880, H⟩ := H
 replace H : ((laws_eqBag.f kj59 t656 t659 t611 t614).bind fun t664 => (if t664 = true then (laws_FnExactAddTo.j2 kj59 t646 (t662 != t617) t647 t648) else (none))) = some r := H
 have A88 := Aside0.mk A880
 clear A880
 have HC89 := Aside0.mk H
 clear H
 have hnb90 := NB633_603.out
 have hnc90 := NB603_633.out
 have hnb91 := NB633_618.out
 have hnc91 := NB618_633.out
 have hnb92 := NB633_625.out
 have hnc92 := NB625_633.out
 have hcz93_0 : wc.cell? ⟨gb633, 0, none⟩ = some (.slice Ao39 t626.length co39) := bc_ BK633.out 0
 have hcz93_1 : wc.cell? ⟨gb633, 1, none⟩ = some (.slice Ao44 t629.length co44) := bc_ BK633.out 1
 have hfz93_0 := blk_frozen BK633.out 0
 have hfz93_1 := blk_frozen BK633.out 1
 go_upto_region 27 with (first | ((with_reducible refine gate_callee (f := 15) rfl ?_); refine goesL_ (some 75) rfl rfl Try.func15 (by kernel_rfl) rfl #[.agg #[.slice Ao39 t626.length co39, .slice Ao44 t629.length co44], .int .i64 1] rfl nc_ ?_; (with_reducible refine (laws_markBag.calls kj59 (fun k_ => some k_ = (.slice Ao39 t626.length co39 : Value).ownBlock) (.slice Ao39 t626.length co39) t626 (fun k_ => some k_ = (.slice Ao44 t629.length co44 : Value).ownBlock) (.slice Ao44 t629.length co44) t629 1 t646 t647 t648 w _ ?side1 ?side2 ?side3 ?side4 ?side5 A83.out).mono ?_); (case side1 => repeat (first | (with_reducible first | exact HB.out | apply below_alloc | apply pw_below_drewN | apply below_drew1 | refine below_set ?_ GE603.out | refine below_set ?_ GE618.out | refine below_set ?_ GE625.out | refine below_set ?_ GE633.out) | exact HB.out)); (case side2 => exact Kd.R_tight rfl HO_634000.out); (case side3 => exact fun k_ e_ => (HO_634000.out.1 k_ e_.symm).2.2.2.2); (case side4 => exact Kd.R_tight rfl HO_634001.out); (case side5 => exact fun k_ e_ => (HO_634001.out.1 k_ e_.symm).2.2.2.2); rintro e w94 ⟨rfl, hy0, hy1, hb, hkp⟩; refine ⟨_, rfl, ?_⟩; replace HO_619000 := Aside0.mk (Kd.R_mono (ok' := fun k_ => some k_ ≠ (.slice Ao28 t614.length co28 : Value).ownBlock ∧ some k_ ≠ (.slice Ao32 t643.length co32 : Value).ownBlock ∧ some k_ ≠ (.slice Ao36 t644.length co36 : Value).ownBlock ∧ some k_ ≠ (.slice Ao39 t626.length co39 : Value).ownBlock ∧ some k_ ≠ (.slice Ao44 t629.length co44 : Value).ownBlock) (Kd.R_keptB (HO_619000.out) hkp (fun k_ hk_ hs_ => Or.elim hs_ (fun e_ => (hk_.2.2.2.1) e_) (fun e_ => (hk_.2.2.2.2) e_))) (fun k_ hk_ => ⟨hk_.1.1, hk_.1.2.1, hk_.1.2.2.1, hk_.1.2.2.2.1, hk_.1.2.2.2.2⟩)); replace HO_619001 := Aside0.mk (Kd.R_mono (ok' := fun k_ => some k_ ≠ (.slice Ao25 t611.length co25 : Value).ownBlock ∧ some k_ ≠ (.slice Ao32 t643.length co32 : Value).ownBlock ∧ some k_ ≠ (.slice Ao36 t644.length co36 : Value).ownBlock ∧ some k_ ≠ (.slice Ao39 t626.length co39 : Value).ownBlock ∧ some k_ ≠ (.slice Ao44 t629.length co44 : Value).ownBlock) (Kd.R_keptB (HO_619001.out) hkp (fun k_ hk_ hs_ => Or.elim hs_ (fun e_ => (hk_.2.2.2.1) e_) (fun e_ => (hk_.2.2.2.2) e_))) (fun k_ hk_ => ⟨hk_.1.1, hk_.1.2.1, hk_.1.2.2.1, hk_.1.2.2.2.1, hk_.1.2.2.2.2⟩)); replace HO_626000 := Aside0.mk (Kd.R_mono (ok' := fun k_ => some k_ ≠ (.slice Ao25 t611.length co25 : Value).ownBlock ∧ some k_ ≠ (.slice Ao28 t614.length co28 : Value).ownBlock ∧ some k_ ≠ (.slice Ao36 t644.length co36 : Value).ownBlock ∧ some k_ ≠ (.slice Ao39 t626.length co39 : Value).ownBlock ∧ some k_ ≠ (.slice Ao44 t629.length co44 : Value).ownBlock) (Kd.R_keptB (HO_626000.out) hkp (fun k_ hk_ hs_ => Or.elim hs_ (fun e_ => (hk_.2.2.2.1) e_) (fun e_ => (hk_.2.2.2.2) e_))) (fun k_ hk_ => ⟨hk_.1.1, hk_.1.2.1, hk_.1.2.2.1, hk_.1.2.2.2.1, hk_.1.2.2.2.2⟩)); replace HO_626001 := Aside0.mk (Kd.R_mono (ok' := fun k_ => some k_ ≠ (.slice Ao25 t611.length co25 : Value).ownBlock ∧ some k_ ≠ (.slice Ao28 t614.length co28 : Value).ownBlock ∧ some k_ ≠ (.slice Ao32 t643.length co32 : Value).ownBlock ∧ some k_ ≠ (.slice Ao39 t626.length co39 : Value).ownBlock ∧ some k_ ≠ (.slice Ao44 t629.length co44 : Value).ownBlock) (Kd.R_keptB (HO_626001.out) hkp (fun k_ hk_ hs_ => Or.elim hs_ (fun e_ => (hk_.2.2.2.1) e_) (fun e_ => (hk_.2.2.2.2) e_))) (fun k_ hk_ => ⟨hk_.1.1, hk_.1.2.1, hk_.1.2.2.1, hk_.1.2.2.2.1, hk_.1.2.2.2.2⟩)); replace BK603 := Aside0.mk (blk_kept (kb_ BK603.out) hkp (fun hs_ => Or.elim hs_ (fun e_ => (fun e_ => (Kd.R_ne HO_634000.out BK603.out (by decide)) e_) e_) (fun e_ => (fun e_ => (Kd.R_ne HO_634001.out BK603.out (by decide)) e_) e_))); replace BK618 := Aside0.mk (blk_kept (kb_ BK618.out) hkp (fun hs_ => Or.elim hs_ (fun e_ => (fun e_ => (Kd.R_ne HO_634000.out BK618.out (by decide)) e_) e_) (fun e_ => (fun e_ => (Kd.R_ne HO_634001.out BK618.out (by decide)) e_) e_))); replace BK625 := Aside0.mk (blk_kept (kb_ BK625.out) hkp (fun hs_ => Or.elim hs_ (fun e_ => (fun e_ => (Kd.R_ne HO_634000.out BK625.out (by decide)) e_) e_) (fun e_ => (fun e_ => (Kd.R_ne HO_634001.out BK625.out (by decide)) e_) e_))); replace BK633 := Aside0.mk (blk_kept (kb_ BK633.out) hkp (fun hs_ => Or.elim hs_ (fun e_ => (fun e_ => (Kd.R_ne HO_634000.out BK633.out (by decide)) e_) e_) (fun e_ => (fun e_ => (Kd.R_ne HO_634001.out BK633.out (by decide)) e_) e_))); replace HO_634000 := Aside0.mk (Kd.R_reok rfl hy0 (fun k_ e_ => HO_634000.out.1 k_ e_)); replace HO_634001 := Aside0.mk (Kd.R_reok rfl hy1 (fun k_ e_ => HO_634001.out.1 k_ e_)); replace HB := Aside0.mk (hb); clear hb; have hcz95_0 : w94.cell? ⟨gb633, 0, none⟩ = some (.slice Ao39 t626.length co39) := bc_ BK633.out 0; have hcz95_1 : w94.cell? ⟨gb633, 1, none⟩ = some (.slice Ao44 t629.length co44) := bc_ BK633.out 1; have hfz95_0 := blk_frozen BK633.out 0; have hfz95_1 := blk_frozen BK633.out 1) | ((with_reducible refine gate_callee (f := 16) rfl ?_); refine goesL_ (some 78) rfl rfl Try.func16 (by kernel_rfl) rfl #[.agg #[.slice Ao39 t647.length co39, .slice Ao44 t648.length co44], .int .i64 1] rfl (by (try simp only [List.map_toArray, List.map_cons, List.map_nil]); first | done | (rw [show t647.length = t626.length from (Kd.R_reads' HO_634000.out).1.symm, show t648.length = t629.length from (Kd.R_reads' HO_634001.out).1.symm] <;> rfl) | rfl | (simp only [List.length_drop, List.length_take]; rfl)) ?_; (with_reducible refine (laws_heldBag.calls kj59 _ _ t647 _ _ t648 1 t649 _ ?side1 ?side2 ?side3 ?side4 A84.out).mono ?_); (case side1 => exact kc_ (Kd.R_reads' HO_634000.out).2.2); (case side2 => rw [show t647.length = t626.length from (Kd.R_reads' HO_634000.out).1.symm]; exact (Kd.R_reads' HO_634000.out).2.1); (case side3 => exact kc_ (Kd.R_reads' HO_634001.out).2.2); (case side4 => rw [show t648.length = t629.length from (Kd.R_reads' HO_634001.out).1.symm]; exact (Kd.R_reads' HO_634001.out).2.1); rintro e w96 ⟨rfl, hb⟩; refine ⟨_, rfl, ?_⟩; replace HO_619000 := rb_ HO_619000 hb; replace HO_619001 := rb_ HO_619001 hb; replace HO_626000 := rb_ HO_626000 hb; replace HO_626001 := rb_ HO_626001 hb; replace HO_634000 := rb_ HO_634000 hb; replace HO_634001 := rb_ HO_634001 hb; replace BK603 := bb_ BK603 hb; replace BK618 := bb_ BK618 hb; replace BK625 := bb_ BK625 hb; replace BK633 := bb_ BK633 hb; replace HB := Aside0.mk (below_step bl_ hb); clear hb; have hnb97 := NB603_618.out; have hnc97 := NB618_603.out; have hnb98 := NB603_625.out; have hnc98 := NB625_603.out; have hcz99_0 : w96.cell? ⟨gb603, 0, none⟩ = some (.slice A0_0 l0_0.length c0_0) := bc_ BK603.out 0; have hcz99_1 : w96.cell? ⟨gb603, 1, none⟩ = some (.slice A0_1 l0_1.length c0_1) := bc_ BK603.out 1; have hfz99_0 := blk_frozen BK603.out 0; have hfz99_1 := blk_frozen BK603.out 1) | ((with_reducible refine gate_callee (f := 10) rfl ?_); refine goesL_ (some 86) rfl rfl Try.func10 (by kernel_rfl) rfl #[.agg #[.slice A0_0 l0_0.length c0_0, .slice A0_1 l0_1.length c0_1]] rfl nc_ ?_; (with_reducible refine (laws_toBag.calls kj59 _ _ l0_0 _ _ l0_1 t650 t653 _ ?side1 ?side2 ?side3 ?side4 A87.out).mono ?_); (case side1 => exact kc_ (Kd.C_below HR0_0.out HB.out)); (case side2 => exact HC0_0.out); (case side3 => exact kc_ (Kd.C_below HR0_1.out HB.out)); (case side4 => exact HC0_1.out); rintro e w100 ⟨v651, v654, rfl, ho0, ho1, hb⟩; refine ⟨_, rfl, ?_⟩; have HO652 := Aside0.mk (Kd.R_lower (rn_ (rn_ (rn_ (rn_ (rn_ (rn_ ho0 HO_619000.out) HO_619001.out) HO_626000.out) HO_626001.out) HO_634000.out) HO_634001.out) bz_); have HO655 := Aside0.mk (Kd.R_lower (rn_ (rn_ (rn_ (rn_ (rn_ (rn_ ho1 HO_619000.out) HO_619001.out) HO_626000.out) HO_626001.out) HO_634000.out) HO_634001.out) bz_); replace HO_619000 := rp2_ HO_619000 hb ho0 ho1; replace HO_619001 := rp2_ HO_619001 hb ho0 ho1; replace HO_626000 := rp2_ HO_626000 hb ho0 ho1; replace HO_626001 := rp2_ HO_626001 hb ho0 ho1; replace HO_634000 := rp2_ HO_634000 hb ho0 ho1; replace HO_634001 := rp2_ HO_634001 hb ho0 ho1; replace BK603 := bb_ BK603 hb; replace BK618 := bb_ BK618 hb; replace BK625 := bb_ BK625 hb; replace BK633 := bb_ BK633 hb; replace HB := Aside0.mk (below_step bl_ hb); clear hb ho0 ho1; obtain ⟨Ao101, co101, eo101⟩ := Kd.R_slice HO652.out; subst eo101; obtain ⟨Ao102, co102, eo102⟩ := Kd.R_slice HO655.out; subst eo102) | ((with_reducible refine gate_callee (f := 25) rfl ?_); refine goesL_ (some 89) rfl rfl Try.func25 (by kernel_rfl) rfl #[.agg #[.slice Ao101 t650.length co101, .slice Ao102 t653.length co102], .int .i64 a1, .string a2] rfl nc_ ?_; (with_reducible refine (impl_AddTo.calls kj59 _ _ t650 _ _ t653 a1 a2 t656 t659 t662 _ ?side1 ?side2 ?side3 ?side4 A88.out).mono ?_); (case side1 => exact kc_ (Kd.R_reads' HO652.out).2.2); (case side2 => exact (Kd.R_reads' HO652.out).2.1); (case side3 => exact kc_ (Kd.R_reads' HO655.out).2.2); (case side4 => exact (Kd.R_reads' HO655.out).2.1); rintro e w103 ⟨v657, v660, rfl, ho0, ho1, hb⟩; refine ⟨_, rfl, ?_⟩; have HO658 := Aside0.mk (Kd.R_lower (rn_ (rn_ (rn_ (rn_ (rn_ (rn_ (rn_ (rn_ ho0 HO_619000.out) HO_619001.out) HO_626000.out) HO_626001.out) HO_634000.out) HO_634001.out) HO652.out) HO655.out) bz_); have HO661 := Aside0.mk (Kd.R_lower (rn_ (rn_ (rn_ (rn_ (rn_ (rn_ (rn_ (rn_ ho1 HO_619000.out) HO_619001.out) HO_626000.out) HO_626001.out) HO_634000.out) HO_634001.out) HO652.out) HO655.out) bz_); replace HO_619000 := rp2_ HO_619000 hb ho0 ho1; replace HO_619001 := rp2_ HO_619001 hb ho0 ho1; replace HO_626000 := rp2_ HO_626000 hb ho0 ho1; replace HO_626001 := rp2_ HO_626001 hb ho0 ho1; replace HO_634000 := rp2_ HO_634000 hb ho0 ho1; replace HO_634001 := rp2_ HO_634001 hb ho0 ho1; replace HO652 := rp2_ HO652 hb ho0 ho1; replace HO655 := rp2_ HO655 hb ho0 ho1; replace BK603 := bb_ BK603 hb; replace BK618 := bb_ BK618 hb; replace BK625 := bb_ BK625 hb; replace BK633 := bb_ BK633 hb; replace HB := Aside0.mk (below_step bl_ hb); clear hb ho0 ho1) | ((with_reducible refine gate_dst (N := 16) rfl ?_); refine box_event rfl (N := 16) rfl (cs := #[.slice none 0 0, .slice none 0 0]) (t := 29) gs_ ?_; intro gb663 hg w104 hbox hb; replace HO_619000 := rb_ HO_619000 hb; replace HO_619001 := rb_ HO_619001 hb; replace HO_626000 := rb_ HO_626000 hb; replace HO_626001 := rb_ HO_626001 hb; replace HO_634000 := rb_ HO_634000 hb; replace HO_634001 := rb_ HO_634001 hb; replace HO652 := rb_ HO652 hb; replace HO655 := rb_ HO655 hb; replace HO658 := rb_ HO658 hb; replace HO661 := rb_ HO661 hb; have BK663 := Aside0.mk (hbox); have GW663 := Aside0.mk ((by rw [hg]; exact bz_ : w.heap.size ≤ gb663)); have GE663 := GW663; replace HB := Aside0.mk (below_step bl_ hb); have NB603_663 := nl_ hg BK603; have NB663_603 := nm_ hg BK603; replace BK603 := bb_ BK603 hb; have NB618_663 := nl_ hg BK618; have NB663_618 := nm_ hg BK618; replace BK618 := bb_ BK618 hb; have NB625_663 := nl_ hg BK625; have NB663_625 := nm_ hg BK625; replace BK625 := bb_ BK625 hb; have NB633_663 := nl_ hg BK633; have NB663_633 := nm_ hg BK633; replace BK633 := bb_ BK633 hb; clear hb hbox hg; obtain ⟨Ao105, co105, eo105⟩ := Kd.R_slice HO658.out; subst eo105; have hnb106 := NB663_603.out; have hnc106 := NB603_663.out; have hnb107 := NB663_618.out; have hnc107 := NB618_663.out; have hnb108 := NB663_625.out; have hnc108 := NB625_663.out; have hnb109 := NB663_633.out; have hnc109 := NB633_663.out; have hcz110_0 : w104.cell? ⟨gb663, 0, none⟩ = some (.slice none 0 0) := bc_ BK663.out 0; have hcz110_1 : w104.cell? ⟨gb663, 1, none⟩ = some (.slice none 0 0) := bc_ BK663.out 1; have hfz110_0 := blk_frozen BK663.out 0; have hfz110_1 := blk_frozen BK663.out 1; obtain ⟨Ao111, co111, eo111⟩ := Kd.R_slice HO661.out; subst eo111))
 (try simp only [Act.put, List.setIfInBounds_toArray, List.set_cons_zero, List.set_cons_succ])
 go_cut [100] (fun v100 wc => ∃ (kq : Nat) (x100_88 : Bool), v100 = .bool x100_88 ∧ Aside0 (laws_FnExactAddTo.j2 kq t646 x100_88 t647 t648 = some r) ∧ Aside0 (kq ≤ kj59) ∧ Aside0 (Kd.R k48 48 wc w.heap.size (fun k_ => some k_ ≠ ((.slice Ao28 t614.length co28) : Value).ownBlock ∧ some k_ ≠ ((.slice Ao32 t643.length co32) : Value).ownBlock ∧ some k_ ≠ ((.slice Ao36 t644.length co36) : Value).ownBlock ∧ some k_ ≠ ((.slice Ao39 t626.length co39) : Value).ownBlock ∧ some k_ ≠ ((.slice Ao44 t629.length co44) : Value).ownBlock ∧ some k_ ≠ ((.slice Ao105 t656.length co105) : Value).ownBlock ∧ some k_ ≠ ((.slice Ao111 t659.length co111) : Value).ownBlock) (.slice Ao25 t611.length co25) t611) ∧ Aside0 (Kd.R k48 48 wc w.heap.size (fun k_ => some k_ ≠ ((.slice Ao25 t611.length co25) : Value).ownBlock ∧ some k_ ≠ ((.slice Ao32 t643.length co32) : Value).ownBlock ∧ some k_ ≠ ((.slice Ao36 t644.length co36) : Value).ownBlock ∧ some k_ ≠ ((.slice Ao39 t626.length co39) : Value).ownBlock ∧ some k_ ≠ ((.slice Ao44 t629.length co44) : Value).ownBlock ∧ some k_ ≠ ((.slice Ao105 t656.length co105) : Value).ownBlock ∧ some k_ ≠ ((.slice Ao111 t659.length co111) : Value).ownBlock) (.slice Ao28 t614.length co28) t614) ∧ Aside0 (Kd.R k48 48 wc w.heap.size (fun k_ => some k_ ≠ ((.slice Ao25 t611.length co25) : Value).ownBlock ∧ some k_ ≠ ((.slice Ao28 t614.length co28) : Value).ownBlock ∧ some k_ ≠ ((.slice Ao36 t644.length co36) : Value).ownBlock ∧ some k_ ≠ ((.slice Ao39 t626.length co39) : Value).ownBlock ∧ some k_ ≠ ((.slice Ao44 t629.length co44) : Value).ownBlock ∧ some k_ ≠ ((.slice Ao105 t656.length co105) : Value).ownBlock ∧ some k_ ≠ ((.slice Ao111 t659.length co111) : Value).ownBlock) (.slice Ao32 t643.length co32) t643) ∧ Aside0 (Kd.R k48 48 wc w.heap.size (fun k_ => some k_ ≠ ((.slice Ao25 t611.length co25) : Value).ownBlock ∧ some k_ ≠ ((.slice Ao28 t614.length co28) : Value).ownBlock ∧ some k_ ≠ ((.slice Ao32 t643.length co32) : Value).ownBlock ∧ some k_ ≠ ((.slice Ao39 t626.length co39) : Value).ownBlock ∧ some k_ ≠ ((.slice Ao44 t629.length co44) : Value).ownBlock ∧ some k_ ≠ ((.slice Ao105 t656.length co105) : Value).ownBlock ∧ some k_ ≠ ((.slice Ao111 t659.length co111) : Value).ownBlock) (.slice Ao36 t644.length co36) t644) ∧ Aside0 (Kd.R k48 48 wc w.heap.size (fun k_ => some k_ ≠ ((.slice Ao25 t611.length co25) : Value).ownBlock ∧ some k_ ≠ ((.slice Ao28 t614.length co28) : Value).ownBlock ∧ some k_ ≠ ((.slice Ao32 t643.length co32) : Value).ownBlock ∧ some k_ ≠ ((.slice Ao36 t644.length co36) : Value).ownBlock ∧ some k_ ≠ ((.slice Ao44 t629.length co44) : Value).ownBlock ∧ some k_ ≠ ((.slice Ao105 t656.length co105) : Value).ownBlock ∧ some k_ ≠ ((.slice Ao111 t659.length co111) : Value).ownBlock) (.slice Ao39 t626.length co39) t647) ∧ Aside0 (Kd.R k48 48 wc w.heap.size (fun k_ => some k_ ≠ ((.slice Ao25 t611.length co25) : Value).ownBlock ∧ some k_ ≠ ((.slice Ao28 t614.length co28) : Value).ownBlock ∧ some k_ ≠ ((.slice Ao32 t643.length co32) : Value).ownBlock ∧ some k_ ≠ ((.slice Ao36 t644.length co36) : Value).ownBlock ∧ some k_ ≠ ((.slice Ao39 t626.length co39) : Value).ownBlock ∧ some k_ ≠ ((.slice Ao105 t656.length co105) : Value).ownBlock ∧ some k_ ≠ ((.slice Ao111 t659.length co111) : Value).ownBlock) (.slice Ao44 t629.length co44) t648) ∧ Aside0 (Kd.R k48 48 wc w.heap.size (fun k_ => some k_ ≠ ((.slice Ao25 t611.length co25) : Value).ownBlock ∧ some k_ ≠ ((.slice Ao28 t614.length co28) : Value).ownBlock ∧ some k_ ≠ ((.slice Ao32 t643.length co32) : Value).ownBlock ∧ some k_ ≠ ((.slice Ao36 t644.length co36) : Value).ownBlock ∧ some k_ ≠ ((.slice Ao39 t626.length co39) : Value).ownBlock ∧ some k_ ≠ ((.slice Ao44 t629.length co44) : Value).ownBlock ∧ some k_ ≠ ((.slice Ao111 t659.length co111) : Value).ownBlock) (.slice Ao105 t656.length co105) t656) ∧ Aside0 (Kd.R k48 48 wc w.heap.size (fun k_ => some k_ ≠ ((.slice Ao25 t611.length co25) : Value).ownBlock ∧ some k_ ≠ ((.slice Ao28 t614.length co28) : Value).ownBlock ∧ some k_ ≠ ((.slice Ao32 t643.length co32) : Value).ownBlock ∧ some k_ ≠ ((.slice Ao36 t644.length co36) : Value).ownBlock ∧ some k_ ≠ ((.slice Ao39 t626.length co39) : Value).ownBlock ∧ some k_ ≠ ((.slice Ao44 t629.length co44) : Value).ownBlock ∧ some k_ ≠ ((.slice Ao105 t656.length co105) : Value).ownBlock) (.slice Ao111 t659.length co111) t659) ∧ Aside0 (wc.heap[gb603]? = some (.cells #[(.slice A0_0 l0_0.length c0_0), (.slice A0_1 l0_1.length c0_1)] 24 (0, 0))) ∧ Aside0 (wc.heap[gb618]? = some (.cells #[(.slice Ao25 t611.length co25), (.slice Ao28 t614.length co28)] 29 (0, 0))) ∧ Aside0 (wc.heap[gb625]? = some (.cells #[(.slice Ao32 t643.length co32), (.slice Ao36 t644.length co36)] 29 (0, 0))) ∧ Aside0 (wc.heap[gb633]? = some (.cells #[(.slice Ao39 t626.length co39), (.slice Ao44 t629.length co44)] 29 (0, 0))) ∧ Aside0 (wc.heap[gb663]? = some (.cells #[(.slice Ao105 t656.length co105), (.slice Ao111 t659.length co111)] 29 (0, 0))) ∧ Aside0 (Below w.heap.size w wc))
 case first =>
  have H := HC89.out
  clear HC89
  replace H := Option.bind_eq_some_iff.mp H
  obtain ⟨t664, A1120, H⟩ := H
  replace H : (if t664 = true then (laws_FnExactAddTo.j2 kj59 t646 (t662 != t617) t647 t648) else (none)) = some r := H
  have A112 := Aside0.mk A1120
  clear A1120
  by_cases c113 : t664 = true
  rotate_left
  ·replace c113 := Bool.eq_false_iff.mpr c113
   subst c113
   have H1 : (none) = some r := by rw [if_neg (show ¬ (false = true) by decide)] at H; exact H
   clear H
   have H := H1
   clear H1
   exact absurd H (by simp)
  subst c113
  have H1 : (laws_FnExactAddTo.j2 kj59 t646 (t662 != t617) t647 t648) = some r := by rw [if_pos rfl] at H; exact H
  clear H
  have H := H1
  clear H1
  have H' := Aside0.mk H
  clear H
  have hnb114 := NB663_603.out
  have hnc114 := NB603_663.out
  have hnb115 := NB663_618.out
  have hnc115 := NB618_663.out
  have hnb116 := NB663_625.out
  have hnc116 := NB625_663.out
  have hnb117 := NB663_633.out
  have hnc117 := NB633_663.out
  have hcz118_0 : w104.cell? ⟨gb663, 0, none⟩ = some (.slice none 0 0) := bc_ BK663.out 0
  have hcz118_1 : w104.cell? ⟨gb663, 1, none⟩ = some (.slice none 0 0) := bc_ BK663.out 1
  have hfz118_0 := blk_frozen BK663.out 0
  have hfz118_1 := blk_frozen BK663.out 1
  have hnb119 := NB618_603.out
  have hnc119 := NB603_618.out
  have hnb120 := NB618_625.out
  have hnc120 := NB625_618.out
  have hnb121 := NB618_633.out
  have hnc121 := NB633_618.out
  have hcz122_0 : w104.cell? ⟨gb618, 0, none⟩ = some (.slice Ao25 t611.length co25) := bc_ BK618.out 0
  have hcz122_1 : w104.cell? ⟨gb618, 1, none⟩ = some (.slice Ao28 t614.length co28) := bc_ BK618.out 1
  have hfz122_0 := blk_frozen BK618.out 0
  have hfz122_1 := blk_frozen BK618.out 1
  go_wp2_with (first | ((with_reducible refine gate_callee (f := 12) rfl ?_); refine goesL_ (some 94) rfl rfl Try.func12 (by kernel_rfl) rfl #[.agg #[.slice Ao105 t656.length co105, .slice Ao111 t659.length co111], .agg #[.slice Ao25 t611.length co25, .slice Ao28 t614.length co28]] rfl nc_ ?_; (with_reducible refine (laws_eqBag.calls kj59 _ _ t656 _ _ t659 _ _ t611 _ _ t614 true _ ?side1 ?side2 ?side3 ?side4 ?side5 ?side6 ?side7 ?side8 A112.out).mono ?_); (case side1 => exact (Kd.R_reads' (kr_ (rs2_ HO658.out BK663.out (.slice Ao105 t656.length co105) (.slice Ao111 t659.length co111)))).2.2); (case side2 => exact (Kd.R_reads' HO658.out).2.1); (case side3 => exact (Kd.R_reads' (kr_ (rs2_ HO661.out BK663.out (.slice Ao105 t656.length co105) (.slice Ao111 t659.length co111)))).2.2); (case side4 => exact (Kd.R_reads' HO661.out).2.1); (case side5 => exact (Kd.R_reads' (kr_ (rs2_ HO_619000.out BK663.out (.slice Ao105 t656.length co105) (.slice Ao111 t659.length co111)))).2.2); (case side6 => exact (Kd.R_reads' HO_619000.out).2.1); (case side7 => exact (Kd.R_reads' (kr_ (rs2_ HO_619001.out BK663.out (.slice Ao105 t656.length co105) (.slice Ao111 t659.length co111)))).2.2); (case side8 => exact (Kd.R_reads' HO_619001.out).2.1); rintro e w123 ⟨rfl, hb⟩; refine ⟨_, rfl, ?_⟩; replace HO_619000 := Aside0.mk (Kd.R_below (kr_ (rs2_ HO_619000.out BK663.out (.slice Ao105 t656.length co105) (.slice Ao111 t659.length co111))) hb); replace HO_619001 := Aside0.mk (Kd.R_below (kr_ (rs2_ HO_619001.out BK663.out (.slice Ao105 t656.length co105) (.slice Ao111 t659.length co111))) hb); replace HO_626000 := Aside0.mk (Kd.R_below (kr_ (rs2_ HO_626000.out BK663.out (.slice Ao105 t656.length co105) (.slice Ao111 t659.length co111))) hb); replace HO_626001 := Aside0.mk (Kd.R_below (kr_ (rs2_ HO_626001.out BK663.out (.slice Ao105 t656.length co105) (.slice Ao111 t659.length co111))) hb); replace HO_634000 := Aside0.mk (Kd.R_below (kr_ (rs2_ HO_634000.out BK663.out (.slice Ao105 t656.length co105) (.slice Ao111 t659.length co111))) hb); replace HO_634001 := Aside0.mk (Kd.R_below (kr_ (rs2_ HO_634001.out BK663.out (.slice Ao105 t656.length co105) (.slice Ao111 t659.length co111))) hb); replace HO652 := Aside0.mk (Kd.R_below (kr_ (rs2_ HO652.out BK663.out (.slice Ao105 t656.length co105) (.slice Ao111 t659.length co111))) hb); replace HO655 := Aside0.mk (Kd.R_below (kr_ (rs2_ HO655.out BK663.out (.slice Ao105 t656.length co105) (.slice Ao111 t659.length co111))) hb); replace HO658 := Aside0.mk (Kd.R_below (kr_ (rs2_ HO658.out BK663.out (.slice Ao105 t656.length co105) (.slice Ao111 t659.length co111))) hb); replace HO661 := Aside0.mk (Kd.R_below (kr_ (rs2_ HO661.out BK663.out (.slice Ao105 t656.length co105) (.slice Ao111 t659.length co111))) hb); replace BK603 := Aside0.mk (blk_below (g := gb603) (o := .cells #[.slice A0_0 l0_0.length c0_0, .slice A0_1 l0_1.length c0_1] 24 (0, 0)) kz_ hb); replace BK618 := Aside0.mk (blk_below (g := gb618) (o := .cells #[.slice Ao25 t611.length co25, .slice Ao28 t614.length co28] 29 (0, 0)) kz_ hb); replace BK625 := Aside0.mk (blk_below (g := gb625) (o := .cells #[.slice Ao32 t643.length co32, .slice Ao36 t644.length co36] 29 (0, 0)) kz_ hb); replace BK633 := Aside0.mk (blk_below (g := gb633) (o := .cells #[.slice Ao39 t626.length co39, .slice Ao44 t629.length co44] 29 (0, 0)) kz_ hb); replace BK663 := Aside0.mk (blk_below (g := gb663) (o := .cells #[.slice Ao105 t656.length co105, .slice Ao111 t659.length co111] 29 (0, 0)) (by (with_reducible repeat (first | refine blk_drewN ?_ _ | refine blk_drew ?_ | refine blk_alloc ?_ _)); refine blk_put (cs := #[.slice Ao105 t656.length co105, .slice none 0 0]) ?_ 1 _ rfl; (with_reducible repeat (first | refine blk_drewN ?_ _ | refine blk_drew ?_ | refine blk_alloc ?_ _)); refine blk_put (cs := #[.slice none 0 0, .slice none 0 0]) ?_ 0 _ rfl; exact kb_ BK663.out) hb); replace HB := Aside0.mk (below_step bl_ hb); clear hb))
  go_meet
  case rel => exact ⟨_, ((t662 != t617)), (by first | rfl | (simp; done) | (simp [*]; done)), H', ⟨by have := HJ14.out; have := HJ59.out; first | omega | exact Nat.le_refl _⟩, ⟨by (try simp only [hl626000_59]); (try simp only [hl626001_59]); exact kr_ (Kd.R_mono HO_619000.out (fun _ hk => ⟨hk.1.1.1.1.1, ⟨hk.1.1.1.1.2.1, ⟨hk.1.1.1.1.2.2.1, ⟨hk.1.1.1.1.2.2.2.1, ⟨hk.1.1.1.1.2.2.2.2, ⟨hk.1.2, hk.2⟩⟩⟩⟩⟩⟩))⟩, ⟨by (try simp only [hl626000_59]); (try simp only [hl626001_59]); exact kr_ (Kd.R_mono HO_619001.out (fun _ hk => ⟨hk.1.1.1.1.1, ⟨hk.1.1.1.1.2.1, ⟨hk.1.1.1.1.2.2.1, ⟨hk.1.1.1.1.2.2.2.1, ⟨hk.1.1.1.1.2.2.2.2, ⟨hk.1.2, hk.2⟩⟩⟩⟩⟩⟩))⟩, ⟨by (try simp only [hl626000_59]); (try simp only [hl626001_59]); exact kr_ (Kd.R_mono HO_626000.out (fun _ hk => ⟨hk.1.1.1.1.1, ⟨hk.1.1.1.1.2.1, ⟨hk.1.1.1.1.2.2.1, ⟨hk.1.1.1.1.2.2.2.1, ⟨hk.1.1.1.1.2.2.2.2, ⟨hk.1.2, hk.2⟩⟩⟩⟩⟩⟩))⟩, ⟨by (try simp only [hl626000_59]); (try simp only [hl626001_59]); exact kr_ (Kd.R_mono HO_626001.out (fun _ hk => ⟨hk.1.1.1.1.1, ⟨hk.1.1.1.1.2.1, ⟨hk.1.1.1.1.2.2.1, ⟨hk.1.1.1.1.2.2.2.1, ⟨hk.1.1.1.1.2.2.2.2, ⟨hk.1.2, hk.2⟩⟩⟩⟩⟩⟩))⟩, ⟨by (try simp only [hl626000_59]); (try simp only [hl626001_59]); exact kr_ (Kd.R_mono HO_634000.out (fun _ hk => ⟨hk.1.1.1.1.1, ⟨hk.1.1.1.1.2.1, ⟨hk.1.1.1.1.2.2.1, ⟨hk.1.1.1.1.2.2.2.1, ⟨hk.1.1.1.1.2.2.2.2, ⟨hk.1.2, hk.2⟩⟩⟩⟩⟩⟩))⟩, ⟨by (try simp only [hl626000_59]); (try simp only [hl626001_59]); exact kr_ (Kd.R_mono HO_634001.out (fun _ hk => ⟨hk.1.1.1.1.1, ⟨hk.1.1.1.1.2.1, ⟨hk.1.1.1.1.2.2.1, ⟨hk.1.1.1.1.2.2.2.1, ⟨hk.1.1.1.1.2.2.2.2, ⟨hk.1.2, hk.2⟩⟩⟩⟩⟩⟩))⟩, ⟨by (try simp only [hl626000_59]); (try simp only [hl626001_59]); exact kr_ (Kd.R_mono HO658.out (fun _ hk => ⟨hk.1.1.1.1.1.1.1.2, ⟨hk.1.1.1.1.1.1.2, ⟨hk.1.1.1.1.1.2, ⟨hk.1.1.1.1.2, ⟨hk.1.1.1.2, ⟨hk.1.1.2, hk.1.1.1.1.1.1.1.1⟩⟩⟩⟩⟩⟩))⟩, ⟨by (try simp only [hl626000_59]); (try simp only [hl626001_59]); exact kr_ (Kd.R_mono HO661.out (fun _ hk => ⟨hk.1.1.1.1.1.1.1.2, ⟨hk.1.1.1.1.1.1.2, ⟨hk.1.1.1.1.1.2, ⟨hk.1.1.1.1.2, ⟨hk.1.1.1.2, ⟨hk.1.1.2, hk.1.1.1.1.1.1.1.1⟩⟩⟩⟩⟩⟩))⟩, ⟨by (try simp only [hl626000_59]); (try simp only [hl626001_59]); exact kb_ BK603.out⟩, ⟨by (try simp only [hl626000_59]); (try simp only [hl626001_59]); exact kb_ BK618.out⟩, ⟨by (try simp only [hl626000_59]); (try simp only [hl626001_59]); exact kb_ BK625.out⟩, ⟨by (try simp only [hl626000_59]); (try simp only [hl626001_59]); exact kb_ BK633.out⟩, ⟨by (try simp only [hl626000_59]); (try simp only [hl626001_59]); exact kb_ BK663.out⟩, ⟨bl_⟩⟩
 clear HC89
 try clear c1
 try clear c2
 try clear p2
 try clear c3
 try clear c4
 try clear c4b0
 try clear c4b1
 try clear c5
 try clear c6
 try clear c7
 try clear c7b0
 try clear c8
 try clear c9
 try clear c10
 try clear c11
 try clear c12
 try clear c15
 try clear c16
 try clear c24
 try clear c25
 try clear c26
 try clear c33
 try clear c34
 try clear c40
 try clear c41
 try clear c42
 try clear c46
 try clear c47
 try clear c48
 try clear c49
 try clear c51
 try clear c52
 try clear c55
 try clear c58
 try clear c66
 try clear c67
 try clear c68
 try clear c71
 try clear c71b0
 try clear c73
 try clear c74
 try clear c75
 try clear c76
 try clear c78
 try clear c79
 try clear c82
 try clear c85
 try clear c85b0
 try clear c86
 try clear c86b0
 try clear c86b1
 try clear c90
 try clear c91
 try clear c92
 try clear c97
 try clear c98
 try clear c106
 try clear c107
 try clear c108
 try clear c109
 try clear c113
 try clear c114
 try clear c115
 try clear c116
 try clear c117
 try clear c119
 try clear c120
 try clear c121
 try clear hcz110_0
 try clear hcz110_1
 try clear hcz118_0
 try clear hcz118_1
 try clear hcz122_0
 try clear hcz122_1
 try clear hcz17_0
 try clear hcz17_1
 try clear hcz19_0
 try clear hcz19_1
 try clear hcz27_0
 try clear hcz27_1
 try clear hcz29_0
 try clear hcz29_1
 try clear hcz35_0
 try clear hcz35_1
 try clear hcz43_0
 try clear hcz43_1
 try clear hcz50_0
 try clear hcz50_1
 try clear hcz53_0
 try clear hcz53_1
 try clear hcz69_0
 try clear hcz69_1
 try clear hcz77_0
 try clear hcz77_1
 try clear hcz80_0
 try clear hcz80_1
 try clear hcz93_0
 try clear hcz93_1
 try clear hcz95_0
 try clear hcz95_1
 try clear hcz99_0
 try clear hcz99_1
 try clear hcz9_0
 try clear hcz9_1
 try clear hfz110_0
 try clear hfz110_1
 try clear hfz118_0
 try clear hfz118_1
 try clear hfz122_0
 try clear hfz122_1
 try clear hfz17_0
 try clear hfz17_1
 try clear hfz19_0
 try clear hfz19_1
 try clear hfz27_0
 try clear hfz27_1
 try clear hfz29_0
 try clear hfz29_1
 try clear hfz35_0
 try clear hfz35_1
 try clear hfz43_0
 try clear hfz43_1
 try clear hfz50_0
 try clear hfz50_1
 try clear hfz53_0
 try clear hfz53_1
 try clear hfz69_0
 try clear hfz69_1
 try clear hfz77_0
 try clear hfz77_1
 try clear hfz80_0
 try clear hfz80_1
 try clear hfz93_0
 try clear hfz93_1
 try clear hfz95_0
 try clear hfz95_1
 try clear hfz99_0
 try clear hfz99_1
 try clear hfz9_0
 try clear hfz9_1
 try clear p2
 obtain ⟨kq, x100_88, rfl, HA, HJ88, HO_619000, HO_619001, HO_626000, HO_626001, HO_634000, HO_634001, HO_664000, HO_664001, BK603, BK618, BK625, BK633, BK663, HB⟩ := hcut
 have hl634000_88 := (Kd.R_reads' HO_634000.out).1
 rw [hl634000_88] at HO_634000
 (try simp only [hl634000_88])
 (try simp only [hl634000_88] at BK603)
 (try simp only [hl634000_88] at BK618)
 (try simp only [hl634000_88] at BK625)
 (try simp only [hl634000_88] at BK633)
 (try simp only [hl634000_88] at BK663)
 (try simp only [hl634000_88] at HO_619000)
 (try simp only [hl634000_88] at HO_619001)
 (try simp only [hl634000_88] at HO_626000)
 (try simp only [hl634000_88] at HO_626001)
 (try simp only [hl634000_88] at HO_634001)
 (try simp only [hl634000_88] at HO_664000)
 (try simp only [hl634000_88] at HO_664001)
 have hl634001_88 := (Kd.R_reads' HO_634001.out).1
 rw [hl634001_88] at HO_634001
 (try simp only [hl634001_88])
 (try simp only [hl634001_88] at BK603)
 (try simp only [hl634001_88] at BK618)
 (try simp only [hl634001_88] at BK625)
 (try simp only [hl634001_88] at BK633)
 (try simp only [hl634001_88] at BK663)
 (try simp only [hl634001_88] at HO_619000)
 (try simp only [hl634001_88] at HO_619001)
 (try simp only [hl634001_88] at HO_626000)
 (try simp only [hl634001_88] at HO_626001)
 (try simp only [hl634001_88] at HO_634000)
 (try simp only [hl634001_88] at HO_664000)
 (try simp only [hl634001_88] at HO_664001)
 cases kq with
 | zero => exact absurd HA.out (by simp [laws_FnExactAddTo.j2])
 | succ kj88 => ?_
 have H := HA.out
 clear HA
 simp only [laws_FnExactAddTo.j2] at H
 by_cases c124 : x100_88 = true
 ·subst c124
  have H1 : (none) = some r := by rw [if_pos rfl] at H; exact H
  clear H
  have H := H1
  clear H1
  exact absurd H (by simp)
 replace c124 := Bool.eq_false_iff.mpr c124
 subst c124
 have H1 : ((laws_heldBag.f kj88 t647 t648 1).bind fun t665 => (if t665 < 0 then (none) else (if t665 = t646 then (some true) else (none)))) = some r := by rw [if_neg (show ¬ (false = true) by decide)] at H; exact H
 clear H
 have H := H1
 clear H1
 replace H := Option.bind_eq_some_iff.mp H
 obtain ⟨t665, A1250, H⟩ := H
 replace H : (if t665 < 0 then (none) else (if t665 = t646 then (some true) else (none))) = some r := H
 have A125 := Aside0.mk A1250
 clear A1250
 by_cases c126 : t665 < 0
 ·rw [if_pos c126] at H
  exact absurd H (by simp)
 rw [if_neg c126] at H
 have c126b0 : decide (t665 < 0) = false := decide_eq_false c126
 clear c126
 by_cases c127 : t665 = t646
 rotate_left
 ·rw [if_neg c127] at H
  exact absurd H (by simp)
 rw [if_pos c127] at H
 have c127b0 : (t665 == t646) = true := beq_iff_eq.mpr c127
 have c127b1 : (t665 != t646) = false := bne_eq_false_iff_eq.mpr c127
 clear c127
 obtain rfl := Option.some.inj H
 have hnb128 := NB633_603.out
 have hnc128 := NB603_633.out
 have hnb129 := NB633_618.out
 have hnc129 := NB618_633.out
 have hnb130 := NB633_625.out
 have hnc130 := NB625_633.out
 have hnb131 := NB633_663.out
 have hnc131 := NB663_633.out
 have hcz132_0 : wc.cell? ⟨gb633, 0, none⟩ = some (.slice Ao39 t647.length co39) := bc_ BK633.out 0
 have hcz132_1 : wc.cell? ⟨gb633, 1, none⟩ = some (.slice Ao44 t648.length co44) := bc_ BK633.out 1
 have hfz132_0 := blk_frozen BK633.out 0
 have hfz132_1 := blk_frozen BK633.out 1
 go_wp2_with (first | ((with_reducible refine gate_callee (f := 16) rfl ?_); refine goesL_ (some 103) rfl rfl Try.func16 (by kernel_rfl) rfl #[.agg #[.slice Ao39 t647.length co39, .slice Ao44 t648.length co44], .int .i64 1] rfl nc_ ?_; (with_reducible refine (laws_heldBag.calls kj88 _ _ t647 _ _ t648 1 t665 _ ?side1 ?side2 ?side3 ?side4 A125.out).mono ?_); (case side1 => exact kc_ (Kd.R_reads' HO_634000.out).2.2); (case side2 => exact (Kd.R_reads' HO_634000.out).2.1); (case side3 => exact kc_ (Kd.R_reads' HO_634001.out).2.2); (case side4 => exact (Kd.R_reads' HO_634001.out).2.1); rintro e w133 ⟨rfl, hb⟩; refine ⟨_, rfl, ?_⟩; replace HO_619000 := rb_ HO_619000 hb; replace HO_619001 := rb_ HO_619001 hb; replace HO_626000 := rb_ HO_626000 hb; replace HO_626001 := rb_ HO_626001 hb; replace HO_634000 := rb_ HO_634000 hb; replace HO_634001 := rb_ HO_634001 hb; replace HO_664000 := rb_ HO_664000 hb; replace HO_664001 := rb_ HO_664001 hb; replace BK603 := bb_ BK603 hb; replace BK618 := bb_ BK618 hb; replace BK625 := bb_ BK625 hb; replace BK633 := bb_ BK633 hb; replace BK663 := bb_ BK663 hb; replace HB := Aside0.mk (below_step bl_ hb); clear hb))
 go_ret
 exact ⟨ng_, bl_⟩

end Go.Proofs.Ytdnapgnnliibfaa.PAT
