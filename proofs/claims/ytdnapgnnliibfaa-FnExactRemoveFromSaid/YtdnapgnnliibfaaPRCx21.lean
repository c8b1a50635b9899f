/- What this text proves: the machine calls of these functions return what the plain functions say. Conditions: as each theorem says. Printed by a program of this session out of the translation. -/
import Derived.Test.YtdnapgnnliibfaaPRCx0
import Derived.Test.YtdnapgnnliibfaaPRCx2
import Derived.Test.YtdnapgnnliibfaaPRCx3
import Derived.Test.YtdnapgnnliibfaaPRCx19
import Derived.Test.YtdnapgnnliibfaaPRCx20
namespace Go.Proofs.Ytdnapgnnliibfaa.PRC
open Go.RowKit Go.Proofs.YtdnapgnnliibfaaW.PrintWords Go.Proofs.YtdnapgnnliibfaaW.PrintLast Go.Proofs.YtdnapgnnliibfaaW.PrintMore
attribute [local go_sem] max2_int min2_int max_two min_two max_three min_three max_four min_four   -- for this text's walks alone
set_option linter.unusedVariables false
set_option linter.unusedSimpArgs false

/-! ### laws_FnExactRemoveFrom: function 4 -/
mutual
def laws_FnExactRemoveFrom.j0 : Nat → ByteArray → Bool → Bool → Bool → List (S72) → List (S72) → List (S48) → List (S48) → List (S48) → List (S48) → List (S48) → List (S48) → Option (Bool)
 | 0, _, _, _, _, _, _, _, _, _, _, _, _ => none
 | k + 1, x1, x7, x10, x47, x593000, x593001, x608000, x608001, x615000, x615001, x623000, x623001 => if x47 = true then (none) else ((laws_toBag.f k x593000 x593001).bind fun bt624 => ((laws_eqBag.f k x615000 x615001 bt624.1 bt624.2).bind fun t630 => (if t630 = true then ((laws_markBag.f k x615000 x615001 1).bind fun bt631 => (if bt631.1 < 0 then (none) else ((laws_eqBag.f k x623000 x623001 x608000 x608001).bind fun t634 => (if t634 = true then (laws_FnExactRemoveFrom.j1 k x1 x7 (x10 != x7) x593000 x593001 x608000 x608001 x623000 x623001) else (none))))) else (none))))
def laws_FnExactRemoveFrom.j1 : Nat → ByteArray → Bool → Bool → List (S72) → List (S72) → List (S48) → List (S48) → List (S48) → List (S48) → Option (Bool)
 | 0, _, _, _, _, _, _, _, _, _ => none
 | k + 1, x1, x7, x68, x593000, x593001, x608000, x608001, x623000, x623001 => if x68 = true then (none) else ((laws_markBag.f k x623000 x623001 1).bind fun bt635 => ((laws_heldBag.f k bt635.2.1 bt635.2.2 1).bind fun t638 => (if t638 < 0 then (none) else (if t638 = bt635.1 then ((laws_toBag.f k x593000 x593001).bind fun bt639 => ((impl_RemoveFrom.f k bt639.1 bt639.2 x1).bind fun bt645 => ((laws_eqBag.f k bt645.1 bt645.2.1 x608000 x608001).bind fun t653 => (if t653 = true then (laws_FnExactRemoveFrom.j2 k bt635.1 (bt645.2.2 != x7) bt635.2.1 bt635.2.2) else (none))))) else (none)))))
def laws_FnExactRemoveFrom.j2 : Nat → Int → Bool → List (S48) → List (S48) → Option (Bool)
 | 0, _, _, _, _ => none
 | k + 1, x12, x95, x623000, x623001 => if x95 = true then (none) else ((laws_heldBag.f k x623000 x623001 1).bind fun t654 => (if t654 < 0 then (none) else (if t654 = x12 then (some true) else (none))))
end
def laws_FnExactRemoveFrom.f (k : Nat) (l0_0 : List (S72)) (l0_1 : List (S72)) (a1 : ByteArray) : Option (Bool) := if (a1.size : Int) > 1048576 then (some true) else ((laws_szBag.f k l0_0 l0_1 1048576).bind fun t593 => (if t593 < 0 then (some true) else ((laws_toBag.f k l0_0 l0_1).bind fun bt594 => ((spec_RemoveFrom.f k bt594.1 bt594.2 a1).bind fun bt600 => ((laws_toBag.f k l0_0 l0_1).bind fun bt608 => ((impl_RemoveFrom.f k bt608.1 bt608.2 a1).bind fun bt615 => ((laws_eqBag.f k bt615.1 bt615.2.1 bt600.1 bt600.2.1).bind fun t623 => (if t623 = true then (laws_FnExactRemoveFrom.j0 k a1 bt600.2.2 bt615.2.2 (bt615.2.2 != bt600.2.2) l0_0 l0_1 bt600.1 bt600.2.1 bt608.1 bt608.2 bt615.1 bt615.2.1) else (none)))))))))
theorem laws_FnExactRemoveFrom.mono_l : ∀ k, (∀ y0 y1 y2 y3 y4 y5 y6 y7 y8 y9 y10 y11, LeO (laws_FnExactRemoveFrom.j0 k y0 y1 y2 y3 y4 y5 y6 y7 y8 y9 y10 y11) (laws_FnExactRemoveFrom.j0 (k + 1) y0 y1 y2 y3 y4 y5 y6 y7 y8 y9 y10 y11)) ∧ (∀ y0 y1 y2 y3 y4 y5 y6 y7 y8, LeO (laws_FnExactRemoveFrom.j1 k y0 y1 y2 y3 y4 y5 y6 y7 y8) (laws_FnExactRemoveFrom.j1 (k + 1) y0 y1 y2 y3 y4 y5 y6 y7 y8)) ∧ (∀ y0 y1 y2 y3, LeO (laws_FnExactRemoveFrom.j2 k y0 y1 y2 y3) (laws_FnExactRemoveFrom.j2 (k + 1) y0 y1 y2 y3))
 | 0 => ⟨fun _ _ _ _ _ _ _ _ _ _ _ _ r h => by simp [laws_FnExactRemoveFrom.j0] at h, fun _ _ _ _ _ _ _ _ _ r h => by simp [laws_FnExactRemoveFrom.j1] at h, fun _ _ _ _ r h => by simp [laws_FnExactRemoveFrom.j2] at h⟩
 | k + 1 => by
  obtain ⟨ih0, ih1, ih2⟩ := laws_FnExactRemoveFrom.mono_l k
  refine ⟨?_, ?_, ?_⟩
  ·intro y0 y1 y2 y3 y4 y5 y6 y7 y8 y9 y10 y11
   unfold laws_FnExactRemoveFrom.j0
   repeat' first
   | (with_reducible exact ih0 _ _ _ _ _ _ _ _ _ _ _ _)
   | (with_reducible exact ih1 _ _ _ _ _ _ _ _ _)
   | (with_reducible exact ih2 _ _ _ _)
   | (with_reducible exact impl_RemoveFrom.mono _ _ _ _)
   | (with_reducible exact laws_eqBag.mono _ _ _ _ _)
   | (with_reducible exact laws_heldBag.mono _ _ _ _)
   | (with_reducible exact laws_markBag.mono _ _ _ _)
   | (with_reducible exact laws_szBag.mono _ _ _ _)
   | (with_reducible exact laws_toBag.mono _ _ _)
   | (with_reducible exact spec_RemoveFrom.mono _ _ _ _)
   | (with_reducible exact LeO.refl _)
   | (with_reducible exact LeO.none _)
   | (with_reducible refine LeO.ite ?_ ?_)
   | (with_reducible refine LeO.bind ?_ (fun _ => ?_))
   | exact ih0 _ _ _ _ _ _ _ _ _ _ _ _
   | exact ih1 _ _ _ _ _ _ _ _ _
   | exact ih2 _ _ _ _
   | exact impl_RemoveFrom.mono _ _ _ _
   | exact laws_eqBag.mono _ _ _ _ _
   | exact laws_heldBag.mono _ _ _ _
   | exact laws_markBag.mono _ _ _ _
   | exact laws_szBag.mono _ _ _ _
   | exact laws_toBag.mono _ _ _
   | exact spec_RemoveFrom.mono _ _ _ _
   | exact LeO.none _
   | refine LeO.ite ?_ ?_
   | refine LeO.bind ?_ (fun _ => ?_)
  ·intro y0 y1 y2 y3 y4 y5 y6 y7 y8
   unfold laws_FnExactRemoveFrom.j1
   repeat' first
   | (with_reducible exact ih0 _ _ _ _ _ _ _ _ _ _ _ _)
   | (with_reducible exact ih1 _ _ _ _ _ _ _ _ _)
   | (with_reducible exact ih2 _ _ _ _)
   | (with_reducible exact impl_RemoveFrom.mono _ _ _ _)
   | (with_reducible exact laws_eqBag.mono _ _ _ _ _)
   | (with_reducible exact laws_heldBag.mono _ _ _ _)
   | (with_reducible exact laws_markBag.mono _ _ _ _)
   | (with_reducible exact laws_szBag.mono _ _ _ _)
   | (with_reducible exact laws_toBag.mono _ _ _)
   | (with_reducible exact spec_RemoveFrom.mono _ _ _ _)
   | (with_reducible exact LeO.refl _)
   | (with_reducible exact LeO.none _)
   | (with_reducible refine LeO.ite ?_ ?_)
   | (with_reducible refine LeO.bind ?_ (fun _ => ?_))
   | exact ih0 _ _ _ _ _ _ _ _ _ _ _ _
   | exact ih1 _ _ _ _ _ _ _ _ _
   | exact ih2 _ _ _ _
   | exact impl_RemoveFrom.mono _ _ _ _
   | exact laws_eqBag.mono _ _ _ _ _
   | exact laws_heldBag.mono _ _ _ _
   | exact laws_markBag.mono _ _ _ _
   | exact laws_szBag.mono _ _ _ _
   | exact laws_toBag.mono _ _ _
   | exact spec_RemoveFrom.mono _ _ _ _
   | exact LeO.none _
   | refine LeO.ite ?_ ?_
   | refine LeO.bind ?_ (fun _ => ?_)
  ·intro y0 y1 y2 y3
   unfold laws_FnExactRemoveFrom.j2
   repeat' first
   | (with_reducible exact ih0 _ _ _ _ _ _ _ _ _ _ _ _)
   | (with_reducible exact ih1 _ _ _ _ _ _ _ _ _)
   | (with_reducible exact ih2 _ _ _ _)
   | (with_reducible exact impl_RemoveFrom.mono _ _ _ _)
   | (with_reducible exact laws_eqBag.mono _ _ _ _ _)
   | (with_reducible exact laws_heldBag.mono _ _ _ _)
   | (with_reducible exact laws_markBag.mono _ _ _ _)
   | (with_reducible exact laws_szBag.mono _ _ _ _)
   | (with_reducible exact laws_toBag.mono _ _ _)
   | (with_reducible exact spec_RemoveFrom.mono _ _ _ _)
   | (with_reducible exact LeO.refl _)
   | (with_reducible exact LeO.none _)
   | (with_reducible refine LeO.ite ?_ ?_)
   | (with_reducible refine LeO.bind ?_ (fun _ => ?_))
   | exact ih0 _ _ _ _ _ _ _ _ _ _ _ _
   | exact ih1 _ _ _ _ _ _ _ _ _
   | exact ih2 _ _ _ _
   | exact impl_RemoveFrom.mono _ _ _ _
   | exact laws_eqBag.mono _ _ _ _ _
   | exact laws_heldBag.mono _ _ _ _
   | exact laws_markBag.mono _ _ _ _
   | exact laws_szBag.mono _ _ _ _
   | exact laws_toBag.mono _ _ _
   | exact spec_RemoveFrom.mono _ _ _ _
   | exact LeO.none _
   | refine LeO.ite ?_ ?_
   | refine LeO.bind ?_ (fun _ => ?_)
theorem laws_FnExactRemoveFrom.mono : ∀ a0 a1 a2 k, LeO (laws_FnExactRemoveFrom.f k a0 a1 a2) (laws_FnExactRemoveFrom.f (k + 1) a0 a1 a2) := by
 intro a0 a1 a2 k
 obtain ⟨ih0, ih1, ih2⟩ := laws_FnExactRemoveFrom.mono_l k
 unfold laws_FnExactRemoveFrom.f
 repeat' first
   | (with_reducible exact ih0 _ _ _ _ _ _ _ _ _ _ _ _)
   | (with_reducible exact ih1 _ _ _ _ _ _ _ _ _)
   | (with_reducible exact ih2 _ _ _ _)
   | (with_reducible exact impl_RemoveFrom.mono _ _ _ _)
   | (with_reducible exact laws_eqBag.mono _ _ _ _ _)
   | (with_reducible exact laws_heldBag.mono _ _ _ _)
   | (with_reducible exact laws_markBag.mono _ _ _ _)
   | (with_reducible exact laws_szBag.mono _ _ _ _)
   | (with_reducible exact laws_toBag.mono _ _ _)
   | (with_reducible exact spec_RemoveFrom.mono _ _ _ _)
   | (with_reducible exact LeO.refl _)
   | (with_reducible exact LeO.none _)
   | (with_reducible refine LeO.ite ?_ ?_)
   | (with_reducible refine LeO.bind ?_ (fun _ => ?_))
   | exact ih0 _ _ _ _ _ _ _ _ _ _ _ _
   | exact ih1 _ _ _ _ _ _ _ _ _
   | exact ih2 _ _ _ _
   | exact impl_RemoveFrom.mono _ _ _ _
   | exact laws_eqBag.mono _ _ _ _ _
   | exact laws_heldBag.mono _ _ _ _
   | exact laws_markBag.mono _ _ _ _
   | exact laws_szBag.mono _ _ _ _
   | exact laws_toBag.mono _ _ _
   | exact spec_RemoveFrom.mono _ _ _ _
   | exact LeO.none _
   | refine LeO.ite ?_ ?_
   | refine LeO.bind ?_ (fun _ => ?_)
set_option maxHeartbeats 8000000 in
set_option maxRecDepth 100000 in
theorem laws_FnExactRemoveFrom.calls (k : Nat) (A0_0 : Option Addr) (c0_0 : Nat) (l0_0 : List (S72)) (A0_1 : Option Addr) (c0_1 : Nat) (l0_1 : List (S72)) (a1 : ByteArray) (r : Bool) (w : World) (hr0_0 : Kd.C k72 w A0_0 l0_0.length l0_0) (hc0_0 : l0_0.length ≤ c0_0) (hr0_1 : Kd.C k72 w A0_1 l0_1.length l0_1) (hc0_1 : l0_1.length ≤ c0_1) (h : laws_FnExactRemoveFrom.f k l0_0 l0_1 a1 = some r) :
  Calls Try.prog 4 #[.agg #[.slice A0_0 l0_0.length c0_0, .slice A0_1 l0_1.length c0_1], .string a1] w fun e w' => e = .returned (.bool r) ∧ Below w.heap.size w w' := by
 have hu24 := Try.underlying24
 have hu29 := Try.underlying29
 have HR0_0 := Aside0.mk hr0_0
 have HC0_0 := Aside0.mk hc0_0
 clear hr0_0 hc0_0
 have HR0_1 := Aside0.mk hr0_1
 have HC0_1 := Aside0.mk hc0_1
 clear hr0_1 hc0_1
 have HB := Aside0.mk (Below.refl w.heap.size w)
 have H : (if (a1.size : Int) > 1048576 then (some true) else ((laws_szBag.f k l0_0 l0_1 1048576).bind fun t593 => (if t593 < 0 then (some true) else ((laws_toBag.f k l0_0 l0_1).bind fun bt594 => ((spec_RemoveFrom.f k bt594.1 bt594.2 a1).bind fun bt600 => ((laws_toBag.f k l0_0 l0_1).bind fun bt608 => ((impl_RemoveFrom.f k bt608.1 bt608.2 a1).bind fun bt615 => ((laws_eqBag.f k bt615.1 bt615.2.1 bt600.1 bt600.2.1).bind fun t623 => (if t623 = true then (laws_FnExactRemoveFrom.j0 k a1 bt600.2.2 bt615.2.2 (bt615.2.2 != bt600.2.2) l0_0 l0_1 bt600.1 bt600.2.1 bt608.1 bt608.2 bt615.1 bt615.2.1) else (none)))))))))) = some r := h
 clear h
 by_cases c3 : (a1.size : Int) > 1048576
 ·rw [if_pos c3] at H
  have c3b0 : decide (1048576 < (a1.size : Int)) = true := decide_eq_true c3
  have c3b1 : decide (1048576 < a1.size) = true := decide_eq_true (by omega)
  clear c3
  obtain rfl := Option.some.inj H
  go_enter Try.func4, Try.ntmps4
  go_wp2_with (first | ((with_reducible refine gate_dst (N := 2) rfl ?_); refine box_event rfl (N := 2) rfl (cs := #[.slice A0_0 l0_0.length c0_0, .slice A0_1 l0_1.length c0_1]) (t := 24) gs_ ?_; intro gb592 hg w4 hbox hb; have BK592 := Aside0.mk (hbox); have GW592 := Aside0.mk ((by rw [hg]; exact bz_ : w.heap.size ≤ gb592)); have GE592 := GW592; replace HB := Aside0.mk (below_step bl_ hb); clear hb hbox hg))
  go_ret
  exact ⟨ng_, bl_⟩
 rw [if_neg c3] at H
 have c3b0 : decide (1048576 < (a1.size : Int)) = false := decide_eq_false c3
 have c3b1 : decide (1048576 < a1.size) = false := decide_eq_false (by omega)
 clear c3
 replace H := Option.bind_eq_some_iff.mp H
 obtain ⟨t593, A50, H⟩ := H
 replace H : (if t593 < 0 then (some true) else ((laws_toBag.f k l0_0 l0_1).bind fun bt594 => ((spec_RemoveFrom.f k bt594.1 bt594.2 a1).bind fun bt600 => ((laws_toBag.f k l0_0 l0_1).bind fun bt608 => ((impl_RemoveFrom.f k bt608.1 bt608.2 a1).bind fun bt615 => ((laws_eqBag.f k bt615.1 bt615.2.1 bt600.1 bt600.2.1).bind fun t623 => (if t623 = true then (laws_FnExactRemoveFrom.j0 k a1 bt600.2.2 bt615.2.2 (bt615.2.2 != bt600.2.2) l0_0 l0_1 bt600.1 bt600.2.1 bt608.1 bt608.2 bt615.1 bt615.2.1) else (none)))))))) = some r := H
 have A5 := Aside0.mk A50
 clear A50
 by_cases c6 : t593 < 0
 ·rw [if_pos c6] at H
  have c6b0 : decide (t593 < 0) = true := decide_eq_true c6
  clear c6
  obtain rfl := Option.some.inj H
  go_enter Try.func4, Try.ntmps4
  go_wp2_with (first | ((with_reducible refine gate_dst (N := 2) rfl ?_); refine box_event rfl (N := 2) rfl (cs := #[.slice A0_0 l0_0.length c0_0, .slice A0_1 l0_1.length c0_1]) (t := 24) gs_ ?_; intro gb592 hg w7 hbox hb; have BK592 := Aside0.mk (hbox); have GW592 := Aside0.mk ((by rw [hg]; exact bz_ : w.heap.size ≤ gb592)); have GE592 := GW592; replace HB := Aside0.mk (below_step bl_ hb); clear hb hbox hg; have hcz8_0 : w7.cell? ⟨gb592, 0, none⟩ = some (.slice A0_0 l0_0.length c0_0) := bc_ BK592.out 0; have hcz8_1 : w7.cell? ⟨gb592, 1, none⟩ = some (.slice A0_1 l0_1.length c0_1) := bc_ BK592.out 1; have hfz8_0 := blk_frozen BK592.out 0; have hfz8_1 := blk_frozen BK592.out 1) | ((with_reducible refine gate_callee (f := 8) rfl ?_); refine goesL_ (some 21) rfl rfl Try.func8 (by kernel_rfl) rfl #[.agg #[.slice A0_0 l0_0.length c0_0, .slice A0_1 l0_1.length c0_1], .int .i64 1048576] rfl nc_ ?_; (with_reducible refine (laws_szBag.calls k _ _ l0_0 _ _ l0_1 1048576 t593 _ ?side1 ?side2 ?side3 ?side4 A5.out).mono ?_); (case side1 => exact kc_ (Kd.C_below HR0_0.out HB.out)); (case side2 => exact HC0_0.out); (case side3 => exact kc_ (Kd.C_below HR0_1.out HB.out)); (case side4 => exact HC0_1.out); rintro e w9 ⟨rfl, hb⟩; refine ⟨_, rfl, ?_⟩; replace BK592 := bb_ BK592 hb; replace HB := Aside0.mk (below_step bl_ hb); clear hb))
  go_ret
  exact ⟨ng_, bl_⟩
 rw [if_neg c6] at H
 have c6b0 : decide (t593 < 0) = false := decide_eq_false c6
 clear c6
 replace H := Option.bind_eq_some_iff.mp H
 obtain ⟨⟨t594, t597⟩, A100, H⟩ := H
 replace H : ((spec_RemoveFrom.f k t594 t597 a1).bind fun bt600 => ((laws_toBag.f k l0_0 l0_1).bind fun bt608 => ((impl_RemoveFrom.f k bt608.1 bt608.2 a1).bind fun bt615 => ((laws_eqBag.f k bt615.1 bt615.2.1 bt600.1 bt600.2.1).bind fun t623 => (if t623 = true then (laws_FnExactRemoveFrom.j0 k a1 bt600.2.2 bt615.2.2 (bt615.2.2 != bt600.2.2) l0_0 l0_1 bt600.1 bt600.2.1 bt608.1 bt608.2 bt615.1 bt615.2.1) else (none)))))) = some r := H
 have A10 := Aside0.mk A100
 clear A100
 replace H := Option.bind_eq_some_iff.mp H
 obtain ⟨⟨t600, t603, t606⟩, A110, H⟩ := H
 replace H : ((laws_toBag.f k l0_0 l0_1).bind fun bt608 => ((impl_RemoveFrom.f k bt608.1 bt608.2 a1).bind fun bt615 => ((laws_eqBag.f k bt615.1 bt615.2.1 t600 t603).bind fun t623 => (if t623 = true then (laws_FnExactRemoveFrom.j0 k a1 t606 bt615.2.2 (bt615.2.2 != t606) l0_0 l0_1 t600 t603 bt608.1 bt608.2 bt615.1 bt615.2.1) else (none))))) = some r := H
 have A11 := Aside0.mk A110
 clear A110
 replace H := Option.bind_eq_some_iff.mp H
 obtain ⟨⟨t608, t611⟩, A120, H⟩ := H
 replace H : ((impl_RemoveFrom.f k t608 t611 a1).bind fun bt615 => ((laws_eqBag.f k bt615.1 bt615.2.1 t600 t603).bind fun t623 => (if t623 = true then (laws_FnExactRemoveFrom.j0 k a1 t606 bt615.2.2 (bt615.2.2 != t606) l0_0 l0_1 t600 t603 t608 t611 bt615.1 bt615.2.1) else (none)))) = some r := H
 have A12 := Aside0.mk A120
 clear A120
 replace H := Option.bind_eq_some_iff.mp H
 obtain ⟨⟨t615, t618, t621⟩, A130, H⟩ := H
 replace H : ((laws_eqBag.f k t615 t618 t600 t603).bind fun t623 => (if t623 = true then (laws_FnExactRemoveFrom.j0 k a1 t606 t621 (t621 != t606) l0_0 l0_1 t600 t603 t608 t611 t615 t618) else (none))) = some r := H
 have A13 := Aside0.mk A130
 clear A130
 have HC14 := Aside0.mk H
 clear H
 go_enter Try.func4, Try.ntmps4
 go_upto_region 10 with (first | ((with_reducible refine gate_dst (N := 2) rfl ?_); refine box_event rfl (N := 2) rfl (cs := #[.slice A0_0 l0_0.length c0_0, .slice A0_1 l0_1.length c0_1]) (t := 24) gs_ ?_; intro gb592 hg w15 hbox hb; have BK592 := Aside0.mk (hbox); have GW592 := Aside0.mk ((by rw [hg]; exact bz_ : w.heap.size ≤ gb592)); have GE592 := GW592; replace HB := Aside0.mk (below_step bl_ hb); clear hb hbox hg; have hcz16_0 : w15.cell? ⟨gb592, 0, none⟩ = some (.slice A0_0 l0_0.length c0_0) := bc_ BK592.out 0; have hcz16_1 : w15.cell? ⟨gb592, 1, none⟩ = some (.slice A0_1 l0_1.length c0_1) := bc_ BK592.out 1; have hfz16_0 := blk_frozen BK592.out 0; have hfz16_1 := blk_frozen BK592.out 1) | ((with_reducible refine gate_callee (f := 8) rfl ?_); refine goesL_ (some 21) rfl rfl Try.func8 (by kernel_rfl) rfl #[.agg #[.slice A0_0 l0_0.length c0_0, .slice A0_1 l0_1.length c0_1], .int .i64 1048576] rfl nc_ ?_; (with_reducible refine (laws_szBag.calls k _ _ l0_0 _ _ l0_1 1048576 t593 _ ?side1 ?side2 ?side3 ?side4 A5.out).mono ?_); (case side1 => exact kc_ (Kd.C_below HR0_0.out HB.out)); (case side2 => exact HC0_0.out); (case side3 => exact kc_ (Kd.C_below HR0_1.out HB.out)); (case side4 => exact HC0_1.out); rintro e w17 ⟨rfl, hb⟩; refine ⟨_, rfl, ?_⟩; replace BK592 := bb_ BK592 hb; replace HB := Aside0.mk (below_step bl_ hb); clear hb; have hcz18_0 : w17.cell? ⟨gb592, 0, none⟩ = some (.slice A0_0 l0_0.length c0_0) := bc_ BK592.out 0; have hcz18_1 : w17.cell? ⟨gb592, 1, none⟩ = some (.slice A0_1 l0_1.length c0_1) := bc_ BK592.out 1; have hfz18_0 := blk_frozen BK592.out 0; have hfz18_1 := blk_frozen BK592.out 1) | ((with_reducible refine gate_callee (f := 10) rfl ?_); refine goesL_ (some 26) rfl rfl Try.func10 (by kernel_rfl) rfl #[.agg #[.slice A0_0 l0_0.length c0_0, .slice A0_1 l0_1.length c0_1]] rfl nc_ ?_; (with_reducible refine (laws_toBag.calls k _ _ l0_0 _ _ l0_1 t594 t597 _ ?side1 ?side2 ?side3 ?side4 A10.out).mono ?_); (case side1 => exact kc_ (Kd.C_below HR0_0.out HB.out)); (case side2 => exact HC0_0.out); (case side3 => exact kc_ (Kd.C_below HR0_1.out HB.out)); (case side4 => exact HC0_1.out); rintro e w19 ⟨v595, v598, rfl, ho0, ho1, hb⟩; refine ⟨_, rfl, ?_⟩; have HO596 := Aside0.mk (Kd.R_lower ho0 bz_); have HO599 := Aside0.mk (Kd.R_lower ho1 bz_); replace BK592 := bb_ BK592 hb; replace HB := Aside0.mk (below_step bl_ hb); clear hb ho0 ho1; obtain ⟨Ao20, co20, eo20⟩ := Kd.R_slice HO596.out; subst eo20; obtain ⟨Ao21, co21, eo21⟩ := Kd.R_slice HO599.out; subst eo21) | ((with_reducible refine gate_callee (f := 13) rfl ?_); refine goesL_ (some 28) rfl rfl Try.func13 (by kernel_rfl) rfl #[.agg #[.slice Ao20 t594.length co20, .slice Ao21 t597.length co21], .string a1] rfl nc_ ?_; (with_reducible refine (spec_RemoveFrom.calls k _ _ t594 _ _ t597 a1 t600 t603 t606 _ ?side1 ?side2 ?side3 ?side4 A11.out).mono ?_); (case side1 => exact kc_ (Kd.R_reads' HO596.out).2.2); (case side2 => exact (Kd.R_reads' HO596.out).2.1); (case side3 => exact kc_ (Kd.R_reads' HO599.out).2.2); (case side4 => exact (Kd.R_reads' HO599.out).2.1); rintro e w22 ⟨v601, v604, rfl, ho0, ho1, hb⟩; refine ⟨_, rfl, ?_⟩; have HO602 := Aside0.mk (Kd.R_lower (rn_ (rn_ ho0 HO596.out) HO599.out) bz_); have HO605 := Aside0.mk (Kd.R_lower (rn_ (rn_ ho1 HO596.out) HO599.out) bz_); replace HO596 := rp2_ HO596 hb ho0 ho1; replace HO599 := rp2_ HO599 hb ho0 ho1; replace BK592 := bb_ BK592 hb; replace HB := Aside0.mk (below_step bl_ hb); clear hb ho0 ho1) | ((with_reducible refine gate_dst (N := 6) rfl ?_); refine box_event rfl (N := 6) rfl (cs := #[.slice none 0 0, .slice none 0 0]) (t := 29) gs_ ?_; intro gb607 hg w23 hbox hb; replace HO596 := rb_ HO596 hb; replace HO599 := rb_ HO599 hb; replace HO602 := rb_ HO602 hb; replace HO605 := rb_ HO605 hb; have BK607 := Aside0.mk (hbox); have GW607 := Aside0.mk ((by rw [hg]; exact bz_ : w.heap.size ≤ gb607)); have GE607 := GW607; replace HB := Aside0.mk (below_step bl_ hb); have NB592_607 := nl_ hg BK592; have NB607_592 := nm_ hg BK592; replace BK592 := bb_ BK592 hb; clear hb hbox hg; obtain ⟨Ao24, co24, eo24⟩ := Kd.R_slice HO602.out; subst eo24; have hnb25 := NB607_592.out; have hnc25 := NB592_607.out; have hcz26_0 : w23.cell? ⟨gb607, 0, none⟩ = some (.slice none 0 0) := bc_ BK607.out 0; have hcz26_1 : w23.cell? ⟨gb607, 1, none⟩ = some (.slice none 0 0) := bc_ BK607.out 1; have hfz26_0 := blk_frozen BK607.out 0; have hfz26_1 := blk_frozen BK607.out 1; obtain ⟨Ao27, co27, eo27⟩ := Kd.R_slice HO605.out; subst eo27; have hcz28_0 : w23.cell? ⟨gb592, 0, none⟩ = some (.slice A0_0 l0_0.length c0_0) := bc_ BK592.out 0; have hcz28_1 : w23.cell? ⟨gb592, 1, none⟩ = some (.slice A0_1 l0_1.length c0_1) := bc_ BK592.out 1; have hfz28_0 := blk_frozen BK592.out 0; have hfz28_1 := blk_frozen BK592.out 1) | ((with_reducible refine gate_callee (f := 10) rfl ?_); refine goesL_ (some 32) rfl rfl Try.func10 (by kernel_rfl) rfl #[.agg #[.slice A0_0 l0_0.length c0_0, .slice A0_1 l0_1.length c0_1]] rfl nc_ ?_; (with_reducible refine (laws_toBag.calls k _ _ l0_0 _ _ l0_1 t608 t611 _ ?side1 ?side2 ?side3 ?side4 A12.out).mono ?_); (case side1 => exact Kd.C_below HR0_0.out bl_); (case side2 => exact HC0_0.out); (case side3 => exact Kd.C_below HR0_1.out bl_); (case side4 => exact HC0_1.out); rintro e w29 ⟨v609, v612, rfl, ho0, ho1, hb⟩; refine ⟨_, rfl, ?_⟩; have HO610 := Aside0.mk (Kd.R_lower (rn_ (rn_ (rn_ (rn_ ho0 (rs2_ HO596.out BK607.out (.slice Ao24 t600.length co24) (.slice Ao27 t603.length co27))) (rs2_ HO599.out BK607.out (.slice Ao24 t600.length co24) (.slice Ao27 t603.length co27))) (rs2_ HO602.out BK607.out (.slice Ao24 t600.length co24) (.slice Ao27 t603.length co27))) (rs2_ HO605.out BK607.out (.slice Ao24 t600.length co24) (.slice Ao27 t603.length co27))) bz_); have HO613 := Aside0.mk (Kd.R_lower (rn_ (rn_ (rn_ (rn_ ho1 (rs2_ HO596.out BK607.out (.slice Ao24 t600.length co24) (.slice Ao27 t603.length co27))) (rs2_ HO599.out BK607.out (.slice Ao24 t600.length co24) (.slice Ao27 t603.length co27))) (rs2_ HO602.out BK607.out (.slice Ao24 t600.length co24) (.slice Ao27 t603.length co27))) (rs2_ HO605.out BK607.out (.slice Ao24 t600.length co24) (.slice Ao27 t603.length co27))) bz_); replace HO596 := Aside0.mk (ro2_ (rs2_ HO596.out BK607.out (.slice Ao24 t600.length co24) (.slice Ao27 t603.length co27)) hb (Kd.R_base ho0) (Kd.R_base ho1)); replace HO599 := Aside0.mk (ro2_ (rs2_ HO599.out BK607.out (.slice Ao24 t600.length co24) (.slice Ao27 t603.length co27)) hb (Kd.R_base ho0) (Kd.R_base ho1)); replace HO602 := Aside0.mk (ro2_ (rs2_ HO602.out BK607.out (.slice Ao24 t600.length co24) (.slice Ao27 t603.length co27)) hb (Kd.R_base ho0) (Kd.R_base ho1)); replace HO605 := Aside0.mk (ro2_ (rs2_ HO605.out BK607.out (.slice Ao24 t600.length co24) (.slice Ao27 t603.length co27)) hb (Kd.R_base ho0) (Kd.R_base ho1)); replace BK592 := Aside0.mk (blk_below (g := gb592) (o := .cells #[.slice A0_0 l0_0.length c0_0, .slice A0_1 l0_1.length c0_1] 24 (0, 0)) kz_ hb); replace BK607 := Aside0.mk (blk_below (g := gb607) (o := .cells #[.slice Ao24 t600.length co24, .slice Ao27 t603.length co27] 29 (0, 0)) (by (with_reducible repeat (first | refine blk_drewN ?_ _ | refine blk_drew ?_ | refine blk_alloc ?_ _)); refine blk_put (cs := #[.slice Ao24 t600.length co24, .slice none 0 0]) ?_ 1 _ rfl; (with_reducible repeat (first | refine blk_drewN ?_ _ | refine blk_drew ?_ | refine blk_alloc ?_ _)); refine blk_put (cs := #[.slice none 0 0, .slice none 0 0]) ?_ 0 _ rfl; exact kb_ BK607.out) hb); replace HB := Aside0.mk (below_step bl_ hb); clear hb ho0 ho1) | ((with_reducible refine gate_dst (N := 8) rfl ?_); refine box_event rfl (N := 8) rfl (cs := #[.slice none 0 0, .slice none 0 0]) (t := 29) gs_ ?_; intro gb614 hg w30 hbox hb; replace HO596 := rb_ HO596 hb; replace HO599 := rb_ HO599 hb; replace HO602 := rb_ HO602 hb; replace HO605 := rb_ HO605 hb; replace HO610 := rb_ HO610 hb; replace HO613 := rb_ HO613 hb; have BK614 := Aside0.mk (hbox); have GW614 := Aside0.mk ((by rw [hg]; exact bz_ : w.heap.size ≤ gb614)); have GE614 := GW614; replace HB := Aside0.mk (below_step bl_ hb); have NB592_614 := nl_ hg BK592; have NB614_592 := nm_ hg BK592; replace BK592 := bb_ BK592 hb; have NB607_614 := nl_ hg BK607; have NB614_607 := nm_ hg BK607; replace BK607 := bb_ BK607 hb; clear hb hbox hg; obtain ⟨Ao31, co31, eo31⟩ := Kd.R_slice HO610.out; subst eo31; have hnb32 := NB614_592.out; have hnc32 := NB592_614.out; have hnb33 := NB614_607.out; have hnc33 := NB607_614.out; have hcz34_0 : w30.cell? ⟨gb614, 0, none⟩ = some (.slice none 0 0) := bc_ BK614.out 0; have hcz34_1 : w30.cell? ⟨gb614, 1, none⟩ = some (.slice none 0 0) := bc_ BK614.out 1; have hfz34_0 := blk_frozen BK614.out 0; have hfz34_1 := blk_frozen BK614.out 1; obtain ⟨Ao35, co35, eo35⟩ := Kd.R_slice HO613.out; subst eo35) | ((with_reducible refine gate_callee (f := 14) rfl ?_); refine goesL_ (some 36) rfl rfl Try.func14 (by kernel_rfl) rfl #[.agg #[.slice Ao31 t608.length co31, .slice Ao35 t611.length co35], .string a1] rfl nc_ ?_; (with_reducible refine (impl_RemoveFrom.calls k _ _ t608 _ _ t611 a1 t615 t618 t621 _ ?side1 ?side2 ?side3 ?side4 A13.out).mono ?_); (case side1 => exact (Kd.R_reads' (kr_ (rs2_ HO610.out BK614.out (.slice Ao31 t608.length co31) (.slice Ao35 t611.length co35)))).2.2); (case side2 => exact (Kd.R_reads' HO610.out).2.1); (case side3 => exact (Kd.R_reads' (kr_ (rs2_ HO613.out BK614.out (.slice Ao31 t608.length co31) (.slice Ao35 t611.length co35)))).2.2); (case side4 => exact (Kd.R_reads' HO613.out).2.1); rintro e w36 ⟨v616, v619, rfl, ho0, ho1, hb⟩; refine ⟨_, rfl, ?_⟩; have HO617 := Aside0.mk (Kd.R_lower (rn_ (rn_ (rn_ (rn_ (rn_ (rn_ ho0 (rs2_ HO596.out BK614.out (.slice Ao31 t608.length co31) (.slice Ao35 t611.length co35))) (rs2_ HO599.out BK614.out (.slice Ao31 t608.length co31) (.slice Ao35 t611.length co35))) (rs2_ HO602.out BK614.out (.slice Ao31 t608.length co31) (.slice Ao35 t611.length co35))) (rs2_ HO605.out BK614.out (.slice Ao31 t608.length co31) (.slice Ao35 t611.length co35))) (rs2_ HO610.out BK614.out (.slice Ao31 t608.length co31) (.slice Ao35 t611.length co35))) (rs2_ HO613.out BK614.out (.slice Ao31 t608.length co31) (.slice Ao35 t611.length co35))) bz_); have HO620 := Aside0.mk (Kd.R_lower (rn_ (rn_ (rn_ (rn_ (rn_ (rn_ ho1 (rs2_ HO596.out BK614.out (.slice Ao31 t608.length co31) (.slice Ao35 t611.length co35))) (rs2_ HO599.out BK614.out (.slice Ao31 t608.length co31) (.slice Ao35 t611.length co35))) (rs2_ HO602.out BK614.out (.slice Ao31 t608.length co31) (.slice Ao35 t611.length co35))) (rs2_ HO605.out BK614.out (.slice Ao31 t608.length co31) (.slice Ao35 t611.length co35))) (rs2_ HO610.out BK614.out (.slice Ao31 t608.length co31) (.slice Ao35 t611.length co35))) (rs2_ HO613.out BK614.out (.slice Ao31 t608.length co31) (.slice Ao35 t611.length co35))) bz_); replace HO596 := Aside0.mk (ro2_ (rs2_ HO596.out BK614.out (.slice Ao31 t608.length co31) (.slice Ao35 t611.length co35)) hb (Kd.R_base ho0) (Kd.R_base ho1)); replace HO599 := Aside0.mk (ro2_ (rs2_ HO599.out BK614.out (.slice Ao31 t608.length co31) (.slice Ao35 t611.length co35)) hb (Kd.R_base ho0) (Kd.R_base ho1)); replace HO602 := Aside0.mk (ro2_ (rs2_ HO602.out BK614.out (.slice Ao31 t608.length co31) (.slice Ao35 t611.length co35)) hb (Kd.R_base ho0) (Kd.R_base ho1)); replace HO605 := Aside0.mk (ro2_ (rs2_ HO605.out BK614.out (.slice Ao31 t608.length co31) (.slice Ao35 t611.length co35)) hb (Kd.R_base ho0) (Kd.R_base ho1)); replace HO610 := Aside0.mk (ro2_ (rs2_ HO610.out BK614.out (.slice Ao31 t608.length co31) (.slice Ao35 t611.length co35)) hb (Kd.R_base ho0) (Kd.R_base ho1)); replace HO613 := Aside0.mk (ro2_ (rs2_ HO613.out BK614.out (.slice Ao31 t608.length co31) (.slice Ao35 t611.length co35)) hb (Kd.R_base ho0) (Kd.R_base ho1)); replace BK592 := Aside0.mk (blk_below (g := gb592) (o := .cells #[.slice A0_0 l0_0.length c0_0, .slice A0_1 l0_1.length c0_1] 24 (0, 0)) kz_ hb); replace BK607 := Aside0.mk (blk_below (g := gb607) (o := .cells #[.slice Ao24 t600.length co24, .slice Ao27 t603.length co27] 29 (0, 0)) kz_ hb); replace BK614 := Aside0.mk (blk_below (g := gb614) (o := .cells #[.slice Ao31 t608.length co31, .slice Ao35 t611.length co35] 29 (0, 0)) (by (with_reducible repeat (first | refine blk_drewN ?_ _ | refine blk_drew ?_ | refine blk_alloc ?_ _)); refine blk_put (cs := #[.slice Ao31 t608.length co31, .slice none 0 0]) ?_ 1 _ rfl; (with_reducible repeat (first | refine blk_drewN ?_ _ | refine blk_drew ?_ | refine blk_alloc ?_ _)); refine blk_put (cs := #[.slice none 0 0, .slice none 0 0]) ?_ 0 _ rfl; exact kb_ BK614.out) hb); replace HB := Aside0.mk (below_step bl_ hb); clear hb ho0 ho1) | ((with_reducible refine gate_dst (N := 9) rfl ?_); refine box_event rfl (N := 9) rfl (cs := #[.slice none 0 0, .slice none 0 0]) (t := 29) gs_ ?_; intro gb622 hg w37 hbox hb; replace HO596 := rb_ HO596 hb; replace HO599 := rb_ HO599 hb; replace HO602 := rb_ HO602 hb; replace HO605 := rb_ HO605 hb; replace HO610 := rb_ HO610 hb; replace HO613 := rb_ HO613 hb; replace HO617 := rb_ HO617 hb; replace HO620 := rb_ HO620 hb; have BK622 := Aside0.mk (hbox); have GW622 := Aside0.mk ((by rw [hg]; exact bz_ : w.heap.size ≤ gb622)); have GE622 := GW622; replace HB := Aside0.mk (below_step bl_ hb); have NB592_622 := nl_ hg BK592; have NB622_592 := nm_ hg BK592; replace BK592 := bb_ BK592 hb; have NB607_622 := nl_ hg BK607; have NB622_607 := nm_ hg BK607; replace BK607 := bb_ BK607 hb; have NB614_622 := nl_ hg BK614; have NB622_614 := nm_ hg BK614; replace BK614 := bb_ BK614 hb; clear hb hbox hg; obtain ⟨Ao38, co38, eo38⟩ := Kd.R_slice HO617.out; subst eo38; have hnb39 := NB622_592.out; have hnc39 := NB592_622.out; have hnb40 := NB622_607.out; have hnc40 := NB607_622.out; have hnb41 := NB622_614.out; have hnc41 := NB614_622.out; have hcz42_0 : w37.cell? ⟨gb622, 0, none⟩ = some (.slice none 0 0) := bc_ BK622.out 0; have hcz42_1 : w37.cell? ⟨gb622, 1, none⟩ = some (.slice none 0 0) := bc_ BK622.out 1; have hfz42_0 := blk_frozen BK622.out 0; have hfz42_1 := blk_frozen BK622.out 1; obtain ⟨Ao43, co43, eo43⟩ := Kd.R_slice HO620.out; subst eo43))
 (try simp only [Act.put, List.setIfInBounds_toArray, List.set_cons_zero, List.set_cons_succ])
 go_cut [47] (fun v47 wc => ∃ (kq : Nat) (x47_13 : Bool), v47 = .bool x47_13 ∧ Aside0 (laws_FnExactRemoveFrom.j0 kq a1 t606 t621 x47_13 l0_0 l0_1 t600 t603 t608 t611 t615 t618 = some r) ∧ Aside0 (kq ≤ k) ∧ Aside0 (Kd.R k48 48 wc w.heap.size (fun k_ => some k_ ≠ ((.slice Ao27 t603.length co27) : Value).ownBlock ∧ some k_ ≠ ((.slice Ao31 t608.length co31) : Value).ownBlock ∧ some k_ ≠ ((.slice Ao35 t611.length co35) : Value).ownBlock ∧ some k_ ≠ ((.slice Ao38 t615.length co38) : Value).ownBlock ∧ some k_ ≠ ((.slice Ao43 t618.length co43) : Value).ownBlock) (.slice Ao24 t600.length co24) t600) ∧ Aside0 (Kd.R k48 48 wc w.heap.size (fun k_ => some k_ ≠ ((.slice Ao24 t600.length co24) : Value).ownBlock ∧ some k_ ≠ ((.slice Ao31 t608.length co31) : Value).ownBlock ∧ some k_ ≠ ((.slice Ao35 t611.length co35) : Value).ownBlock ∧ some k_ ≠ ((.slice Ao38 t615.length co38) : Value).ownBlock ∧ some k_ ≠ ((.slice Ao43 t618.length co43) : Value).ownBlock) (.slice Ao27 t603.length co27) t603) ∧ Aside0 (Kd.R k48 48 wc w.heap.size (fun k_ => some k_ ≠ ((.slice Ao24 t600.length co24) : Value).ownBlock ∧ some k_ ≠ ((.slice Ao27 t603.length co27) : Value).ownBlock ∧ some k_ ≠ ((.slice Ao35 t611.length co35) : Value).ownBlock ∧ some k_ ≠ ((.slice Ao38 t615.length co38) : Value).ownBlock ∧ some k_ ≠ ((.slice Ao43 t618.length co43) : Value).ownBlock) (.slice Ao31 t608.length co31) t608) ∧ Aside0 (Kd.R k48 48 wc w.heap.size (fun k_ => some k_ ≠ ((.slice Ao24 t600.length co24) : Value).ownBlock ∧ some k_ ≠ ((.slice Ao27 t603.length co27) : Value).ownBlock ∧ some k_ ≠ ((.slice Ao31 t608.length co31) : Value).ownBlock ∧ some k_ ≠ ((.slice Ao38 t615.length co38) : Value).ownBlock ∧ some k_ ≠ ((.slice Ao43 t618.length co43) : Value).ownBlock) (.slice Ao35 t611.length co35) t611) ∧ Aside0 (Kd.R k48 48 wc w.heap.size (fun k_ => some k_ ≠ ((.slice Ao24 t600.length co24) : Value).ownBlock ∧ some k_ ≠ ((.slice Ao27 t603.length co27) : Value).ownBlock ∧ some k_ ≠ ((.slice Ao31 t608.length co31) : Value).ownBlock ∧ some k_ ≠ ((.slice Ao35 t611.length co35) : Value).ownBlock ∧ some k_ ≠ ((.slice Ao43 t618.length co43) : Value).ownBlock) (.slice Ao38 t615.length co38) t615) ∧ Aside0 (Kd.R k48 48 wc w.heap.size (fun k_ => some k_ ≠ ((.slice Ao24 t600.length co24) : Value).ownBlock ∧ some k_ ≠ ((.slice Ao27 t603.length co27) : Value).ownBlock ∧ some k_ ≠ ((.slice Ao31 t608.length co31) : Value).ownBlock ∧ some k_ ≠ ((.slice Ao35 t611.length co35) : Value).ownBlock ∧ some k_ ≠ ((.slice Ao38 t615.length co38) : Value).ownBlock) (.slice Ao43 t618.length co43) t618) ∧ Aside0 (wc.heap[gb592]? = some (.cells #[(.slice A0_0 l0_0.length c0_0), (.slice A0_1 l0_1.length c0_1)] 24 (0, 0))) ∧ Aside0 (wc.heap[gb607]? = some (.cells #[(.slice Ao24 t600.length co24), (.slice Ao27 t603.length co27)] 29 (0, 0))) ∧ Aside0 (wc.heap[gb614]? = some (.cells #[(.slice Ao31 t608.length co31), (.slice Ao35 t611.length co35)] 29 (0, 0))) ∧ Aside0 (wc.heap[gb622]? = some (.cells #[(.slice Ao38 t615.length co38), (.slice Ao43 t618.length co43)] 29 (0, 0))) ∧ Aside0 (Below w.heap.size w wc))
 case first =>
  have H := HC14.out
  clear HC14
  replace H := Option.bind_eq_some_iff.mp H
  obtain ⟨t623, A440, H⟩ := H
  replace H : (if t623 = true then (laws_FnExactRemoveFrom.j0 k a1 t606 t621 (t621 != t606) l0_0 l0_1 t600 t603 t608 t611 t615 t618) else (none)) = some r := H
  have A44 := Aside0.mk A440
  clear A440
  by_cases c45 : t623 = true
  rotate_left
  ·replace c45 := Bool.eq_false_iff.mpr c45
   subst c45
   have H1 : (none) = some r := by rw [if_neg (show ¬ (false = true) by decide)] at H; exact H
   clear H
   have H := H1
   clear H1
   exact absurd H (by simp)
  subst c45
  have H1 : (laws_FnExactRemoveFrom.j0 k a1 t606 t621 (t621 != t606) l0_0 l0_1 t600 t603 t608 t611 t615 t618) = some r := by rw [if_pos rfl] at H; exact H
  clear H
  have H := H1
  clear H1
  have H' := Aside0.mk H
  clear H
  have hnb46 := NB622_592.out
  have hnc46 := NB592_622.out
  have hnb47 := NB622_607.out
  have hnc47 := NB607_622.out
  have hnb48 := NB622_614.out
  have hnc48 := NB614_622.out
  have hcz49_0 : w37.cell? ⟨gb622, 0, none⟩ = some (.slice none 0 0) := bc_ BK622.out 0
  have hcz49_1 : w37.cell? ⟨gb622, 1, none⟩ = some (.slice none 0 0) := bc_ BK622.out 1
  have hfz49_0 := blk_frozen BK622.out 0
  have hfz49_1 := blk_frozen BK622.out 1
  have hnb50 := NB607_592.out
  have hnc50 := NB592_607.out
  have hnb51 := NB607_614.out
  have hnc51 := NB614_607.out
  have hcz52_0 : w37.cell? ⟨gb607, 0, none⟩ = some (.slice Ao24 t600.length co24) := bc_ BK607.out 0
  have hcz52_1 : w37.cell? ⟨gb607, 1, none⟩ = some (.slice Ao27 t603.length co27) := bc_ BK607.out 1
  have hfz52_0 := blk_frozen BK607.out 0
  have hfz52_1 := blk_frozen BK607.out 1
  go_wp2_with (first | ((with_reducible refine gate_callee (f := 12) rfl ?_); refine goesL_ (some 41) rfl rfl Try.func12 (by kernel_rfl) rfl #[.agg #[.slice Ao38 t615.length co38, .slice Ao43 t618.length co43], .agg #[.slice Ao24 t600.length co24, .slice Ao27 t603.length co27]] rfl nc_ ?_; (with_reducible refine (laws_eqBag.calls k _ _ t615 _ _ t618 _ _ t600 _ _ t603 true _ ?side1 ?side2 ?side3 ?side4 ?side5 ?side6 ?side7 ?side8 A44.out).mono ?_); (case side1 => exact (Kd.R_reads' (kr_ (rs2_ HO617.out BK622.out (.slice Ao38 t615.length co38) (.slice Ao43 t618.length co43)))).2.2); (case side2 => exact (Kd.R_reads' HO617.out).2.1); (case side3 => exact (Kd.R_reads' (kr_ (rs2_ HO620.out BK622.out (.slice Ao38 t615.length co38) (.slice Ao43 t618.length co43)))).2.2); (case side4 => exact (Kd.R_reads' HO620.out).2.1); (case side5 => exact (Kd.R_reads' (kr_ (rs2_ HO602.out BK622.out (.slice Ao38 t615.length co38) (.slice Ao43 t618.length co43)))).2.2); (case side6 => exact (Kd.R_reads' HO602.out).2.1); (case side7 => exact (Kd.R_reads' (kr_ (rs2_ HO605.out BK622.out (.slice Ao38 t615.length co38) (.slice Ao43 t618.length co43)))).2.2); (case side8 => exact (Kd.R_reads' HO605.out).2.1); rintro e w53 ⟨rfl, hb⟩; refine ⟨_, rfl, ?_⟩; replace HO596 := Aside0.mk (Kd.R_below (kr_ (rs2_ HO596.out BK622.out (.slice Ao38 t615.length co38) (.slice Ao43 t618.length co43))) hb); replace HO599 := Aside0.mk (Kd.R_below (kr_ (rs2_ HO599.out BK622.out (.slice Ao38 t615.length co38) (.slice Ao43 t618.length co43))) hb); replace HO602 := Aside0.mk (Kd.R_below (kr_ (rs2_ HO602.out BK622.out (.slice Ao38 t615.length co38) (.slice Ao43 t618.length co43))) hb); replace HO605 := Aside0.mk (Kd.R_below (kr_ (rs2_ HO605.out BK622.out (.slice Ao38 t615.length co38) (.slice Ao43 t618.length co43))) hb); replace HO610 := Aside0.mk (Kd.R_below (kr_ (rs2_ HO610.out BK622.out (.slice Ao38 t615.length co38) (.slice Ao43 t618.length co43))) hb); replace HO613 := Aside0.mk (Kd.R_below (kr_ (rs2_ HO613.out BK622.out (.slice Ao38 t615.length co38) (.slice Ao43 t618.length co43))) hb); replace HO617 := Aside0.mk (Kd.R_below (kr_ (rs2_ HO617.out BK622.out (.slice Ao38 t615.length co38) (.slice Ao43 t618.length co43))) hb); replace HO620 := Aside0.mk (Kd.R_below (kr_ (rs2_ HO620.out BK622.out (.slice Ao38 t615.length co38) (.slice Ao43 t618.length co43))) hb); replace BK592 := Aside0.mk (blk_below (g := gb592) (o := .cells #[.slice A0_0 l0_0.length c0_0, .slice A0_1 l0_1.length c0_1] 24 (0, 0)) kz_ hb); replace BK607 := Aside0.mk (blk_below (g := gb607) (o := .cells #[.slice Ao24 t600.length co24, .slice Ao27 t603.length co27] 29 (0, 0)) kz_ hb); replace BK614 := Aside0.mk (blk_below (g := gb614) (o := .cells #[.slice Ao31 t608.length co31, .slice Ao35 t611.length co35] 29 (0, 0)) kz_ hb); replace BK622 := Aside0.mk (blk_below (g := gb622) (o := .cells #[.slice Ao38 t615.length co38, .slice Ao43 t618.length co43] 29 (0, 0)) (by (with_reducible repeat (first | refine blk_drewN ?_ _ | refine blk_drew ?_ | refine blk_alloc ?_ _)); refine blk_put (cs := #[.slice Ao38 t615.length co38, .slice none 0 0]) ?_ 1 _ rfl; (with_reducible repeat (first | refine blk_drewN ?_ _ | refine blk_drew ?_ | refine blk_alloc ?_ _)); refine blk_put (cs := #[.slice none 0 0, .slice none 0 0]) ?_ 0 _ rfl; exact kb_ BK622.out) hb); replace HB := Aside0.mk (below_step bl_ hb); clear hb))
  go_meet
  case rel => exact ⟨_, ((t621 != t606)), (by first | rfl | (simp; done) | (simp [*]; done)), H', ⟨by first | omega | exact Nat.le_refl _⟩, ⟨kp_ HO602.out⟩, ⟨kp_ HO605.out⟩, ⟨kp_ HO610.out⟩, ⟨kp_ HO613.out⟩, ⟨kp_ HO617.out⟩, ⟨kp_ HO620.out⟩, ⟨by exact kb_ BK592.out⟩, ⟨by exact kb_ BK607.out⟩, ⟨by exact kb_ BK614.out⟩, ⟨by exact kb_ BK622.out⟩, ⟨bl_⟩⟩
 clear HC14
 try clear c1
 try clear c2
 try clear p2
 try clear c3
 try clear c3b0
 try clear c3b1
 try clear c4
 try clear c5
 try clear c6
 try clear c6b0
 try clear c8
 try clear c10
 try clear c12
 try clear c13
 try clear c14
 try clear c25
 try clear c32
 try clear c33
 try clear c39
 try clear c40
 try clear c41
 try clear c45
 try clear c46
 try clear c47
 try clear c48
 try clear c50
 try clear c51
 try clear hcz16_0
 try clear hcz16_1
 try clear hcz18_0
 try clear hcz18_1
 try clear hcz26_0
 try clear hcz26_1
 try clear hcz28_0
 try clear hcz28_1
 try clear hcz34_0
 try clear hcz34_1
 try clear hcz42_0
 try clear hcz42_1
 try clear hcz49_0
 try clear hcz49_1
 try clear hcz52_0
 try clear hcz52_1
 try clear hcz8_0
 try clear hcz8_1
 try clear hfz16_0
 try clear hfz16_1
 try clear hfz18_0
 try clear hfz18_1
 try clear hfz26_0
 try clear hfz26_1
 try clear hfz28_0
 try clear hfz28_1
 try clear hfz34_0
 try clear hfz34_1
 try clear hfz42_0
 try clear hfz42_1
 try clear hfz49_0
 try clear hfz49_1
 try clear hfz52_0
 try clear hfz52_1
 try clear hfz8_0
 try clear hfz8_1
 obtain ⟨kq, x47_13, rfl, HA, HJ13, HO_608000, HO_608001, HO_615000, HO_615001, HO_623000, HO_623001, BK592, BK607, BK614, BK622, HB⟩ := hcut
 cases kq with
 | zero => exact absurd HA.out (by simp [laws_FnExactRemoveFrom.j0])
 | succ kj13 => ?_
 have H := HA.out
 clear HA
 simp only [laws_FnExactRemoveFrom.j0] at H
 by_cases c54 : x47_13 = true
 ·subst c54
  have H1 : (none) = some r := by rw [if_pos rfl] at H; exact H
  clear H
  have H := H1
  clear H1
  exact absurd H (by simp)
 replace c54 := Bool.eq_false_iff.mpr c54
 subst c54
 have H1 : ((laws_toBag.f kj13 l0_0 l0_1).bind fun bt624 => ((laws_eqBag.f kj13 t608 t611 bt624.1 bt624.2).bind fun t630 => (if t630 = true then ((laws_markBag.f kj13 t608 t611 1).bind fun bt631 => (if bt631.1 < 0 then (none) else ((laws_eqBag.f kj13 t615 t618 t600 t603).bind fun t634 => (if t634 = true then (laws_FnExactRemoveFrom.j1 kj13 a1 t606 (t621 != t606) l0_0 l0_1 t600 t603 t615 t618) else (none))))) else (none)))) = some r := by rw [if_neg (show ¬ (false = true) by decide)] at H; exact H
 clear H
 have H := H1
 clear H1
 replace H := Option.bind_eq_some_iff.mp H
 obtain ⟨⟨t624, t627⟩, A550, H⟩ := H
 replace H : ((laws_eqBag.f kj13 t608 t611 t624 t627).bind fun t630 => (if t630 = true then ((laws_markBag.f kj13 t608 t611 1).bind fun bt631 => (if bt631.1 < 0 then (none) else ((laws_eqBag.f kj13 t615 t618 t600 t603).bind fun t634 => (if t634 = true then (laws_FnExactRemoveFrom.j1 kj13 a1 t606 (t621 != t606) l0_0 l0_1 t600 t603 t615 t618) else (none))))) else (none))) = some r := H
 have A55 := Aside0.mk A550
 clear A550
 replace H := Option.bind_eq_some_iff.mp H
 obtain ⟨t630, A560, H⟩ := H
 replace H : (if t630 = true then ((laws_markBag.f kj13 t608 t611 1).bind fun bt631 => (if bt631.1 < 0 then (none) else ((laws_eqBag.f kj13 t615 t618 t600 t603).bind fun t634 => (if t634 = true then (laws_FnExactRemoveFrom.j1 kj13 a1 t606 (t621 != t606) l0_0 l0_1 t600 t603 t615 t618) else (none))))) else (none)) = some r := H
 have A56 := Aside0.mk A560
 clear A560
 by_cases c57 : t630 = true
 rotate_left
 ·replace c57 := Bool.eq_false_iff.mpr c57
  subst c57
  have H1 : (none) = some r := by rw [if_neg (show ¬ (false = true) by decide)] at H; exact H
  clear H
  have H := H1
  clear H1
  exact absurd H (by simp)
 subst c57
 have H1 : ((laws_markBag.f kj13 t608 t611 1).bind fun bt631 => (if bt631.1 < 0 then (none) else ((laws_eqBag.f kj13 t615 t618 t600 t603).bind fun t634 => (if t634 = true then (laws_FnExactRemoveFrom.j1 kj13 a1 t606 (t621 != t606) l0_0 l0_1 t600 t603 t615 t618) else (none))))) = some r := by rw [if_pos rfl] at H; exact H
 clear H
 have H := H1
 clear H1
 replace H := Option.bind_eq_some_iff.mp H
 obtain ⟨⟨t631, t632, t633⟩, A580, H⟩ := H
 replace H : (if t631 < 0 then (none) else ((laws_eqBag.f kj13 t615 t618 t600 t603).bind fun t634 => (if t634 = true then (laws_FnExactRemoveFrom.j1 kj13 a1 t606 (t621 != t606) l0_0 l0_1 t600 t603 t615 t618) else (none)))) = some r := H
 have A58 := Aside0.mk A580
 clear A580
 have HC59 := Aside0.mk H
 clear H
 try go_wp2
 replace HO_608000 := Aside0.mk (Kd.R_drew HO_608000.out)
 replace HO_608001 := Aside0.mk (Kd.R_drew HO_608001.out)
 replace HO_615000 := Aside0.mk (Kd.R_drew HO_615000.out)
 replace HO_615001 := Aside0.mk (Kd.R_drew HO_615001.out)
 replace HO_623000 := Aside0.mk (Kd.R_drew HO_623000.out)
 replace HO_623001 := Aside0.mk (Kd.R_drew HO_623001.out)
 replace BK592 := Aside0.mk (blk_drew BK592.out)
 replace BK607 := Aside0.mk (blk_drew BK607.out)
 replace BK614 := Aside0.mk (blk_drew BK614.out)
 replace BK622 := Aside0.mk (blk_drew BK622.out)
 replace HB := Aside0.mk (below_drew1 HB.out)
 refine start_ (n := 5) (S := fun w' => w'.cell? ⟨gb614, 0, none⟩ = some (.slice Ao31 t608.length co31) ∧ w'.cell? ⟨gb614, 1, none⟩ = some (.slice Ao35 t611.length co35) ∧ w'.cell? ⟨gb592, 0, none⟩ = some (.slice A0_0 l0_0.length c0_0) ∧ w'.cell? ⟨gb592, 1, none⟩ = some (.slice A0_1 l0_1.length c0_1)) (ds := []) #[false, false, false, false, false] (by kernel_rfl) rfl rfl ⟨bc_ BK614.out 0, bc_ BK614.out 1, bc_ BK592.out 0, bc_ BK592.out 1⟩ (fun hHeld => ?_)
 generalize wc.drew = w60 at HO_608000 HO_608001 HO_615000 HO_615001 HO_623000 HO_623001 BK592 BK607 BK614 BK622 HB hHeld ⊢
 refine tk4_ 0 (some 48) (h := ?_)
 refine tk4_ 1 (some 49) (h := ?_)
 refine on_ 2 (some 50) (h := fun K hK => ?_)
 refine goes_ Try.func10 (by kernel_rfl) rfl #[.agg #[.slice A0_0 l0_0.length c0_0, .slice A0_1 l0_1.length c0_1]] (by rfl) rfl rfl nc_ ?_
 with_reducible refine (laws_toBag.calls kj13 _ _ l0_0 _ _ l0_1 t624 t627 _ ?side1 ?side2 ?side3 ?side4 A55.out).mono ?_
 (case side1 => exact kc_ (Kd.C_below HR0_0.out HB.out))
 (case side2 => exact HC0_0.out)
 (case side3 => exact kc_ (Kd.C_below HR0_1.out HB.out))
 (case side4 => exact HC0_1.out)
 rintro e w61 ⟨v625, v628, rfl, ho0, ho1, hb⟩
 refine ⟨_, rfl, ?_⟩
 have HO626 := Aside0.mk (Kd.R_lower (rn_ (rn_ (rn_ (rn_ (rn_ (rn_ ho0 HO_608000.out) HO_608001.out) HO_615000.out) HO_615001.out) HO_623000.out) HO_623001.out) bz_)
 have HO629 := Aside0.mk (Kd.R_lower (rn_ (rn_ (rn_ (rn_ (rn_ (rn_ ho1 HO_608000.out) HO_608001.out) HO_615000.out) HO_615001.out) HO_623000.out) HO_623001.out) bz_)
 replace HO_608000 := rp2_ HO_608000 hb ho0 ho1
 replace HO_608001 := rp2_ HO_608001 hb ho0 ho1
 replace HO_615000 := rp2_ HO_615000 hb ho0 ho1
 replace HO_615001 := rp2_ HO_615001 hb ho0 ho1
 replace HO_623000 := rp2_ HO_623000 hb ho0 ho1
 replace HO_623001 := rp2_ HO_623001 hb ho0 ho1
 replace BK592 := bb_ BK592 hb
 replace BK607 := bb_ BK607 hb
 replace BK614 := bb_ BK614 hb
 replace BK622 := bb_ BK622 hb
 replace HB := Aside0.mk (below_step bl_ hb)
 clear hb ho0 ho1
 obtain ⟨Ao62, co62, eo62⟩ := Kd.R_slice HO626.out
 (first | subst eo62 | (injection eo62 with f1_ f2_ f3_; have f4_ := f1_.symm; have f5_ := f3_.symm; clear f1_ f2_ f3_; subst f4_; subst f5_))
 obtain ⟨Ao63, co63, eo63⟩ := Kd.R_slice HO629.out
 (first | subst eo63 | (injection eo63 with f1_ f2_ f3_; have f4_ := f1_.symm; have f5_ := f3_.symm; clear f1_ f2_ f3_; subst f4_; subst f5_))
 refine hK.out _ _ ⟨bc_ BK614.out 0, bc_ BK614.out 1, bc_ BK592.out 0, bc_ BK592.out 1⟩ (fun hHeld => ?_)
 clear hK K
 refine norm_ nn_ ?_
 refine on_ 3 (some 51) (h := fun K hK => ?_)
 refine goes_ Try.func12 (by kernel_rfl) rfl #[.agg #[.slice Ao31 t608.length co31, .slice Ao35 t611.length co35], .agg #[.slice Ao62 t624.length co62, .slice Ao63 t627.length co63]] (by rfl) rfl rfl nc_ ?_
 with_reducible refine (laws_eqBag.calls kj13 _ _ t608 _ _ t611 _ _ t624 _ _ t627 true _ ?side1 ?side2 ?side3 ?side4 ?side5 ?side6 ?side7 ?side8 A56.out).mono ?_
 (case side1 => exact kc_ (Kd.R_reads' HO_615000.out).2.2)
 (case side2 => exact (Kd.R_reads' HO_615000.out).2.1)
 (case side3 => exact kc_ (Kd.R_reads' HO_615001.out).2.2)
 (case side4 => exact (Kd.R_reads' HO_615001.out).2.1)
 (case side5 => exact kc_ (Kd.R_reads' HO626.out).2.2)
 (case side6 => exact (Kd.R_reads' HO626.out).2.1)
 (case side7 => exact kc_ (Kd.R_reads' HO629.out).2.2)
 (case side8 => exact (Kd.R_reads' HO629.out).2.1)
 rintro e w64 ⟨rfl, hb⟩
 refine ⟨_, rfl, ?_⟩
 replace HO_608000 := rb_ HO_608000 hb
 replace HO_608001 := rb_ HO_608001 hb
 replace HO_615000 := rb_ HO_615000 hb
 replace HO_615001 := rb_ HO_615001 hb
 replace HO_623000 := rb_ HO_623000 hb
 replace HO_623001 := rb_ HO_623001 hb
 replace HO626 := rb_ HO626 hb
 replace HO629 := rb_ HO629 hb
 replace BK592 := bb_ BK592 hb
 replace BK607 := bb_ BK607 hb
 replace BK614 := bb_ BK614 hb
 replace BK622 := bb_ BK622 hb
 replace HB := Aside0.mk (below_step bl_ hb)
 clear hb
 refine hK.out _ _ ⟨bc_ BK614.out 0, bc_ BK614.out 1, bc_ BK592.out 0, bc_ BK592.out 1⟩ (fun hHeld => ?_)
 clear hK K
 refine norm_ nn_ ?_
 refine pu_ 4 (some 52) (h := ?_)
 refine done_ (by kernel_rfl) ?_
 have hnb65 := NB614_592.out
 have hnc65 := NB592_614.out
 have hnb66 := NB614_607.out
 have hnc66 := NB607_614.out
 have hnb67 := NB614_622.out
 have hnc67 := NB622_614.out
 have hcz68_0 : w64.cell? ⟨gb614, 0, none⟩ = some (.slice Ao31 t608.length co31) := bc_ BK614.out 0
 have hcz68_1 : w64.cell? ⟨gb614, 1, none⟩ = some (.slice Ao35 t611.length co35) := bc_ BK614.out 1
 have hfz68_0 := blk_frozen BK614.out 0
 have hfz68_1 := blk_frozen BK614.out 1
 go_upto_region 16 with (first | ((with_reducible refine gate_callee (f := 15) rfl ?_); refine goesL_ (some 55) rfl rfl Try.func15 (by kernel_rfl) rfl #[.agg #[.slice Ao31 t608.length co31, .slice Ao35 t611.length co35], .int .i64 1] rfl nc_ ?_; (with_reducible refine (laws_markBag.calls kj13 (fun k_ => some k_ = (.slice Ao31 t608.length co31 : Value).ownBlock) (.slice Ao31 t608.length co31) t608 (fun k_ => some k_ = (.slice Ao35 t611.length co35 : Value).ownBlock) (.slice Ao35 t611.length co35) t611 1 t631 t632 t633 w _ ?side1 ?side2 ?side3 ?side4 ?side5 A58.out).mono ?_); (case side1 => repeat (first | (with_reducible first | exact HB.out | apply below_alloc | apply pw_below_drewN | apply below_drew1 | refine below_set ?_ GE592.out | refine below_set ?_ GE607.out | refine below_set ?_ GE614.out | refine below_set ?_ GE622.out) | exact HB.out)); (case side2 => exact Kd.R_tight rfl HO_615000.out); (case side3 => exact fun k_ e_ => (HO_615000.out.1 k_ e_.symm).1.1.2.2.1); (case side4 => exact Kd.R_tight rfl HO_615001.out); (case side5 => exact fun k_ e_ => (HO_615001.out.1 k_ e_.symm).1.1.2.2.1); rintro e w69 ⟨rfl, hy0, hy1, hb, hkp⟩; refine ⟨_, rfl, ?_⟩; replace HO_608000 := Aside0.mk (Kd.R_mono (ok' := fun k_ => some k_ ≠ (.slice Ao27 t603.length co27 : Value).ownBlock ∧ some k_ ≠ (.slice Ao31 t608.length co31 : Value).ownBlock ∧ some k_ ≠ (.slice Ao35 t611.length co35 : Value).ownBlock ∧ some k_ ≠ (.slice Ao38 t615.length co38 : Value).ownBlock ∧ some k_ ≠ (.slice Ao43 t618.length co43 : Value).ownBlock ∧ some k_ ≠ (.slice Ao62 t624.length co62 : Value).ownBlock ∧ some k_ ≠ (.slice Ao63 t627.length co63 : Value).ownBlock) (Kd.R_keptB (HO_608000.out) hkp (fun k_ hk_ hs_ => Or.elim hs_ (fun e_ => (hk_.1.1.2.1) e_) (fun e_ => (hk_.1.1.2.2.1) e_))) (fun k_ hk_ => ⟨hk_.1.1.1.1, hk_.1.1.1.2.1, hk_.1.1.1.2.2.1, hk_.1.1.1.2.2.2.1, hk_.1.1.1.2.2.2.2, hk_.1.1.2, hk_.1.2⟩)); replace HO_608001 := Aside0.mk (Kd.R_mono (ok' := fun k_ => some k_ ≠ (.slice Ao24 t600.length co24 : Value).ownBlock ∧ some k_ ≠ (.slice Ao31 t608.length co31 : Value).ownBlock ∧ some k_ ≠ (.slice Ao35 t611.length co35 : Value).ownBlock ∧ some k_ ≠ (.slice Ao38 t615.length co38 : Value).ownBlock ∧ some k_ ≠ (.slice Ao43 t618.length co43 : Value).ownBlock ∧ some k_ ≠ (.slice Ao62 t624.length co62 : Value).ownBlock ∧ some k_ ≠ (.slice Ao63 t627.length co63 : Value).ownBlock) (Kd.R_keptB (HO_608001.out) hkp (fun k_ hk_ hs_ => Or.elim hs_ (fun e_ => (hk_.1.1.2.1) e_) (fun e_ => (hk_.1.1.2.2.1) e_))) (fun k_ hk_ => ⟨hk_.1.1.1.1, hk_.1.1.1.2.1, hk_.1.1.1.2.2.1, hk_.1.1.1.2.2.2.1, hk_.1.1.1.2.2.2.2, hk_.1.1.2, hk_.1.2⟩)); replace HO_623000 := Aside0.mk (Kd.R_mono (ok' := fun k_ => some k_ ≠ (.slice Ao24 t600.length co24 : Value).ownBlock ∧ some k_ ≠ (.slice Ao27 t603.length co27 : Value).ownBlock ∧ some k_ ≠ (.slice Ao31 t608.length co31 : Value).ownBlock ∧ some k_ ≠ (.slice Ao35 t611.length co35 : Value).ownBlock ∧ some k_ ≠ (.slice Ao43 t618.length co43 : Value).ownBlock ∧ some k_ ≠ (.slice Ao62 t624.length co62 : Value).ownBlock ∧ some k_ ≠ (.slice Ao63 t627.length co63 : Value).ownBlock) (Kd.R_keptB (HO_623000.out) hkp (fun k_ hk_ hs_ => Or.elim hs_ (fun e_ => (hk_.1.1.2.2.1) e_) (fun e_ => (hk_.1.1.2.2.2.1) e_))) (fun k_ hk_ => ⟨hk_.1.1.1.1, hk_.1.1.1.2.1, hk_.1.1.1.2.2.1, hk_.1.1.1.2.2.2.1, hk_.1.1.1.2.2.2.2, hk_.1.1.2, hk_.1.2⟩)); replace HO_623001 := Aside0.mk (Kd.R_mono (ok' := fun k_ => some k_ ≠ (.slice Ao24 t600.length co24 : Value).ownBlock ∧ some k_ ≠ (.slice Ao27 t603.length co27 : Value).ownBlock ∧ some k_ ≠ (.slice Ao31 t608.length co31 : Value).ownBlock ∧ some k_ ≠ (.slice Ao35 t611.length co35 : Value).ownBlock ∧ some k_ ≠ (.slice Ao38 t615.length co38 : Value).ownBlock ∧ some k_ ≠ (.slice Ao62 t624.length co62 : Value).ownBlock ∧ some k_ ≠ (.slice Ao63 t627.length co63 : Value).ownBlock) (Kd.R_keptB (HO_623001.out) hkp (fun k_ hk_ hs_ => Or.elim hs_ (fun e_ => (hk_.1.1.2.2.1) e_) (fun e_ => (hk_.1.1.2.2.2.1) e_))) (fun k_ hk_ => ⟨hk_.1.1.1.1, hk_.1.1.1.2.1, hk_.1.1.1.2.2.1, hk_.1.1.1.2.2.2.1, hk_.1.1.1.2.2.2.2, hk_.1.1.2, hk_.1.2⟩)); replace BK592 := Aside0.mk (blk_kept (kb_ BK592.out) hkp (fun hs_ => Or.elim hs_ (fun e_ => (fun e_ => (Kd.R_ne HO_615000.out BK592.out (by decide)) e_) e_) (fun e_ => (fun e_ => (Kd.R_ne HO_615001.out BK592.out (by decide)) e_) e_))); replace BK607 := Aside0.mk (blk_kept (kb_ BK607.out) hkp (fun hs_ => Or.elim hs_ (fun e_ => (fun e_ => (Kd.R_ne HO_615000.out BK607.out (by decide)) e_) e_) (fun e_ => (fun e_ => (Kd.R_ne HO_615001.out BK607.out (by decide)) e_) e_))); replace BK614 := Aside0.mk (blk_kept (kb_ BK614.out) hkp (fun hs_ => Or.elim hs_ (fun e_ => (fun e_ => (Kd.R_ne HO_615000.out BK614.out (by decide)) e_) e_) (fun e_ => (fun e_ => (Kd.R_ne HO_615001.out BK614.out (by decide)) e_) e_))); replace BK622 := Aside0.mk (blk_kept (kb_ BK622.out) hkp (fun hs_ => Or.elim hs_ (fun e_ => (fun e_ => (Kd.R_ne HO_615000.out BK622.out (by decide)) e_) e_) (fun e_ => (fun e_ => (Kd.R_ne HO_615001.out BK622.out (by decide)) e_) e_))); replace HO_615000 := Aside0.mk (Kd.R_reok rfl hy0 (fun k_ e_ => HO_615000.out.1 k_ e_)); replace HO_615001 := Aside0.mk (Kd.R_reok rfl hy1 (fun k_ e_ => HO_615001.out.1 k_ e_)); replace HO626 := Aside0.mk (Kd.R_mono (ok' := fun k_ => some k_ ≠ (.slice Ao24 t600.length co24 : Value).ownBlock ∧ some k_ ≠ (.slice Ao27 t603.length co27 : Value).ownBlock ∧ some k_ ≠ (.slice Ao31 t608.length co31 : Value).ownBlock ∧ some k_ ≠ (.slice Ao35 t611.length co35 : Value).ownBlock ∧ some k_ ≠ (.slice Ao38 t615.length co38 : Value).ownBlock ∧ some k_ ≠ (.slice Ao43 t618.length co43 : Value).ownBlock ∧ some k_ ≠ (.slice Ao63 t627.length co63 : Value).ownBlock) (Kd.R_keptB (HO626.out) hkp (fun k_ hk_ hs_ => Or.elim hs_ (fun e_ => (hk_.1.1.1.2) e_) (fun e_ => (hk_.1.1.2) e_))) (fun k_ hk_ => ⟨hk_.1.1.1.1.1.1.2, hk_.1.1.1.1.1.2, hk_.1.1.1.1.2, hk_.1.1.1.2, hk_.1.1.2, hk_.1.2, hk_.1.1.1.1.1.1.1⟩)); replace HO629 := Aside0.mk (Kd.R_mono (ok' := fun k_ => some k_ ≠ (.slice Ao24 t600.length co24 : Value).ownBlock ∧ some k_ ≠ (.slice Ao27 t603.length co27 : Value).ownBlock ∧ some k_ ≠ (.slice Ao31 t608.length co31 : Value).ownBlock ∧ some k_ ≠ (.slice Ao35 t611.length co35 : Value).ownBlock ∧ some k_ ≠ (.slice Ao38 t615.length co38 : Value).ownBlock ∧ some k_ ≠ (.slice Ao43 t618.length co43 : Value).ownBlock ∧ some k_ ≠ (.slice Ao62 t624.length co62 : Value).ownBlock) (Kd.R_keptB (HO629.out) hkp (fun k_ hk_ hs_ => Or.elim hs_ (fun e_ => (hk_.1.1.1.2) e_) (fun e_ => (hk_.1.1.2) e_))) (fun k_ hk_ => ⟨hk_.1.1.1.1.1.1.2, hk_.1.1.1.1.1.2, hk_.1.1.1.1.2, hk_.1.1.1.2, hk_.1.1.2, hk_.1.2, hk_.1.1.1.1.1.1.1⟩)); replace HB := Aside0.mk (hb); clear hb))
 (try simp only [Act.put, List.setIfInBounds_toArray, List.set_cons_zero, List.set_cons_succ])
 go_cut [68] (fun v68 wc => ∃ (kq : Nat) (x68_58 : Bool), v68 = .bool x68_58 ∧ Aside0 (laws_FnExactRemoveFrom.j1 kq a1 t606 x68_58 l0_0 l0_1 t600 t603 t615 t618 = some r) ∧ Aside0 (kq ≤ kj13) ∧ Aside0 (Kd.R k48 48 wc w.heap.size (fun k_ => some k_ ≠ ((.slice Ao27 t603.length co27) : Value).ownBlock ∧ some k_ ≠ ((.slice Ao31 t608.length co31) : Value).ownBlock ∧ some k_ ≠ ((.slice Ao35 t611.length co35) : Value).ownBlock ∧ some k_ ≠ ((.slice Ao38 t615.length co38) : Value).ownBlock ∧ some k_ ≠ ((.slice Ao43 t618.length co43) : Value).ownBlock) (.slice Ao24 t600.length co24) t600) ∧ Aside0 (Kd.R k48 48 wc w.heap.size (fun k_ => some k_ ≠ ((.slice Ao24 t600.length co24) : Value).ownBlock ∧ some k_ ≠ ((.slice Ao31 t608.length co31) : Value).ownBlock ∧ some k_ ≠ ((.slice Ao35 t611.length co35) : Value).ownBlock ∧ some k_ ≠ ((.slice Ao38 t615.length co38) : Value).ownBlock ∧ some k_ ≠ ((.slice Ao43 t618.length co43) : Value).ownBlock) (.slice Ao27 t603.length co27) t603) ∧ Aside0 (Kd.R k48 48 wc w.heap.size (fun k_ => some k_ ≠ ((.slice Ao24 t600.length co24) : Value).ownBlock ∧ some k_ ≠ ((.slice Ao27 t603.length co27) : Value).ownBlock ∧ some k_ ≠ ((.slice Ao35 t611.length co35) : Value).ownBlock ∧ some k_ ≠ ((.slice Ao38 t615.length co38) : Value).ownBlock ∧ some k_ ≠ ((.slice Ao43 t618.length co43) : Value).ownBlock) (.slice Ao31 t608.length co31) t632) ∧ Aside0 (Kd.R k48 48 wc w.heap.size (fun k_ => some k_ ≠ ((.slice Ao24 t600.length co24) : Value).ownBlock ∧ some k_ ≠ ((.slice Ao27 t603.length co27) : Value).ownBlock ∧ some k_ ≠ ((.slice Ao31 t608.length co31) : Value).ownBlock ∧ some k_ ≠ ((.slice Ao38 t615.length co38) : Value).ownBlock ∧ some k_ ≠ ((.slice Ao43 t618.length co43) : Value).ownBlock) (.slice Ao35 t611.length co35) t633) ∧ Aside0 (Kd.R k48 48 wc w.heap.size (fun k_ => some k_ ≠ ((.slice Ao24 t600.length co24) : Value).ownBlock ∧ some k_ ≠ ((.slice Ao27 t603.length co27) : Value).ownBlock ∧ some k_ ≠ ((.slice Ao31 t608.length co31) : Value).ownBlock ∧ some k_ ≠ ((.slice Ao35 t611.length co35) : Value).ownBlock ∧ some k_ ≠ ((.slice Ao43 t618.length co43) : Value).ownBlock) (.slice Ao38 t615.length co38) t615) ∧ Aside0 (Kd.R k48 48 wc w.heap.size (fun k_ => some k_ ≠ ((.slice Ao24 t600.length co24) : Value).ownBlock ∧ some k_ ≠ ((.slice Ao27 t603.length co27) : Value).ownBlock ∧ some k_ ≠ ((.slice Ao31 t608.length co31) : Value).ownBlock ∧ some k_ ≠ ((.slice Ao35 t611.length co35) : Value).ownBlock ∧ some k_ ≠ ((.slice Ao38 t615.length co38) : Value).ownBlock) (.slice Ao43 t618.length co43) t618) ∧ Aside0 (wc.heap[gb592]? = some (.cells #[(.slice A0_0 l0_0.length c0_0), (.slice A0_1 l0_1.length c0_1)] 24 (0, 0))) ∧ Aside0 (wc.heap[gb607]? = some (.cells #[(.slice Ao24 t600.length co24), (.slice Ao27 t603.length co27)] 29 (0, 0))) ∧ Aside0 (wc.heap[gb614]? = some (.cells #[(.slice Ao31 t608.length co31), (.slice Ao35 t611.length co35)] 29 (0, 0))) ∧ Aside0 (wc.heap[gb622]? = some (.cells #[(.slice Ao38 t615.length co38), (.slice Ao43 t618.length co43)] 29 (0, 0))) ∧ Aside0 (Below w.heap.size w wc))
 case first =>
  have H := HC59.out
  clear HC59
  by_cases c70 : t631 < 0
  ·rw [if_pos c70] at H
   exact absurd H (by simp)
  rw [if_neg c70] at H
  have c70b0 : decide (t631 < 0) = false := decide_eq_false c70
  clear c70
  (first | rw [c70b0] | (simp only [i64_w, i32_w]; rw [c70b0]) | skip)
  replace H := Option.bind_eq_some_iff.mp H
  obtain ⟨t634, A710, H⟩ := H
  replace H : (if t634 = true then (laws_FnExactRemoveFrom.j1 kj13 a1 t606 (t621 != t606) l0_0 l0_1 t600 t603 t615 t618) else (none)) = some r := H
  have A71 := Aside0.mk A710
  clear A710
  by_cases c72 : t634 = true
  rotate_left
  ·replace c72 := Bool.eq_false_iff.mpr c72
   subst c72
   have H1 : (none) = some r := by rw [if_neg (show ¬ (false = true) by decide)] at H; exact H
   clear H
   have H := H1
   clear H1
   exact absurd H (by simp)
  subst c72
  have H1 : (laws_FnExactRemoveFrom.j1 kj13 a1 t606 (t621 != t606) l0_0 l0_1 t600 t603 t615 t618) = some r := by rw [if_pos rfl] at H; exact H
  clear H
  have H := H1
  clear H1
  have H' := Aside0.mk H
  clear H
  have hnb73 := NB622_592.out
  have hnc73 := NB592_622.out
  have hnb74 := NB622_607.out
  have hnc74 := NB607_622.out
  have hnb75 := NB622_614.out
  have hnc75 := NB614_622.out
  have hcz76_0 : w69.cell? ⟨gb622, 0, none⟩ = some (.slice Ao38 t615.length co38) := bc_ BK622.out 0
  have hcz76_1 : w69.cell? ⟨gb622, 1, none⟩ = some (.slice Ao43 t618.length co43) := bc_ BK622.out 1
  have hfz76_0 := blk_frozen BK622.out 0
  have hfz76_1 := blk_frozen BK622.out 1
  have hnb77 := NB607_592.out
  have hnc77 := NB592_607.out
  have hnb78 := NB607_614.out
  have hnc78 := NB614_607.out
  have hcz79_0 : w69.cell? ⟨gb607, 0, none⟩ = some (.slice Ao24 t600.length co24) := bc_ BK607.out 0
  have hcz79_1 : w69.cell? ⟨gb607, 1, none⟩ = some (.slice Ao27 t603.length co27) := bc_ BK607.out 1
  have hfz79_0 := blk_frozen BK607.out 0
  have hfz79_1 := blk_frozen BK607.out 1
  go_wp2_with (first | (go_at_call 12; (with_reducible refine (laws_eqBag.calls kj13 _ _ t615 _ _ t618 _ _ t600 _ _ t603 true _ ?side1 ?side2 ?side3 ?side4 ?side5 ?side6 ?side7 ?side8 A71.out).mono ?_); (case side1 => exact kc_ (Kd.R_reads' HO_623000.out).2.2); (case side2 => exact (Kd.R_reads' HO_623000.out).2.1); (case side3 => exact kc_ (Kd.R_reads' HO_623001.out).2.2); (case side4 => exact (Kd.R_reads' HO_623001.out).2.1); (case side5 => exact kc_ (Kd.R_reads' HO_608000.out).2.2); (case side6 => exact (Kd.R_reads' HO_608000.out).2.1); (case side7 => exact kc_ (Kd.R_reads' HO_608001.out).2.2); (case side8 => exact (Kd.R_reads' HO_608001.out).2.1); rintro e w80 ⟨rfl, hb⟩; replace HO_608000 := rb_ HO_608000 hb; replace HO_608001 := rb_ HO_608001 hb; replace HO_615000 := rb_ HO_615000 hb; replace HO_615001 := rb_ HO_615001 hb; replace HO_623000 := rb_ HO_623000 hb; replace HO_623001 := rb_ HO_623001 hb; replace HO626 := rb_ HO626 hb; replace HO629 := rb_ HO629 hb; replace BK592 := bb_ BK592 hb; replace BK607 := bb_ BK607 hb; replace BK614 := bb_ BK614 hb; replace BK622 := bb_ BK622 hb; replace HB := Aside0.mk (below_step bl_ hb); clear hb))
  go_meet
  case rel => exact ⟨_, ((t621 != t606)), (by first | rfl | (simp; done) | (simp [*]; done)), H', ⟨by have := HJ13.out; first | omega | exact Nat.le_refl _⟩, ⟨kp_ HO_608000.out⟩, ⟨kp_ HO_608001.out⟩, ⟨kp_ HO_615000.out⟩, ⟨kp_ HO_615001.out⟩, ⟨kp_ HO_623000.out⟩, ⟨kp_ HO_623001.out⟩, ⟨by exact kb_ BK592.out⟩, ⟨by exact kb_ BK607.out⟩, ⟨by exact kb_ BK614.out⟩, ⟨by exact kb_ BK622.out⟩, ⟨bl_⟩⟩
 clear HC59
 try clear c1
 try clear c2
 try clear p2
 try clear c3
 try clear c3b0
 try clear c3b1
 try clear c4
 try clear c5
 try clear c6
 try clear c6b0
 try clear c7
 try clear c8
 try clear c10
 try clear c12
 try clear c13
 try clear c14
 try clear c15
 try clear c25
 try clear c32
 try clear c33
 try clear c39
 try clear c40
 try clear c41
 try clear c45
 try clear c46
 try clear c47
 try clear c48
 try clear c50
 try clear c51
 try clear c54
 try clear c57
 try clear c65
 try clear c66
 try clear c67
 try clear c70
 try clear c70b0
 try clear c72
 try clear c73
 try clear c74
 try clear c75
 try clear c77
 try clear c78
 try clear hcz16_0
 try clear hcz16_1
 try clear hcz18_0
 try clear hcz18_1
 try clear hcz26_0
 try clear hcz26_1
 try clear hcz28_0
 try clear hcz28_1
 try clear hcz34_0
 try clear hcz34_1
 try clear hcz42_0
 try clear hcz42_1
 try clear hcz49_0
 try clear hcz49_1
 try clear hcz52_0
 try clear hcz52_1
 try clear hcz68_0
 try clear hcz68_1
 try clear hcz76_0
 try clear hcz76_1
 try clear hcz79_0
 try clear hcz79_1
 try clear hcz8_0
 try clear hcz8_1
 try clear hfz16_0
 try clear hfz16_1
 try clear hfz18_0
 try clear hfz18_1
 try clear hfz26_0
 try clear hfz26_1
 try clear hfz28_0
 try clear hfz28_1
 try clear hfz34_0
 try clear hfz34_1
 try clear hfz42_0
 try clear hfz42_1
 try clear hfz49_0
 try clear hfz49_1
 try clear hfz52_0
 try clear hfz52_1
 try clear hfz68_0
 try clear hfz68_1
 try clear hfz76_0
 try clear hfz76_1
 try clear hfz79_0
 try clear hfz79_1
 try clear hfz8_0
 try clear hfz8_1
 try clear p2
 obtain ⟨kq, x68_58, rfl, HA, HJ58, HO_608000, HO_608001, HO_615000, HO_615001, HO_623000, HO_623001, BK592, BK607, BK614, BK622, HB⟩ := hcut
 have hl615000_58 := (Kd.R_reads' HO_615000.out).1
 rw [hl615000_58] at HO_615000
 (try simp only [hl615000_58])
 (try simp only [hl615000_58] at BK592)
 (try simp only [hl615000_58] at BK607)
 (try simp only [hl615000_58] at BK614)
 (try simp only [hl615000_58] at BK622)
 (try simp only [hl615000_58] at HO_608000)
 (try simp only [hl615000_58] at HO_608001)
 (try simp only [hl615000_58] at HO_615001)
 (try simp only [hl615000_58] at HO_623000)
 (try simp only [hl615000_58] at HO_623001)
 have hl615001_58 := (Kd.R_reads' HO_615001.out).1
 rw [hl615001_58] at HO_615001
 (try simp only [hl615001_58])
 (try simp only [hl615001_58] at BK592)
 (try simp only [hl615001_58] at BK607)
 (try simp only [hl615001_58] at BK614)
 (try simp only [hl615001_58] at BK622)
 (try simp only [hl615001_58] at HO_608000)
 (try simp only [hl615001_58] at HO_608001)
 (try simp only [hl615001_58] at HO_615000)
 (try simp only [hl615001_58] at HO_623000)
 (try simp only [hl615001_58] at HO_623001)
 cases kq with
 | zero => exact absurd HA.out (by simp [laws_FnExactRemoveFrom.j1])
 | succ kj58 => ?_
 have H := HA.out
 clear HA
 simp only [laws_FnExactRemoveFrom.j1] at H
 by_cases c81 : x68_58 = true
 ·subst c81
  have H1 : (none) = some r := by rw [if_pos rfl] at H; exact H
  clear H
  have H := H1
  clear H1
  exact absurd H (by simp)
 replace c81 := Bool.eq_false_iff.mpr c81
 subst c81
 have H1 : ((laws_markBag.f kj58 t615 t618 1).bind fun bt635 => ((laws_heldBag.f kj58 bt635.2.1 bt635.2.2 1).bind fun t638 => (if t638 < 0 then (none) else (if t638 = bt635.1 then ((laws_toBag.f kj58 l0_0 l0_1).bind fun bt639 => ((impl_RemoveFrom.f kj58 bt639.1 bt639.2 a1).bind fun bt645 => ((laws_eqBag.f kj58 bt645.1 bt645.2.1 t600 t603).bind fun t653 => (if t653 = true then (laws_FnExactRemoveFrom.j2 kj58 bt635.1 (bt645.2.2 != t606) bt635.2.1 bt635.2.2) else (none))))) else (none))))) = some r := by rw [if_neg (show ¬ (false = true) by decide)] at H; exact H
 clear H
 have H := H1
 clear H1
 replace H := Option.bind_eq_some_iff.mp H
 obtain ⟨⟨t635, t636, t637⟩, A820, H⟩ := H
 replace H : ((laws_heldBag.f kj58 t636 t637 1).bind fun t638 => (if t638 < 0 then (none) else (if t638 = t635 then ((laws_toBag.f kj58 l0_0 l0_1).bind fun bt639 => ((impl_RemoveFrom.f kj58 bt639.1 bt639.2 a1).bind fun bt645 => ((laws_eqBag.f kj58 bt645.1 bt645.2.1 t600 t603).bind fun t653 => (if t653 = true then (laws_FnExactRemoveFrom.j2 kj58 t635 (bt645.2.2 != t606) t636 t637) else (none))))) else (none)))) = some r := H
 have A82 := Aside0.mk A820
 clear A820
 replace H := Option.bind_eq_some_iff.mp H
 obtain ⟨t638, A830, H⟩ := H
 replace H : (if t638 < 0 then (none) else (if t638 = t635 then ((laws_toBag.f kj58 l0_0 l0_1).bind fun bt639 => ((impl_RemoveFrom.f kj58 bt639.1 bt639.2 a1).bind fun bt645 => ((laws_eqBag.f kj58 bt645.1 bt645.2.1 t600 t603).bind fun t653 => (if t653 = true then (laws_FnExactRemoveFrom.j2 kj58 t635 (bt645.2.2 != t606) t636 t637) else (none))))) else (none))) = some r := H
 have A83 := Aside0.mk A830
 clear A830
 by_cases c84 : t638 < 0
 ·rw [if_pos c84] at H
  exact absurd H (by simp)
 rw [if_neg c84] at H
 have c84b0 : decide (t638 < 0) = false := decide_eq_false c84
 clear c84
 by_cases c85 : t638 = t635
 rotate_left
 ·rw [if_neg c85] at H
  exact absurd H (by simp)
 rw [if_pos c85] at H
 have c85b0 : (t638 == t635) = true := beq_iff_eq.mpr c85
 have c85b1 : (t638 != t635) = false := bne_eq_false_iff_eq.mpr c85
 clear c85
 replace H := Option.bind_eq_some_iff.mp H
 obtain ⟨⟨t639, t642⟩, A860, H⟩ := H
 replace H : ((impl_RemoveFrom.f kj58 t639 t642 a1).bind fun bt645 => ((laws_eqBag.f kj58 bt645.1 bt645.2.1 t600 t603).bind fun t653 => (if t653 = true then (laws_FnExactRemoveFrom.j2 kj58 t635 (bt645.2.2 != t606) t636 t637) else (none)))) = some r := H
 have A86 := Aside0.mk A860
 clear A860
 replace H := Option.bind_eq_some_iff.mp H
 obtain ⟨⟨t645, t648, t651⟩, A870, H⟩ := H
 replace H : ((laws_eqBag.f kj58 t645 t648 t600 t603).bind fun t653 => (if t653 = true then (laws_FnExactRemoveFrom.j2 kj58 t635 (t651 != t606) t636 t637) else (none))) = some r := H
 have A87 := Aside0.mk A870
 clear A870
 have HC88 := Aside0.mk H
 clear H
 have hnb89 := NB622_592.out
 have hnc89 := NB592_622.out
 have hnb90 := NB622_607.out
 have hnc90 := NB607_622.out
 have hnb91 := NB622_614.out
 have hnc91 := NB614_622.out
 have hcz92_0 : wc.cell? ⟨gb622, 0, none⟩ = some (.slice Ao38 t615.length co38) := bc_ BK622.out 0
 have hcz92_1 : wc.cell? ⟨gb622, 1, none⟩ = some (.slice Ao43 t618.length co43) := bc_ BK622.out 1
 have hfz92_0 := blk_frozen BK622.out 0
 have hfz92_1 := blk_frozen BK622.out 1
 go_upto_region 27 with (first | ((with_reducible refine gate_callee (f := 15) rfl ?_); refine goesL_ (some 71) rfl rfl Try.func15 (by kernel_rfl) rfl #[.agg #[.slice Ao38 t615.length co38, .slice Ao43 t618.length co43], .int .i64 1] rfl nc_ ?_; (with_reducible refine (laws_markBag.calls kj58 (fun k_ => some k_ = (.slice Ao38 t615.length co38 : Value).ownBlock) (.slice Ao38 t615.length co38) t615 (fun k_ => some k_ = (.slice Ao43 t618.length co43 : Value).ownBlock) (.slice Ao43 t618.length co43) t618 1 t635 t636 t637 w _ ?side1 ?side2 ?side3 ?side4 ?side5 A82.out).mono ?_); (case side1 => repeat (first | (with_reducible first | exact HB.out | apply below_alloc | apply pw_below_drewN | apply below_drew1 | refine below_set ?_ GE592.out | refine below_set ?_ GE607.out | refine below_set ?_ GE614.out | refine below_set ?_ GE622.out) | exact HB.out)); (case side2 => exact Kd.R_tight rfl HO_623000.out); (case side3 => exact fun k_ e_ => (HO_623000.out.1 k_ e_.symm).2.2.2.2); (case side4 => exact Kd.R_tight rfl HO_623001.out); (case side5 => exact fun k_ e_ => (HO_623001.out.1 k_ e_.symm).2.2.2.2); rintro e w93 ⟨rfl, hy0, hy1, hb, hkp⟩; refine ⟨_, rfl, ?_⟩; replace HO_608000 := Aside0.mk (Kd.R_mono (ok' := fun k_ => some k_ ≠ (.slice Ao27 t603.length co27 : Value).ownBlock ∧ some k_ ≠ (.slice Ao31 t632.length co31 : Value).ownBlock ∧ some k_ ≠ (.slice Ao35 t633.length co35 : Value).ownBlock ∧ some k_ ≠ (.slice Ao38 t615.length co38 : Value).ownBlock ∧ some k_ ≠ (.slice Ao43 t618.length co43 : Value).ownBlock) (Kd.R_keptB (HO_608000.out) hkp (fun k_ hk_ hs_ => Or.elim hs_ (fun e_ => (hk_.2.2.2.1) e_) (fun e_ => (hk_.2.2.2.2) e_))) (fun k_ hk_ => ⟨hk_.1.1, hk_.1.2.1, hk_.1.2.2.1, hk_.1.2.2.2.1, hk_.1.2.2.2.2⟩)); replace HO_608001 := Aside0.mk (Kd.R_mono (ok' := fun k_ => some k_ ≠ (.slice Ao24 t600.length co24 : Value).ownBlock ∧ some k_ ≠ (.slice Ao31 t632.length co31 : Value).ownBlock ∧ some k_ ≠ (.slice Ao35 t633.length co35 : Value).ownBlock ∧ some k_ ≠ (.slice Ao38 t615.length co38 : Value).ownBlock ∧ some k_ ≠ (.slice Ao43 t618.length co43 : Value).ownBlock) (Kd.R_keptB (HO_608001.out) hkp (fun k_ hk_ hs_ => Or.elim hs_ (fun e_ => (hk_.2.2.2.1) e_) (fun e_ => (hk_.2.2.2.2) e_))) (fun k_ hk_ => ⟨hk_.1.1, hk_.1.2.1, hk_.1.2.2.1, hk_.1.2.2.2.1, hk_.1.2.2.2.2⟩)); replace HO_615000 := Aside0.mk (Kd.R_mono (ok' := fun k_ => some k_ ≠ (.slice Ao24 t600.length co24 : Value).ownBlock ∧ some k_ ≠ (.slice Ao27 t603.length co27 : Value).ownBlock ∧ some k_ ≠ (.slice Ao35 t633.length co35 : Value).ownBlock ∧ some k_ ≠ (.slice Ao38 t615.length co38 : Value).ownBlock ∧ some k_ ≠ (.slice Ao43 t618.length co43 : Value).ownBlock) (Kd.R_keptB (HO_615000.out) hkp (fun k_ hk_ hs_ => Or.elim hs_ (fun e_ => (hk_.2.2.2.1) e_) (fun e_ => (hk_.2.2.2.2) e_))) (fun k_ hk_ => ⟨hk_.1.1, hk_.1.2.1, hk_.1.2.2.1, hk_.1.2.2.2.1, hk_.1.2.2.2.2⟩)); replace HO_615001 := Aside0.mk (Kd.R_mono (ok' := fun k_ => some k_ ≠ (.slice Ao24 t600.length co24 : Value).ownBlock ∧ some k_ ≠ (.slice Ao27 t603.length co27 : Value).ownBlock ∧ some k_ ≠ (.slice Ao31 t632.length co31 : Value).ownBlock ∧ some k_ ≠ (.slice Ao38 t615.length co38 : Value).ownBlock ∧ some k_ ≠ (.slice Ao43 t618.length co43 : Value).ownBlock) (Kd.R_keptB (HO_615001.out) hkp (fun k_ hk_ hs_ => Or.elim hs_ (fun e_ => (hk_.2.2.2.1) e_) (fun e_ => (hk_.2.2.2.2) e_))) (fun k_ hk_ => ⟨hk_.1.1, hk_.1.2.1, hk_.1.2.2.1, hk_.1.2.2.2.1, hk_.1.2.2.2.2⟩)); replace BK592 := Aside0.mk (blk_kept (kb_ BK592.out) hkp (fun hs_ => Or.elim hs_ (fun e_ => (fun e_ => (Kd.R_ne HO_623000.out BK592.out (by decide)) e_) e_) (fun e_ => (fun e_ => (Kd.R_ne HO_623001.out BK592.out (by decide)) e_) e_))); replace BK607 := Aside0.mk (blk_kept (kb_ BK607.out) hkp (fun hs_ => Or.elim hs_ (fun e_ => (fun e_ => (Kd.R_ne HO_623000.out BK607.out (by decide)) e_) e_) (fun e_ => (fun e_ => (Kd.R_ne HO_623001.out BK607.out (by decide)) e_) e_))); replace BK614 := Aside0.mk (blk_kept (kb_ BK614.out) hkp (fun hs_ => Or.elim hs_ (fun e_ => (fun e_ => (Kd.R_ne HO_623000.out BK614.out (by decide)) e_) e_) (fun e_ => (fun e_ => (Kd.R_ne HO_623001.out BK614.out (by decide)) e_) e_))); replace BK622 := Aside0.mk (blk_kept (kb_ BK622.out) hkp (fun hs_ => Or.elim hs_ (fun e_ => (fun e_ => (Kd.R_ne HO_623000.out BK622.out (by decide)) e_) e_) (fun e_ => (fun e_ => (Kd.R_ne HO_623001.out BK622.out (by decide)) e_) e_))); replace HO_623000 := Aside0.mk (Kd.R_reok rfl hy0 (fun k_ e_ => HO_623000.out.1 k_ e_)); replace HO_623001 := Aside0.mk (Kd.R_reok rfl hy1 (fun k_ e_ => HO_623001.out.1 k_ e_)); replace HB := Aside0.mk (hb); clear hb; have hcz94_0 : w93.cell? ⟨gb622, 0, none⟩ = some (.slice Ao38 t615.length co38) := bc_ BK622.out 0; have hcz94_1 : w93.cell? ⟨gb622, 1, none⟩ = some (.slice Ao43 t618.length co43) := bc_ BK622.out 1; have hfz94_0 := blk_frozen BK622.out 0; have hfz94_1 := blk_frozen BK622.out 1) | ((with_reducible refine gate_callee (f := 16) rfl ?_); refine goesL_ (some 74) rfl rfl Try.func16 (by kernel_rfl) rfl #[.agg #[.slice Ao38 t636.length co38, .slice Ao43 t637.length co43], .int .i64 1] rfl (by (try simp only [List.map_toArray, List.map_cons, List.map_nil]); first | done | (rw [show t636.length = t615.length from (Kd.R_reads' HO_623000.out).1.symm, show t637.length = t618.length from (Kd.R_reads' HO_623001.out).1.symm] <;> rfl) | rfl | (simp only [List.length_drop, List.length_take]; rfl)) ?_; (with_reducible refine (laws_heldBag.calls kj58 _ _ t636 _ _ t637 1 t638 _ ?side1 ?side2 ?side3 ?side4 A83.out).mono ?_); (case side1 => exact kc_ (Kd.R_reads' HO_623000.out).2.2); (case side2 => rw [show t636.length = t615.length from (Kd.R_reads' HO_623000.out).1.symm]; exact (Kd.R_reads' HO_623000.out).2.1); (case side3 => exact kc_ (Kd.R_reads' HO_623001.out).2.2); (case side4 => rw [show t637.length = t618.length from (Kd.R_reads' HO_623001.out).1.symm]; exact (Kd.R_reads' HO_623001.out).2.1); rintro e w95 ⟨rfl, hb⟩; refine ⟨_, rfl, ?_⟩; replace HO_608000 := rb_ HO_608000 hb; replace HO_608001 := rb_ HO_608001 hb; replace HO_615000 := rb_ HO_615000 hb; replace HO_615001 := rb_ HO_615001 hb; replace HO_623000 := rb_ HO_623000 hb; replace HO_623001 := rb_ HO_623001 hb; replace BK592 := bb_ BK592 hb; replace BK607 := bb_ BK607 hb; replace BK614 := bb_ BK614 hb; replace BK622 := bb_ BK622 hb; replace HB := Aside0.mk (below_step bl_ hb); clear hb; have hnb96 := NB592_607.out; have hnc96 := NB607_592.out; have hnb97 := NB592_614.out; have hnc97 := NB614_592.out; have hcz98_0 : w95.cell? ⟨gb592, 0, none⟩ = some (.slice A0_0 l0_0.length c0_0) := bc_ BK592.out 0; have hcz98_1 : w95.cell? ⟨gb592, 1, none⟩ = some (.slice A0_1 l0_1.length c0_1) := bc_ BK592.out 1; have hfz98_0 := blk_frozen BK592.out 0; have hfz98_1 := blk_frozen BK592.out 1) | ((with_reducible refine gate_callee (f := 10) rfl ?_); refine goesL_ (some 82) rfl rfl Try.func10 (by kernel_rfl) rfl #[.agg #[.slice A0_0 l0_0.length c0_0, .slice A0_1 l0_1.length c0_1]] rfl nc_ ?_; (with_reducible refine (laws_toBag.calls kj58 _ _ l0_0 _ _ l0_1 t639 t642 _ ?side1 ?side2 ?side3 ?side4 A86.out).mono ?_); (case side1 => exact kc_ (Kd.C_below HR0_0.out HB.out)); (case side2 => exact HC0_0.out); (case side3 => exact kc_ (Kd.C_below HR0_1.out HB.out)); (case side4 => exact HC0_1.out); rintro e w99 ⟨v640, v643, rfl, ho0, ho1, hb⟩; refine ⟨_, rfl, ?_⟩; have HO641 := Aside0.mk (Kd.R_lower (rn_ (rn_ (rn_ (rn_ (rn_ (rn_ ho0 HO_608000.out) HO_608001.out) HO_615000.out) HO_615001.out) HO_623000.out) HO_623001.out) bz_); have HO644 := Aside0.mk (Kd.R_lower (rn_ (rn_ (rn_ (rn_ (rn_ (rn_ ho1 HO_608000.out) HO_608001.out) HO_615000.out) HO_615001.out) HO_623000.out) HO_623001.out) bz_); replace HO_608000 := rp2_ HO_608000 hb ho0 ho1; replace HO_608001 := rp2_ HO_608001 hb ho0 ho1; replace HO_615000 := rp2_ HO_615000 hb ho0 ho1; replace HO_615001 := rp2_ HO_615001 hb ho0 ho1; replace HO_623000 := rp2_ HO_623000 hb ho0 ho1; replace HO_623001 := rp2_ HO_623001 hb ho0 ho1; replace BK592 := bb_ BK592 hb; replace BK607 := bb_ BK607 hb; replace BK614 := bb_ BK614 hb; replace BK622 := bb_ BK622 hb; replace HB := Aside0.mk (below_step bl_ hb); clear hb ho0 ho1; obtain ⟨Ao100, co100, eo100⟩ := Kd.R_slice HO641.out; subst eo100; obtain ⟨Ao101, co101, eo101⟩ := Kd.R_slice HO644.out; subst eo101) | ((with_reducible refine gate_callee (f := 14) rfl ?_); refine goesL_ (some 84) rfl rfl Try.func14 (by kernel_rfl) rfl #[.agg #[.slice Ao100 t639.length co100, .slice Ao101 t642.length co101], .string a1] rfl nc_ ?_; (with_reducible refine (impl_RemoveFrom.calls kj58 _ _ t639 _ _ t642 a1 t645 t648 t651 _ ?side1 ?side2 ?side3 ?side4 A87.out).mono ?_); (case side1 => exact kc_ (Kd.R_reads' HO641.out).2.2); (case side2 => exact (Kd.R_reads' HO641.out).2.1); (case side3 => exact kc_ (Kd.R_reads' HO644.out).2.2); (case side4 => exact (Kd.R_reads' HO644.out).2.1); rintro e w102 ⟨v646, v649, rfl, ho0, ho1, hb⟩; refine ⟨_, rfl, ?_⟩; have HO647 := Aside0.mk (Kd.R_lower (rn_ (rn_ (rn_ (rn_ (rn_ (rn_ (rn_ (rn_ ho0 HO_608000.out) HO_608001.out) HO_615000.out) HO_615001.out) HO_623000.out) HO_623001.out) HO641.out) HO644.out) bz_); have HO650 := Aside0.mk (Kd.R_lower (rn_ (rn_ (rn_ (rn_ (rn_ (rn_ (rn_ (rn_ ho1 HO_608000.out) HO_608001.out) HO_615000.out) HO_615001.out) HO_623000.out) HO_623001.out) HO641.out) HO644.out) bz_); replace HO_608000 := rp2_ HO_608000 hb ho0 ho1; replace HO_608001 := rp2_ HO_608001 hb ho0 ho1; replace HO_615000 := rp2_ HO_615000 hb ho0 ho1; replace HO_615001 := rp2_ HO_615001 hb ho0 ho1; replace HO_623000 := rp2_ HO_623000 hb ho0 ho1; replace HO_623001 := rp2_ HO_623001 hb ho0 ho1; replace HO641 := rp2_ HO641 hb ho0 ho1; replace HO644 := rp2_ HO644 hb ho0 ho1; replace BK592 := bb_ BK592 hb; replace BK607 := bb_ BK607 hb; replace BK614 := bb_ BK614 hb; replace BK622 := bb_ BK622 hb; replace HB := Aside0.mk (below_step bl_ hb); clear hb ho0 ho1) | ((with_reducible refine gate_dst (N := 14) rfl ?_); refine box_event rfl (N := 14) rfl (cs := #[.slice none 0 0, .slice none 0 0]) (t := 29) gs_ ?_; intro gb652 hg w103 hbox hb; replace HO_608000 := rb_ HO_608000 hb; replace HO_608001 := rb_ HO_608001 hb; replace HO_615000 := rb_ HO_615000 hb; replace HO_615001 := rb_ HO_615001 hb; replace HO_623000 := rb_ HO_623000 hb; replace HO_623001 := rb_ HO_623001 hb; replace HO641 := rb_ HO641 hb; replace HO644 := rb_ HO644 hb; replace HO647 := rb_ HO647 hb; replace HO650 := rb_ HO650 hb; have BK652 := Aside0.mk (hbox); have GW652 := Aside0.mk ((by rw [hg]; exact bz_ : w.heap.size ≤ gb652)); have GE652 := GW652; replace HB := Aside0.mk (below_step bl_ hb); have NB592_652 := nl_ hg BK592; have NB652_592 := nm_ hg BK592; replace BK592 := bb_ BK592 hb; have NB607_652 := nl_ hg BK607; have NB652_607 := nm_ hg BK607; replace BK607 := bb_ BK607 hb; have NB614_652 := nl_ hg BK614; have NB652_614 := nm_ hg BK614; replace BK614 := bb_ BK614 hb; have NB622_652 := nl_ hg BK622; have NB652_622 := nm_ hg BK622; replace BK622 := bb_ BK622 hb; clear hb hbox hg; obtain ⟨Ao104, co104, eo104⟩ := Kd.R_slice HO647.out; subst eo104; have hnb105 := NB652_592.out; have hnc105 := NB592_652.out; have hnb106 := NB652_607.out; have hnc106 := NB607_652.out; have hnb107 := NB652_614.out; have hnc107 := NB614_652.out; have hnb108 := NB652_622.out; have hnc108 := NB622_652.out; have hcz109_0 : w103.cell? ⟨gb652, 0, none⟩ = some (.slice none 0 0) := bc_ BK652.out 0; have hcz109_1 : w103.cell? ⟨gb652, 1, none⟩ = some (.slice none 0 0) := bc_ BK652.out 1; have hfz109_0 := blk_frozen BK652.out 0; have hfz109_1 := blk_frozen BK652.out 1; obtain ⟨Ao110, co110, eo110⟩ := Kd.R_slice HO650.out; subst eo110))
 (try simp only [Act.put, List.setIfInBounds_toArray, List.set_cons_zero, List.set_cons_succ])
 go_cut [95] (fun v95 wc => ∃ (kq : Nat) (x95_87 : Bool), v95 = .bool x95_87 ∧ Aside0 (laws_FnExactRemoveFrom.j2 kq t635 x95_87 t636 t637 = some r) ∧ Aside0 (kq ≤ kj58) ∧ Aside0 (Kd.R k48 48 wc w.heap.size (fun k_ => some k_ ≠ ((.slice Ao27 t603.length co27) : Value).ownBlock ∧ some k_ ≠ ((.slice Ao31 t632.length co31) : Value).ownBlock ∧ some k_ ≠ ((.slice Ao35 t633.length co35) : Value).ownBlock ∧ some k_ ≠ ((.slice Ao38 t615.length co38) : Value).ownBlock ∧ some k_ ≠ ((.slice Ao43 t618.length co43) : Value).ownBlock ∧ some k_ ≠ ((.slice Ao104 t645.length co104) : Value).ownBlock ∧ some k_ ≠ ((.slice Ao110 t648.length co110) : Value).ownBlock) (.slice Ao24 t600.length co24) t600) ∧ Aside0 (Kd.R k48 48 wc w.heap.size (fun k_ => some k_ ≠ ((.slice Ao24 t600.length co24) : Value).ownBlock ∧ some k_ ≠ ((.slice Ao31 t632.length co31) : Value).ownBlock ∧ some k_ ≠ ((.slice Ao35 t633.length co35) : Value).ownBlock ∧ some k_ ≠ ((.slice Ao38 t615.length co38) : Value).ownBlock ∧ some k_ ≠ ((.slice Ao43 t618.length co43) : Value).ownBlock ∧ some k_ ≠ ((.slice Ao104 t645.length co104) : Value).ownBlock ∧ some k_ ≠ ((.slice Ao110 t648.length co110) : Value).ownBlock) (.slice Ao27 t603.length co27) t603) ∧ Aside0 (Kd.R k48 48 wc w.heap.size (fun k_ => some k_ ≠ ((.slice Ao24 t600.length co24) : Value).ownBlock ∧ some k_ ≠ ((.slice Ao27 t603.length co27) : Value).ownBlock ∧ some k_ ≠ ((.slice Ao35 t633.length co35) : Value).ownBlock ∧ some k_ ≠ ((.slice Ao38 t615.length co38) : Value).ownBlock ∧ some k_ ≠ ((.slice Ao43 t618.length co43) : Value).ownBlock ∧ some k_ ≠ ((.slice Ao104 t645.length co104) : Value).ownBlock ∧ some k_ ≠ ((.slice Ao110 t648.length co110) : Value).ownBlock) (.slice Ao31 t632.length co31) t632) ∧ Aside0 (Kd.R k48 48 wc w.heap.size (fun k_ => some k_ ≠ ((.slice Ao24 t600.length co24) : Value).ownBlock ∧ some k_ ≠ ((.slice Ao27 t603.length co27) : Value).ownBlock ∧ some k_ ≠ ((.slice Ao31 t632.length co31) : Value).ownBlock ∧ some k_ ≠ ((.slice Ao38 t615.length co38) : Value).ownBlock ∧ some k_ ≠ ((.slice Ao43 t618.length co43) : Value).ownBlock ∧ some k_ ≠ ((.slice Ao104 t645.length co104) : Value).ownBlock ∧ some k_ ≠ ((.slice Ao110 t648.length co110) : Value).ownBlock) (.slice Ao35 t633.length co35) t633) ∧ Aside0 (Kd.R k48 48 wc w.heap.size (fun k_ => some k_ ≠ ((.slice Ao24 t600.length co24) : Value).ownBlock ∧ some k_ ≠ ((.slice Ao27 t603.length co27) : Value).ownBlock ∧ some k_ ≠ ((.slice Ao31 t632.length co31) : Value).ownBlock ∧ some k_ ≠ ((.slice Ao35 t633.length co35) : Value).ownBlock ∧ some k_ ≠ ((.slice Ao43 t618.length co43) : Value).ownBlock ∧ some k_ ≠ ((.slice Ao104 t645.length co104) : Value).ownBlock ∧ some k_ ≠ ((.slice Ao110 t648.length co110) : Value).ownBlock) (.slice Ao38 t615.length co38) t636) ∧ Aside0 (Kd.R k48 48 wc w.heap.size (fun k_ => some k_ ≠ ((.slice Ao24 t600.length co24) : Value).ownBlock ∧ some k_ ≠ ((.slice Ao27 t603.length co27) : Value).ownBlock ∧ some k_ ≠ ((.slice Ao31 t632.length co31) : Value).ownBlock ∧ some k_ ≠ ((.slice Ao35 t633.length co35) : Value).ownBlock ∧ some k_ ≠ ((.slice Ao38 t615.length co38) : Value).ownBlock ∧ some k_ ≠ ((.slice Ao104 t645.length co104) : Value).ownBlock ∧ some k_ ≠ ((.slice Ao110 t648.length co110) : Value).ownBlock) (.slice Ao43 t618.length co43) t637) ∧ Aside0 (Kd.R k48 48 wc w.heap.size (fun k_ => some k_ ≠ ((.slice Ao24 t600.length co24) : Value).ownBlock ∧ some k_ ≠ ((.slice Ao27 t603.length co27) : Value).ownBlock ∧ some k_ ≠ ((.slice Ao31 t632.length co31) : Value).ownBlock ∧ some k_ ≠ ((.slice Ao35 t633.length co35) : Value).ownBlock ∧ some k_ ≠ ((.slice Ao38 t615.length co38) : Value).ownBlock ∧ some k_ ≠ ((.slice Ao43 t618.length co43) : Value).ownBlock ∧ some k_ ≠ ((.slice Ao110 t648.length co110) : Value).ownBlock) (.slice Ao104 t645.length co104) t645) ∧ Aside0 (Kd.R k48 48 wc w.heap.size (fun k_ => some k_ ≠ ((.slice Ao24 t600.length co24) : Value).ownBlock ∧ some k_ ≠ ((.slice Ao27 t603.length co27) : Value).ownBlock ∧ some k_ ≠ ((.slice Ao31 t632.length co31) : Value).ownBlock ∧ some k_ ≠ ((.slice Ao35 t633.length co35) : Value).ownBlock ∧ some k_ ≠ ((.slice Ao38 t615.length co38) : Value).ownBlock ∧ some k_ ≠ ((.slice Ao43 t618.length co43) : Value).ownBlock ∧ some k_ ≠ ((.slice Ao104 t645.length co104) : Value).ownBlock) (.slice Ao110 t648.length co110) t648) ∧ Aside0 (wc.heap[gb592]? = some (.cells #[(.slice A0_0 l0_0.length c0_0), (.slice A0_1 l0_1.length c0_1)] 24 (0, 0))) ∧ Aside0 (wc.heap[gb607]? = some (.cells #[(.slice Ao24 t600.length co24), (.slice Ao27 t603.length co27)] 29 (0, 0))) ∧ Aside0 (wc.heap[gb614]? = some (.cells #[(.slice Ao31 t632.length co31), (.slice Ao35 t633.length co35)] 29 (0, 0))) ∧ Aside0 (wc.heap[gb622]? = some (.cells #[(.slice Ao38 t615.length co38), (.slice Ao43 t618.length co43)] 29 (0, 0))) ∧ Aside0 (wc.heap[gb652]? = some (.cells #[(.slice Ao104 t645.length co104), (.slice Ao110 t648.length co110)] 29 (0, 0))) ∧ Aside0 (Below w.heap.size w wc))
 case first =>
  have H := HC88.out
  clear HC88
  replace H := Option.bind_eq_some_iff.mp H
  obtain ⟨t653, A1110, H⟩ := H
  replace H : (if t653 = true then (laws_FnExactRemoveFrom.j2 kj58 t635 (t651 != t606) t636 t637) else (none)) = some r := H
  have A111 := Aside0.mk A1110
  clear A1110
  by_cases c112 : t653 = true
  rotate_left
  ·replace c112 := Bool.eq_false_iff.mpr c112
   subst c112
   have H1 : (none) = some r := by rw [if_neg (show ¬ (false = true) by decide)] at H; exact H
   clear H
   have H := H1
   clear H1
   exact absurd H (by simp)
  subst c112
  have H1 : (laws_FnExactRemoveFrom.j2 kj58 t635 (t651 != t606) t636 t637) = some r := by rw [if_pos rfl] at H; exact H
  clear H
  have H := H1
  clear H1
  have H' := Aside0.mk H
  clear H
  have hnb113 := NB652_592.out
  have hnc113 := NB592_652.out
  have hnb114 := NB652_607.out
  have hnc114 := NB607_652.out
  have hnb115 := NB652_614.out
  have hnc115 := NB614_652.out
  have hnb116 := NB652_622.out
  have hnc116 := NB622_652.out
  have hcz117_0 : w103.cell? ⟨gb652, 0, none⟩ = some (.slice none 0 0) := bc_ BK652.out 0
  have hcz117_1 : w103.cell? ⟨gb652, 1, none⟩ = some (.slice none 0 0) := bc_ BK652.out 1
  have hfz117_0 := blk_frozen BK652.out 0
  have hfz117_1 := blk_frozen BK652.out 1
  have hnb118 := NB607_592.out
  have hnc118 := NB592_607.out
  have hnb119 := NB607_614.out
  have hnc119 := NB614_607.out
  have hnb120 := NB607_622.out
  have hnc120 := NB622_607.out
  have hcz121_0 : w103.cell? ⟨gb607, 0, none⟩ = some (.slice Ao24 t600.length co24) := bc_ BK607.out 0
  have hcz121_1 : w103.cell? ⟨gb607, 1, none⟩ = some (.slice Ao27 t603.length co27) := bc_ BK607.out 1
  have hfz121_0 := blk_frozen BK607.out 0
  have hfz121_1 := blk_frozen BK607.out 1
  go_wp2_with (first | ((with_reducible refine gate_callee (f := 12) rfl ?_); refine goesL_ (some 89) rfl rfl Try.func12 (by kernel_rfl) rfl #[.agg #[.slice Ao104 t645.length co104, .slice Ao110 t648.length co110], .agg #[.slice Ao24 t600.length co24, .slice Ao27 t603.length co27]] rfl nc_ ?_; (with_reducible refine (laws_eqBag.calls kj58 _ _ t645 _ _ t648 _ _ t600 _ _ t603 true _ ?side1 ?side2 ?side3 ?side4 ?side5 ?side6 ?side7 ?side8 A111.out).mono ?_); (case side1 => exact (Kd.R_reads' (kr_ (rs2_ HO647.out BK652.out (.slice Ao104 t645.length co104) (.slice Ao110 t648.length co110)))).2.2); (case side2 => exact (Kd.R_reads' HO647.out).2.1); (case side3 => exact (Kd.R_reads' (kr_ (rs2_ HO650.out BK652.out (.slice Ao104 t645.length co104) (.slice Ao110 t648.length co110)))).2.2); (case side4 => exact (Kd.R_reads' HO650.out).2.1); (case side5 => exact (Kd.R_reads' (kr_ (rs2_ HO_608000.out BK652.out (.slice Ao104 t645.length co104) (.slice Ao110 t648.length co110)))).2.2); (case side6 => exact (Kd.R_reads' HO_608000.out).2.1); (case side7 => exact (Kd.R_reads' (kr_ (rs2_ HO_608001.out BK652.out (.slice Ao104 t645.length co104) (.slice Ao110 t648.length co110)))).2.2); (case side8 => exact (Kd.R_reads' HO_608001.out).2.1); rintro e w122 ⟨rfl, hb⟩; refine ⟨_, rfl, ?_⟩; replace HO_608000 := Aside0.mk (Kd.R_below (kr_ (rs2_ HO_608000.out BK652.out (.slice Ao104 t645.length co104) (.slice Ao110 t648.length co110))) hb); replace HO_608001 := Aside0.mk (Kd.R_below (kr_ (rs2_ HO_608001.out BK652.out (.slice Ao104 t645.length co104) (.slice Ao110 t648.length co110))) hb); replace HO_615000 := Aside0.mk (Kd.R_below (kr_ (rs2_ HO_615000.out BK652.out (.slice Ao104 t645.length co104) (.slice Ao110 t648.length co110))) hb); replace HO_615001 := Aside0.mk (Kd.R_below (kr_ (rs2_ HO_615001.out BK652.out (.slice Ao104 t645.length co104) (.slice Ao110 t648.length co110))) hb); replace HO_623000 := Aside0.mk (Kd.R_below (kr_ (rs2_ HO_623000.out BK652.out (.slice Ao104 t645.length co104) (.slice Ao110 t648.length co110))) hb); replace HO_623001 := Aside0.mk (Kd.R_below (kr_ (rs2_ HO_623001.out BK652.out (.slice Ao104 t645.length co104) (.slice Ao110 t648.length co110))) hb); replace HO641 := Aside0.mk (Kd.R_below (kr_ (rs2_ HO641.out BK652.out (.slice Ao104 t645.length co104) (.slice Ao110 t648.length co110))) hb); replace HO644 := Aside0.mk (Kd.R_below (kr_ (rs2_ HO644.out BK652.out (.slice Ao104 t645.length co104) (.slice Ao110 t648.length co110))) hb); replace HO647 := Aside0.mk (Kd.R_below (kr_ (rs2_ HO647.out BK652.out (.slice Ao104 t645.length co104) (.slice Ao110 t648.length co110))) hb); replace HO650 := Aside0.mk (Kd.R_below (kr_ (rs2_ HO650.out BK652.out (.slice Ao104 t645.length co104) (.slice Ao110 t648.length co110))) hb); replace BK592 := Aside0.mk (blk_below (g := gb592) (o := .cells #[.slice A0_0 l0_0.length c0_0, .slice A0_1 l0_1.length c0_1] 24 (0, 0)) kz_ hb); replace BK607 := Aside0.mk (blk_below (g := gb607) (o := .cells #[.slice Ao24 t600.length co24, .slice Ao27 t603.length co27] 29 (0, 0)) kz_ hb); replace BK614 := Aside0.mk (blk_below (g := gb614) (o := .cells #[.slice Ao31 t632.length co31, .slice Ao35 t633.length co35] 29 (0, 0)) kz_ hb); replace BK622 := Aside0.mk (blk_below (g := gb622) (o := .cells #[.slice Ao38 t615.length co38, .slice Ao43 t618.length co43] 29 (0, 0)) kz_ hb); replace BK652 := Aside0.mk (blk_below (g := gb652) (o := .cells #[.slice Ao104 t645.length co104, .slice Ao110 t648.length co110] 29 (0, 0)) (by (with_reducible repeat (first | refine blk_drewN ?_ _ | refine blk_drew ?_ | refine blk_alloc ?_ _)); refine blk_put (cs := #[.slice Ao104 t645.length co104, .slice none 0 0]) ?_ 1 _ rfl; (with_reducible repeat (first | refine blk_drewN ?_ _ | refine blk_drew ?_ | refine blk_alloc ?_ _)); refine blk_put (cs := #[.slice none 0 0, .slice none 0 0]) ?_ 0 _ rfl; exact kb_ BK652.out) hb); replace HB := Aside0.mk (below_step bl_ hb); clear hb))
  go_meet
  case rel => exact ⟨_, ((t651 != t606)), (by first | rfl | (simp; done) | (simp [*]; done)), H', ⟨by have := HJ13.out; have := HJ58.out; first | omega | exact Nat.le_refl _⟩, ⟨by (try simp only [hl615000_58]); (try simp only [hl615001_58]); exact kr_ (Kd.R_mono HO_608000.out (fun _ hk => ⟨hk.1.1.1.1.1, ⟨hk.1.1.1.1.2.1, ⟨hk.1.1.1.1.2.2.1, ⟨hk.1.1.1.1.2.2.2.1, ⟨hk.1.1.1.1.2.2.2.2, ⟨hk.1.2, hk.2⟩⟩⟩⟩⟩⟩))⟩, ⟨by (try simp only [hl615000_58]); (try simp only [hl615001_58]); exact kr_ (Kd.R_mono HO_608001.out (fun _ hk => ⟨hk.1.1.1.1.1, ⟨hk.1.1.1.1.2.1, ⟨hk.1.1.1.1.2.2.1, ⟨hk.1.1.1.1.2.2.2.1, ⟨hk.1.1.1.1.2.2.2.2, ⟨hk.1.2, hk.2⟩⟩⟩⟩⟩⟩))⟩, ⟨by (try simp only [hl615000_58]); (try simp only [hl615001_58]); exact kr_ (Kd.R_mono HO_615000.out (fun _ hk => ⟨hk.1.1.1.1.1, ⟨hk.1.1.1.1.2.1, ⟨hk.1.1.1.1.2.2.1, ⟨hk.1.1.1.1.2.2.2.1, ⟨hk.1.1.1.1.2.2.2.2, ⟨hk.1.2, hk.2⟩⟩⟩⟩⟩⟩))⟩, ⟨by (try simp only [hl615000_58]); (try simp only [hl615001_58]); exact kr_ (Kd.R_mono HO_615001.out (fun _ hk => ⟨hk.1.1.1.1.1, ⟨hk.1.1.1.1.2.1, ⟨hk.1.1.1.1.2.2.1, ⟨hk.1.1.1.1.2.2.2.1, ⟨hk.1.1.1.1.2.2.2.2, ⟨hk.1.2, hk.2⟩⟩⟩⟩⟩⟩))⟩, ⟨by (try simp only [hl615000_58]); (try simp only [hl615001_58]); exact kr_ (Kd.R_mono HO_623000.out (fun _ hk => ⟨hk.1.1.1.1.1, ⟨hk.1.1.1.1.2.1, ⟨hk.1.1.1.1.2.2.1, ⟨hk.1.1.1.1.2.2.2.1, ⟨hk.1.1.1.1.2.2.2.2, ⟨hk.1.2, hk.2⟩⟩⟩⟩⟩⟩))⟩, ⟨by (try simp only [hl615000_58]); (try simp only [hl615001_58]); exact kr_ (Kd.R_mono HO_623001.out (fun _ hk => ⟨hk.1.1.1.1.1, ⟨hk.1.1.1.1.2.1, ⟨hk.1.1.1.1.2.2.1, ⟨hk.1.1.1.1.2.2.2.1, ⟨hk.1.1.1.1.2.2.2.2, ⟨hk.1.2, hk.2⟩⟩⟩⟩⟩⟩))⟩, ⟨by (try simp only [hl615000_58]); (try simp only [hl615001_58]); exact kr_ (Kd.R_mono HO647.out (fun _ hk => ⟨hk.1.1.1.1.1.1.1.2, ⟨hk.1.1.1.1.1.1.2, ⟨hk.1.1.1.1.1.2, ⟨hk.1.1.1.1.2, ⟨hk.1.1.1.2, ⟨hk.1.1.2, hk.1.1.1.1.1.1.1.1⟩⟩⟩⟩⟩⟩))⟩, ⟨by (try simp only [hl615000_58]); (try simp only [hl615001_58]); exact kr_ (Kd.R_mono HO650.out (fun _ hk => ⟨hk.1.1.1.1.1.1.1.2, ⟨hk.1.1.1.1.1.1.2, ⟨hk.1.1.1.1.1.2, ⟨hk.1.1.1.1.2, ⟨hk.1.1.1.2, ⟨hk.1.1.2, hk.1.1.1.1.1.1.1.1⟩⟩⟩⟩⟩⟩))⟩, ⟨by (try simp only [hl615000_58]); (try simp only [hl615001_58]); exact kb_ BK592.out⟩, ⟨by (try simp only [hl615000_58]); (try simp only [hl615001_58]); exact kb_ BK607.out⟩, ⟨by (try simp only [hl615000_58]); (try simp only [hl615001_58]); exact kb_ BK614.out⟩, ⟨by (try simp only [hl615000_58]); (try simp only [hl615001_58]); exact kb_ BK622.out⟩, ⟨by (try simp only [hl615000_58]); (try simp only [hl615001_58]); exact kb_ BK652.out⟩, ⟨bl_⟩⟩
 clear HC88
 try clear c1
 try clear c2
 try clear p2
 try clear c3
 try clear c3b0
 try clear c3b1
 try clear c4
 try clear c5
 try clear c6
 try clear c6b0
 try clear c7
 try clear c8
 try clear c9
 try clear c10
 try clear c11
 try clear c12
 try clear c13
 try clear c14
 try clear c15
 try clear c16
 try clear c25
 try clear c32
 try clear c33
 try clear c39
 try clear c40
 try clear c41
 try clear c45
 try clear c46
 try clear c47
 try clear c48
 try clear c50
 try clear c51
 try clear c54
 try clear c57
 try clear c65
 try clear c66
 try clear c67
 try clear c70
 try clear c70b0
 try clear c72
 try clear c73
 try clear c74
 try clear c75
 try clear c77
 try clear c78
 try clear c81
 try clear c84
 try clear c84b0
 try clear c85
 try clear c85b0
 try clear c85b1
 try clear c89
 try clear c90
 try clear c91
 try clear c96
 try clear c97
 try clear c105
 try clear c106
 try clear c107
 try clear c108
 try clear c112
 try clear c113
 try clear c114
 try clear c115
 try clear c116
 try clear c118
 try clear c119
 try clear c120
 try clear hcz109_0
 try clear hcz109_1
 try clear hcz117_0
 try clear hcz117_1
 try clear hcz121_0
 try clear hcz121_1
 try clear hcz16_0
 try clear hcz16_1
 try clear hcz18_0
 try clear hcz18_1
 try clear hcz26_0
 try clear hcz26_1
 try clear hcz28_0
 try clear hcz28_1
 try clear hcz34_0
 try clear hcz34_1
 try clear hcz42_0
 try clear hcz42_1
 try clear hcz49_0
 try clear hcz49_1
 try clear hcz52_0
 try clear hcz52_1
 try clear hcz68_0
 try clear hcz68_1
 try clear hcz76_0
 try clear hcz76_1
 try clear hcz79_0
 try clear hcz79_1
 try clear hcz8_0
 try clear hcz8_1
 try clear hcz92_0
 try clear hcz92_1
 try clear hcz94_0
 try clear hcz94_1
 try clear hcz98_0
 try clear hcz98_1
 try clear hfz109_0
 try clear hfz109_1
 try clear hfz117_0
 try clear hfz117_1
 try clear hfz121_0
 try clear hfz121_1
 try clear hfz16_0
 try clear hfz16_1
 try clear hfz18_0
 try clear hfz18_1
 try clear hfz26_0
 try clear hfz26_1
 try clear hfz28_0
 try clear hfz28_1
 try clear hfz34_0
 try clear hfz34_1
 try clear hfz42_0
 try clear hfz42_1
 try clear hfz49_0
 try clear hfz49_1
 try clear hfz52_0
 try clear hfz52_1
 try clear hfz68_0
 try clear hfz68_1
 try clear hfz76_0
 try clear hfz76_1
 try clear hfz79_0
 try clear hfz79_1
 try clear hfz8_0
 try clear hfz8_1
 try clear hfz92_0
 try clear hfz92_1
 try clear hfz94_0
 try clear hfz94_1
 try clear hfz98_0
 try clear hfz98_1
 try clear p2
 obtain ⟨kq, x95_87, rfl, HA, HJ87, HO_608000, HO_608001, HO_615000, HO_615001, HO_623000, HO_623001, HO_653000, HO_653001, BK592, BK607, BK614, BK622, BK652, HB⟩ := hcut
 have hl623000_87 := (Kd.R_reads' HO_623000.out).1
 rw [hl623000_87] at HO_623000
 (try simp only [hl623000_87])
 (try simp only [hl623000_87] at BK592)
 (try simp only [hl623000_87] at BK607)
 (try simp only [hl623000_87] at BK614)
 (try simp only [hl623000_87] at BK622)
 (try simp only [hl623000_87] at BK652)
 (try simp only [hl623000_87] at HO_608000)
 (try simp only [hl623000_87] at HO_608001)
 (try simp only [hl623000_87] at HO_615000)
 (try simp only [hl623000_87] at HO_615001)
 (try simp only [hl623000_87] at HO_623001)
 (try simp only [hl623000_87] at HO_653000)
 (try simp only [hl623000_87] at HO_653001)
 have hl623001_87 := (Kd.R_reads' HO_623001.out).1
 rw [hl623001_87] at HO_623001
 (try simp only [hl623001_87])
 (try simp only [hl623001_87] at BK592)
 (try simp only [hl623001_87] at BK607)
 (try simp only [hl623001_87] at BK614)
 (try simp only [hl623001_87] at BK622)
 (try simp only [hl623001_87] at BK652)
 (try simp only [hl623001_87] at HO_608000)
 (try simp only [hl623001_87] at HO_608001)
 (try simp only [hl623001_87] at HO_615000)
 (try simp only [hl623001_87] at HO_615001)
 (try simp only [hl623001_87] at HO_623000)
 (try simp only [hl623001_87] at HO_653000)
 (try simp only [hl623001_87] at HO_653001)
 cases kq with
 | zero => exact absurd HA.out (by simp [laws_FnExactRemoveFrom.j2])
 | succ kj87 => ?_
 have H := HA.out
 clear HA
 simp only [laws_FnExactRemoveFrom.j2] at H
 by_cases c123 : x95_87 = true
 ·subst c123
  have H1 : (none) = some r := by rw [if_pos rfl] at H; exact H
  clear H
  have H := H1
  clear H1
  exact absurd H (by simp)
 replace c123 := Bool.eq_false_iff.mpr c123
 subst c123
 have H1 : ((laws_heldBag.f kj87 t636 t637 1).bind fun t654 => (if t654 < 0 then (none) else (if t654 = t635 then (some true) else (none)))) = some r := by rw [if_neg (show ¬ (false = true) by decide)] at H; exact H
 clear H
 have H := H1
 clear H1
 replace H := Option.bind_eq_some_iff.mp H
 obtain ⟨t654, A1240, H⟩ := H
 replace H : (if t654 < 0 then (none) else (if t654 = t635 then (some true) else (none))) = some r := H
 have A124 := Aside0.mk A1240
 clear A1240
 by_cases c125 : t654 < 0
 ·rw [if_pos c125] at H
  exact absurd H (by simp)
 rw [if_neg c125] at H
 have c125b0 : decide (t654 < 0) = false := decide_eq_false c125
 clear c125
 by_cases c126 : t654 = t635
 rotate_left
 ·rw [if_neg c126] at H
  exact absurd H (by simp)
 rw [if_pos c126] at H
 have c126b0 : (t654 == t635) = true := beq_iff_eq.mpr c126
 have c126b1 : (t654 != t635) = false := bne_eq_false_iff_eq.mpr c126
 clear c126
 obtain rfl := Option.some.inj H
 have hnb127 := NB622_592.out
 have hnc127 := NB592_622.out
 have hnb128 := NB622_607.out
 have hnc128 := NB607_622.out
 have hnb129 := NB622_614.out
 have hnc129 := NB614_622.out
 have hnb130 := NB622_652.out
 have hnc130 := NB652_622.out
 have hcz131_0 : wc.cell? ⟨gb622, 0, none⟩ = some (.slice Ao38 t636.length co38) := bc_ BK622.out 0
 have hcz131_1 : wc.cell? ⟨gb622, 1, none⟩ = some (.slice Ao43 t637.length co43) := bc_ BK622.out 1
 have hfz131_0 := blk_frozen BK622.out 0
 have hfz131_1 := blk_frozen BK622.out 1
 go_wp2_with (first | ((with_reducible refine gate_callee (f := 16) rfl ?_); refine goesL_ (some 98) rfl rfl Try.func16 (by kernel_rfl) rfl #[.agg #[.slice Ao38 t636.length co38, .slice Ao43 t637.length co43], .int .i64 1] rfl nc_ ?_; (with_reducible refine (laws_heldBag.calls kj87 _ _ t636 _ _ t637 1 t654 _ ?side1 ?side2 ?side3 ?side4 A124.out).mono ?_); (case side1 => exact kc_ (Kd.R_reads' HO_623000.out).2.2); (case side2 => exact (Kd.R_reads' HO_623000.out).2.1); (case side3 => exact kc_ (Kd.R_reads' HO_623001.out).2.2); (case side4 => exact (Kd.R_reads' HO_623001.out).2.1); rintro e w132 ⟨rfl, hb⟩; refine ⟨_, rfl, ?_⟩; replace HO_608000 := rb_ HO_608000 hb; replace HO_608001 := rb_ HO_608001 hb; replace HO_615000 := rb_ HO_615000 hb; replace HO_615001 := rb_ HO_615001 hb; replace HO_623000 := rb_ HO_623000 hb; replace HO_623001 := rb_ HO_623001 hb; replace HO_653000 := rb_ HO_653000 hb; replace HO_653001 := rb_ HO_653001 hb; replace BK592 := bb_ BK592 hb; replace BK607 := bb_ BK607 hb; replace BK614 := bb_ BK614 hb; replace BK622 := bb_ BK622 hb; replace BK652 := bb_ BK652 hb; replace HB := Aside0.mk (below_step bl_ hb); clear hb))
 go_ret
 exact ⟨ng_, bl_⟩

end Go.Proofs.Ytdnapgnnliibfaa.PRC
