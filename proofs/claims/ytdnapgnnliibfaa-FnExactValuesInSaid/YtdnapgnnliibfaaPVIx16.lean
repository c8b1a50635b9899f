/- What this text proves: the machine calls of these functions return what the plain functions say. Conditions: as each theorem says. Printed by a program of this session out of the translation. -/
import Derived.Test.YtdnapgnnliibfaaPVIx0
import Derived.Test.YtdnapgnnliibfaaPVIx1
import Derived.Test.YtdnapgnnliibfaaPVIx2
import Derived.Test.YtdnapgnnliibfaaPVIx4
import Derived.Test.YtdnapgnnliibfaaPVIx15
namespace Go.Proofs.Ytdnapgnnliibfaa.PVI
open Go.RowKit Go.Proofs.YtdnapgnnliibfaaW.PrintWords Go.Proofs.YtdnapgnnliibfaaW.PrintLast Go.Proofs.YtdnapgnnliibfaaW.PrintMore
attribute [local go_sem] max2_int min2_int max_two min_two max_three min_three max_four min_four   -- for this text's walks alone
set_option linter.unusedVariables false
set_option linter.unusedSimpArgs false

/-! ### laws_FnExactValuesIn: function 6 -/
mutual
def laws_FnExactValuesIn.j0 : Nat → List ByteArray → Bool → List ByteArray → Bool → Bool → List (S72) → List (S72) → List (S48) → List (S48) → Option (Bool)
 | 0, _, _, _, _, _, _, _, _, _ => none
 | k + 1, x4, x5, x7, x8, x40, x402000, x402001, x420000, x420001 => if x40 = true then (none) else ((laws_toBag.f k x402000 x402001).bind fun bt425 => ((laws_eqBag.f k x420000 x420001 bt425.1 bt425.2).bind fun t431 => (if t431 = true then ((laws_markBag.f k x420000 x420001 1).bind fun bt432 => (if bt432.1 < 0 then (none) else ((laws_eqStringS.f k x7 x4).bind fun t435 => (if t435 = true then (laws_FnExactValuesIn.j1 k x4 x5 x7 (x8 != x5) x402000 x402001) else (none))))) else (none))))
def laws_FnExactValuesIn.j1 : Nat → List ByteArray → Bool → List ByteArray → Bool → List (S72) → List (S72) → Option (Bool)
 | 0, _, _, _, _, _, _ => none
 | k + 1, x4, x5, x7, x61, x402000, x402001 => if x61 = true then (none) else ((laws_markStringS.f k x7 1).bind fun bt436 => ((laws_heldStringS.f k bt436.2 1).bind fun t438 => (if t438 < 0 then (none) else (if t438 = bt436.1 then ((laws_toBag.f k x402000 x402001).bind fun bt439 => ((impl_ValuesIn.f k bt439.1 bt439.2).bind fun bt445 => ((laws_eqStringS.f k bt445.1 x4).bind fun t449 => (if t449 = true then (laws_FnExactValuesIn.j2 k bt436.2 bt436.1 (bt445.2 != x5)) else (none))))) else (none)))))
def laws_FnExactValuesIn.j2 : Nat → List ByteArray → Int → Bool → Option (Bool)
 | 0, _, _, _ => none
 | k + 1, x7, x10, x87 => if x87 = true then (none) else ((laws_heldStringS.f k x7 1).bind fun t450 => (if t450 < 0 then (none) else (if t450 = x10 then (some true) else (none))))
end
def laws_FnExactValuesIn.f (k : Nat) (l0_0 : List (S72)) (l0_1 : List (S72)) : Option (Bool) := (laws_szBag.f k l0_0 l0_1 1048576).bind fun t402 => (if t402 < 0 then (some true) else ((laws_toBag.f k l0_0 l0_1).bind fun bt403 => ((spec_ValuesIn.f k bt403.1 bt403.2).bind fun bt409 => ((laws_toBag.f k l0_0 l0_1).bind fun bt413 => ((impl_ValuesIn.f k bt413.1 bt413.2).bind fun bt420 => ((laws_eqStringS.f k bt420.1 bt409.1).bind fun t424 => (if t424 = true then (laws_FnExactValuesIn.j0 k bt409.1 bt409.2 bt420.1 bt420.2 (bt420.2 != bt409.2) l0_0 l0_1 bt413.1 bt413.2) else (none))))))))
theorem laws_FnExactValuesIn.mono_l : ∀ k, (∀ y0 y1 y2 y3 y4 y5 y6 y7 y8, LeO (laws_FnExactValuesIn.j0 k y0 y1 y2 y3 y4 y5 y6 y7 y8) (laws_FnExactValuesIn.j0 (k + 1) y0 y1 y2 y3 y4 y5 y6 y7 y8)) ∧ (∀ y0 y1 y2 y3 y4 y5, LeO (laws_FnExactValuesIn.j1 k y0 y1 y2 y3 y4 y5) (laws_FnExactValuesIn.j1 (k + 1) y0 y1 y2 y3 y4 y5)) ∧ (∀ y0 y1 y2, LeO (laws_FnExactValuesIn.j2 k y0 y1 y2) (laws_FnExactValuesIn.j2 (k + 1) y0 y1 y2))
 | 0 => ⟨fun _ _ _ _ _ _ _ _ _ r h => by simp [laws_FnExactValuesIn.j0] at h, fun _ _ _ _ _ _ r h => by simp [laws_FnExactValuesIn.j1] at h, fun _ _ _ r h => by simp [laws_FnExactValuesIn.j2] at h⟩
 | k + 1 => by
  obtain ⟨ih0, ih1, ih2⟩ := laws_FnExactValuesIn.mono_l k
  refine ⟨?_, ?_, ?_⟩
  ·intro y0 y1 y2 y3 y4 y5 y6 y7 y8
   unfold laws_FnExactValuesIn.j0
   repeat' first
   | (with_reducible exact ih0 _ _ _ _ _ _ _ _ _)
   | (with_reducible exact ih1 _ _ _ _ _ _)
   | (with_reducible exact ih2 _ _ _)
   | (with_reducible exact impl_ValuesIn.mono _ _ _)
   | (with_reducible exact laws_eqBag.mono _ _ _ _ _)
   | (with_reducible exact laws_eqStringS.mono _ _ _)
   | (with_reducible exact laws_heldStringS.mono _ _ _)
   | (with_reducible exact laws_markBag.mono _ _ _ _)
   | (with_reducible exact laws_markStringS.mono _ _ _)
   | (with_reducible exact laws_szBag.mono _ _ _ _)
   | (with_reducible exact laws_toBag.mono _ _ _)
   | (with_reducible exact spec_ValuesIn.mono _ _ _)
   | (with_reducible exact LeO.refl _)
   | (with_reducible exact LeO.none _)
   | (with_reducible refine LeO.ite ?_ ?_)
   | (with_reducible refine LeO.bind ?_ (fun _ => ?_))
   | exact ih0 _ _ _ _ _ _ _ _ _
   | exact ih1 _ _ _ _ _ _
   | exact ih2 _ _ _
   | exact impl_ValuesIn.mono _ _ _
   | exact laws_eqBag.mono _ _ _ _ _
   | exact laws_eqStringS.mono _ _ _
   | exact laws_heldStringS.mono _ _ _
   | exact laws_markBag.mono _ _ _ _
   | exact laws_markStringS.mono _ _ _
   | exact laws_szBag.mono _ _ _ _
   | exact laws_toBag.mono _ _ _
   | exact spec_ValuesIn.mono _ _ _
   | exact LeO.none _
   | refine LeO.ite ?_ ?_
   | refine LeO.bind ?_ (fun _ => ?_)
  ·intro y0 y1 y2 y3 y4 y5
   unfold laws_FnExactValuesIn.j1
   repeat' first
   | (with_reducible exact ih0 _ _ _ _ _ _ _ _ _)
   | (with_reducible exact ih1 _ _ _ _ _ _)
   | (with_reducible exact ih2 _ _ _)
   | (with_reducible exact impl_ValuesIn.mono _ _ _)
   | (with_reducible exact laws_eqBag.mono _ _ _ _ _)
   | (with_reducible exact laws_eqStringS.mono _ _ _)
   | (with_reducible exact laws_heldStringS.mono _ _ _)
   | (with_reducible exact laws_markBag.mono _ _ _ _)
   | (with_reducible exact laws_markStringS.mono _ _ _)
   | (with_reducible exact laws_szBag.mono _ _ _ _)
   | (with_reducible exact laws_toBag.mono _ _ _)
   | (with_reducible exact spec_ValuesIn.mono _ _ _)
   | (with_reducible exact LeO.refl _)
   | (with_reducible exact LeO.none _)
   | (with_reducible refine LeO.ite ?_ ?_)
   | (with_reducible refine LeO.bind ?_ (fun _ => ?_))
   | exact ih0 _ _ _ _ _ _ _ _ _
   | exact ih1 _ _ _ _ _ _
   | exact ih2 _ _ _
   | exact impl_ValuesIn.mono _ _ _
   | exact laws_eqBag.mono _ _ _ _ _
   | exact laws_eqStringS.mono _ _ _
   | exact laws_heldStringS.mono _ _ _
   | exact laws_markBag.mono _ _ _ _
   | exact laws_markStringS.mono _ _ _
   | exact laws_szBag.mono _ _ _ _
   | exact laws_toBag.mono _ _ _
   | exact spec_ValuesIn.mono _ _ _
   | exact LeO.none _
   | refine LeO.ite ?_ ?_
   | refine LeO.bind ?_ (fun _ => ?_)
  ·intro y0 y1 y2
   unfold laws_FnExactValuesIn.j2
   repeat' first
   | (with_reducible exact ih0 _ _ _ _ _ _ _ _ _)
   | (with_reducible exact ih1 _ _ _ _ _ _)
   | (with_reducible exact ih2 _ _ _)
   | (with_reducible exact impl_ValuesIn.mono _ _ _)
   | (with_reducible exact laws_eqBag.mono _ _ _ _ _)
   | (with_reducible exact laws_eqStringS.mono _ _ _)
   | (with_reducible exact laws_heldStringS.mono _ _ _)
   | (with_reducible exact laws_markBag.mono _ _ _ _)
   | (with_reducible exact laws_markStringS.mono _ _ _)
   | (with_reducible exact laws_szBag.mono _ _ _ _)
   | (with_reducible exact laws_toBag.mono _ _ _)
   | (with_reducible exact spec_ValuesIn.mono _ _ _)
   | (with_reducible exact LeO.refl _)
   | (with_reducible exact LeO.none _)
   | (with_reducible refine LeO.ite ?_ ?_)
   | (with_reducible refine LeO.bind ?_ (fun _ => ?_))
   | exact ih0 _ _ _ _ _ _ _ _ _
   | exact ih1 _ _ _ _ _ _
   | exact ih2 _ _ _
   | exact impl_ValuesIn.mono _ _ _
   | exact laws_eqBag.mono _ _ _ _ _
   | exact laws_eqStringS.mono _ _ _
   | exact laws_heldStringS.mono _ _ _
   | exact laws_markBag.mono _ _ _ _
   | exact laws_markStringS.mono _ _ _
   | exact laws_szBag.mono _ _ _ _
   | exact laws_toBag.mono _ _ _
   | exact spec_ValuesIn.mono _ _ _
   | exact LeO.none _
   | refine LeO.ite ?_ ?_
   | refine LeO.bind ?_ (fun _ => ?_)
theorem laws_FnExactValuesIn.mono : ∀ a0 a1 k, LeO (laws_FnExactValuesIn.f k a0 a1) (laws_FnExactValuesIn.f (k + 1) a0 a1) := by
 intro a0 a1 k
 obtain ⟨ih0, ih1, ih2⟩ := laws_FnExactValuesIn.mono_l k
 unfold laws_FnExactValuesIn.f
 repeat' first
   | (with_reducible exact ih0 _ _ _ _ _ _ _ _ _)
   | (with_reducible exact ih1 _ _ _ _ _ _)
   | (with_reducible exact ih2 _ _ _)
   | (with_reducible exact impl_ValuesIn.mono _ _ _)
   | (with_reducible exact laws_eqBag.mono _ _ _ _ _)
   | (with_reducible exact laws_eqStringS.mono _ _ _)
   | (with_reducible exact laws_heldStringS.mono _ _ _)
   | (with_reducible exact laws_markBag.mono _ _ _ _)
   | (with_reducible exact laws_markStringS.mono _ _ _)
   | (with_reducible exact laws_szBag.mono _ _ _ _)
   | (with_reducible exact laws_toBag.mono _ _ _)
   | (with_reducible exact spec_ValuesIn.mono _ _ _)
   | (with_reducible exact LeO.refl _)
   | (with_reducible exact LeO.none _)
   | (with_reducible refine LeO.ite ?_ ?_)
   | (with_reducible refine LeO.bind ?_ (fun _ => ?_))
   | exact ih0 _ _ _ _ _ _ _ _ _
   | exact ih1 _ _ _ _ _ _
   | exact ih2 _ _ _
   | exact impl_ValuesIn.mono _ _ _
   | exact laws_eqBag.mono _ _ _ _ _
   | exact laws_eqStringS.mono _ _ _
   | exact laws_heldStringS.mono _ _ _
   | exact laws_markBag.mono _ _ _ _
   | exact laws_markStringS.mono _ _ _
   | exact laws_szBag.mono _ _ _ _
   | exact laws_toBag.mono _ _ _
   | exact spec_ValuesIn.mono _ _ _
   | exact LeO.none _
   | refine LeO.ite ?_ ?_
   | refine LeO.bind ?_ (fun _ => ?_)
set_option maxHeartbeats 8000000 in
set_option maxRecDepth 100000 in
theorem laws_FnExactValuesIn.calls (k : Nat) (A0_0 : Option Addr) (c0_0 : Nat) (l0_0 : List (S72)) (A0_1 : Option Addr) (c0_1 : Nat) (l0_1 : List (S72)) (r : Bool) (w : World) (hr0_0 : Kd.C k72 w A0_0 l0_0.length l0_0) (hc0_0 : l0_0.length ≤ c0_0) (hr0_1 : Kd.C k72 w A0_1 l0_1.length l0_1) (hc0_1 : l0_1.length ≤ c0_1) (h : laws_FnExactValuesIn.f k l0_0 l0_1 = some r) :
  Calls Try.prog 6 #[.agg #[.slice A0_0 l0_0.length c0_0, .slice A0_1 l0_1.length c0_1]] w fun e w' => e = .returned (.bool r) ∧ Below w.heap.size w w' := by
 have hu24 := Try.underlying24
 have hu29 := Try.underlying29
 have HR0_0 := Aside0.mk hr0_0
 have HC0_0 := Aside0.mk hc0_0
 clear hr0_0 hc0_0
 have HR0_1 := Aside0.mk hr0_1
 have HC0_1 := Aside0.mk hc0_1
 clear hr0_1 hc0_1
 have HB := Aside0.mk (Below.refl w.heap.size w)
 have H : ((laws_szBag.f k l0_0 l0_1 1048576).bind fun t402 => (if t402 < 0 then (some true) else ((laws_toBag.f k l0_0 l0_1).bind fun bt403 => ((spec_ValuesIn.f k bt403.1 bt403.2).bind fun bt409 => ((laws_toBag.f k l0_0 l0_1).bind fun bt413 => ((impl_ValuesIn.f k bt413.1 bt413.2).bind fun bt420 => ((laws_eqStringS.f k bt420.1 bt409.1).bind fun t424 => (if t424 = true then (laws_FnExactValuesIn.j0 k bt409.1 bt409.2 bt420.1 bt420.2 (bt420.2 != bt409.2) l0_0 l0_1 bt413.1 bt413.2) else (none))))))))) = some r := h
 clear h
 replace H := Option.bind_eq_some_iff.mp H
 obtain ⟨t402, A20, H⟩ := H
 replace H : (if t402 < 0 then (some true) else ((laws_toBag.f k l0_0 l0_1).bind fun bt403 => ((spec_ValuesIn.f k bt403.1 bt403.2).bind fun bt409 => ((laws_toBag.f k l0_0 l0_1).bind fun bt413 => ((impl_ValuesIn.f k bt413.1 bt413.2).bind fun bt420 => ((laws_eqStringS.f k bt420.1 bt409.1).bind fun t424 => (if t424 = true then (laws_FnExactValuesIn.j0 k bt409.1 bt409.2 bt420.1 bt420.2 (bt420.2 != bt409.2) l0_0 l0_1 bt413.1 bt413.2) else (none)))))))) = some r := H
 have A2 := Aside0.mk A20
 clear A20
 by_cases c3 : t402 < 0
 ·rw [if_pos c3] at H
  have c3b0 : decide (t402 < 0) = true := decide_eq_true c3
  clear c3
  obtain rfl := Option.some.inj H
  go_enter Try.func6, Try.ntmps6
  go_wp2_with (first | ((with_reducible refine gate_dst (N := 1) rfl ?_); refine box_event rfl (N := 1) rfl (cs := #[.slice A0_0 l0_0.length c0_0, .slice A0_1 l0_1.length c0_1]) (t := 24) gs_ ?_; intro gb401 hg w4 hbox hb; have BK401 := Aside0.mk (hbox); have GW401 := Aside0.mk ((by rw [hg]; exact bz_ : w.heap.size ≤ gb401)); have GE401 := GW401; replace HB := Aside0.mk (below_step bl_ hb); clear hb hbox hg; have hcz5_0 : w4.cell? ⟨gb401, 0, none⟩ = some (.slice A0_0 l0_0.length c0_0) := bc_ BK401.out 0; have hcz5_1 : w4.cell? ⟨gb401, 1, none⟩ = some (.slice A0_1 l0_1.length c0_1) := bc_ BK401.out 1; have hfz5_0 := blk_frozen BK401.out 0; have hfz5_1 := blk_frozen BK401.out 1) | ((with_reducible refine gate_callee (f := 8) rfl ?_); refine goesL_ (some 16) rfl rfl Try.func8 (by kernel_rfl) rfl #[.agg #[.slice A0_0 l0_0.length c0_0, .slice A0_1 l0_1.length c0_1], .int .i64 1048576] rfl nc_ ?_; (with_reducible refine (laws_szBag.calls k _ _ l0_0 _ _ l0_1 1048576 t402 _ ?side1 ?side2 ?side3 ?side4 A2.out).mono ?_); (case side1 => exact kc_ (Kd.C_below HR0_0.out HB.out)); (case side2 => exact HC0_0.out); (case side3 => exact kc_ (Kd.C_below HR0_1.out HB.out)); (case side4 => exact HC0_1.out); rintro e w6 ⟨rfl, hb⟩; refine ⟨_, rfl, ?_⟩; replace BK401 := bb_ BK401 hb; replace HB := Aside0.mk (below_step bl_ hb); clear hb))
  go_ret
  exact ⟨ng_, bl_⟩
 rw [if_neg c3] at H
 have c3b0 : decide (t402 < 0) = false := decide_eq_false c3
 clear c3
 replace H := Option.bind_eq_some_iff.mp H
 obtain ⟨⟨t403, t406⟩, A70, H⟩ := H
 replace H : ((spec_ValuesIn.f k t403 t406).bind fun bt409 => ((laws_toBag.f k l0_0 l0_1).bind fun bt413 => ((impl_ValuesIn.f k bt413.1 bt413.2).bind fun bt420 => ((laws_eqStringS.f k bt420.1 bt409.1).bind fun t424 => (if t424 = true then (laws_FnExactValuesIn.j0 k bt409.1 bt409.2 bt420.1 bt420.2 (bt420.2 != bt409.2) l0_0 l0_1 bt413.1 bt413.2) else (none)))))) = some r := H
 have A7 := Aside0.mk A70
 clear A70
 replace H := Option.bind_eq_some_iff.mp H
 obtain ⟨⟨t409, t412⟩, A80, H⟩ := H
 replace H : ((laws_toBag.f k l0_0 l0_1).bind fun bt413 => ((impl_ValuesIn.f k bt413.1 bt413.2).bind fun bt420 => ((laws_eqStringS.f k bt420.1 t409).bind fun t424 => (if t424 = true then (laws_FnExactValuesIn.j0 k t409 t412 bt420.1 bt420.2 (bt420.2 != t412) l0_0 l0_1 bt413.1 bt413.2) else (none))))) = some r := H
 have A8 := Aside0.mk A80
 clear A80
 replace H := Option.bind_eq_some_iff.mp H
 obtain ⟨⟨t413, t416⟩, A90, H⟩ := H
 replace H : ((impl_ValuesIn.f k t413 t416).bind fun bt420 => ((laws_eqStringS.f k bt420.1 t409).bind fun t424 => (if t424 = true then (laws_FnExactValuesIn.j0 k t409 t412 bt420.1 bt420.2 (bt420.2 != t412) l0_0 l0_1 t413 t416) else (none)))) = some r := H
 have A9 := Aside0.mk A90
 clear A90
 replace H := Option.bind_eq_some_iff.mp H
 obtain ⟨⟨t420, t423⟩, A100, H⟩ := H
 replace H : ((laws_eqStringS.f k t420 t409).bind fun t424 => (if t424 = true then (laws_FnExactValuesIn.j0 k t409 t412 t420 t423 (t423 != t412) l0_0 l0_1 t413 t416) else (none))) = some r := H
 have A10 := Aside0.mk A100
 clear A100
 have HC11 := Aside0.mk H
 clear H
 go_enter Try.func6, Try.ntmps6
 go_upto_region 8 with (first | ((with_reducible refine gate_dst (N := 1) rfl ?_); refine box_event rfl (N := 1) rfl (cs := #[.slice A0_0 l0_0.length c0_0, .slice A0_1 l0_1.length c0_1]) (t := 24) gs_ ?_; intro gb401 hg w12 hbox hb; have BK401 := Aside0.mk (hbox); have GW401 := Aside0.mk ((by rw [hg]; exact bz_ : w.heap.size ≤ gb401)); have GE401 := GW401; replace HB := Aside0.mk (below_step bl_ hb); clear hb hbox hg; have hcz13_0 : w12.cell? ⟨gb401, 0, none⟩ = some (.slice A0_0 l0_0.length c0_0) := bc_ BK401.out 0; have hcz13_1 : w12.cell? ⟨gb401, 1, none⟩ = some (.slice A0_1 l0_1.length c0_1) := bc_ BK401.out 1; have hfz13_0 := blk_frozen BK401.out 0; have hfz13_1 := blk_frozen BK401.out 1) | ((with_reducible refine gate_callee (f := 8) rfl ?_); refine goesL_ (some 16) rfl rfl Try.func8 (by kernel_rfl) rfl #[.agg #[.slice A0_0 l0_0.length c0_0, .slice A0_1 l0_1.length c0_1], .int .i64 1048576] rfl nc_ ?_; (with_reducible refine (laws_szBag.calls k _ _ l0_0 _ _ l0_1 1048576 t402 _ ?side1 ?side2 ?side3 ?side4 A2.out).mono ?_); (case side1 => exact kc_ (Kd.C_below HR0_0.out HB.out)); (case side2 => exact HC0_0.out); (case side3 => exact kc_ (Kd.C_below HR0_1.out HB.out)); (case side4 => exact HC0_1.out); rintro e w14 ⟨rfl, hb⟩; refine ⟨_, rfl, ?_⟩; replace BK401 := bb_ BK401 hb; replace HB := Aside0.mk (below_step bl_ hb); clear hb; have hcz15_0 : w14.cell? ⟨gb401, 0, none⟩ = some (.slice A0_0 l0_0.length c0_0) := bc_ BK401.out 0; have hcz15_1 : w14.cell? ⟨gb401, 1, none⟩ = some (.slice A0_1 l0_1.length c0_1) := bc_ BK401.out 1; have hfz15_0 := blk_frozen BK401.out 0; have hfz15_1 := blk_frozen BK401.out 1) | ((with_reducible refine gate_callee (f := 10) rfl ?_); refine goesL_ (some 21) rfl rfl Try.func10 (by kernel_rfl) rfl #[.agg #[.slice A0_0 l0_0.length c0_0, .slice A0_1 l0_1.length c0_1]] rfl nc_ ?_; (with_reducible refine (laws_toBag.calls k _ _ l0_0 _ _ l0_1 t403 t406 _ ?side1 ?side2 ?side3 ?side4 A7.out).mono ?_); (case side1 => exact kc_ (Kd.C_below HR0_0.out HB.out)); (case side2 => exact HC0_0.out); (case side3 => exact kc_ (Kd.C_below HR0_1.out HB.out)); (case side4 => exact HC0_1.out); rintro e w16 ⟨v404, v407, rfl, ho0, ho1, hb⟩; refine ⟨_, rfl, ?_⟩; have HO405 := Aside0.mk (Kd.R_lower ho0 bz_); have HO408 := Aside0.mk (Kd.R_lower ho1 bz_); replace BK401 := bb_ BK401 hb; replace HB := Aside0.mk (below_step bl_ hb); clear hb ho0 ho1; obtain ⟨Ao17, co17, eo17⟩ := Kd.R_slice HO405.out; subst eo17; obtain ⟨Ao18, co18, eo18⟩ := Kd.R_slice HO408.out; subst eo18) | ((with_reducible refine gate_callee (f := 19) rfl ?_); refine goesL_ (some 22) rfl rfl Try.func19 (by kernel_rfl) rfl #[.agg #[.slice Ao17 t403.length co17, .slice Ao18 t406.length co18]] rfl nc_ ?_; (with_reducible refine (spec_ValuesIn.calls k _ _ t403 _ _ t406 t409 t412 _ ?side1 ?side2 ?side3 ?side4 A8.out).mono ?_); (case side1 => exact kc_ (Kd.R_reads' HO405.out).2.2); (case side2 => exact (Kd.R_reads' HO405.out).2.1); (case side3 => exact kc_ (Kd.R_reads' HO408.out).2.2); (case side4 => exact (Kd.R_reads' HO408.out).2.1); rintro e w19 ⟨v410, rfl, ho0, hb⟩; refine ⟨_, rfl, ?_⟩; replace HO405 := rb_ HO405 hb; replace HO408 := rb_ HO408 hb; have HO411 := Aside0.mk (Kd.R_lower ho0 bz_); replace BK401 := bb_ BK401 hb; replace HB := Aside0.mk (below_step bl_ hb); clear hb ho0; have hcz20_0 : w19.cell? ⟨gb401, 0, none⟩ = some (.slice A0_0 l0_0.length c0_0) := bc_ BK401.out 0; have hcz20_1 : w19.cell? ⟨gb401, 1, none⟩ = some (.slice A0_1 l0_1.length c0_1) := bc_ BK401.out 1; have hfz20_0 := blk_frozen BK401.out 0; have hfz20_1 := blk_frozen BK401.out 1) | ((with_reducible refine gate_callee (f := 10) rfl ?_); refine goesL_ (some 26) rfl rfl Try.func10 (by kernel_rfl) rfl #[.agg #[.slice A0_0 l0_0.length c0_0, .slice A0_1 l0_1.length c0_1]] rfl nc_ ?_; (with_reducible refine (laws_toBag.calls k _ _ l0_0 _ _ l0_1 t413 t416 _ ?side1 ?side2 ?side3 ?side4 A9.out).mono ?_); (case side1 => exact kc_ (Kd.C_below HR0_0.out HB.out)); (case side2 => exact HC0_0.out); (case side3 => exact kc_ (Kd.C_below HR0_1.out HB.out)); (case side4 => exact HC0_1.out); rintro e w21 ⟨v414, v417, rfl, ho0, ho1, hb⟩; refine ⟨_, rfl, ?_⟩; replace HO411 := rb_ HO411 hb; have HO415 := Aside0.mk (Kd.R_lower (rn_ (rn_ ho0 HO405.out) HO408.out) bz_); have HO418 := Aside0.mk (Kd.R_lower (rn_ (rn_ ho1 HO405.out) HO408.out) bz_); replace HO405 := rp2_ HO405 hb ho0 ho1; replace HO408 := rp2_ HO408 hb ho0 ho1; replace BK401 := bb_ BK401 hb; replace HB := Aside0.mk (below_step bl_ hb); clear hb ho0 ho1) | ((with_reducible refine gate_dst (N := 6) rfl ?_); refine box_event rfl (N := 6) rfl (cs := #[.slice none 0 0, .slice none 0 0]) (t := 29) gs_ ?_; intro gb419 hg w22 hbox hb; replace HO405 := rb_ HO405 hb; replace HO408 := rb_ HO408 hb; replace HO411 := rb_ HO411 hb; replace HO415 := rb_ HO415 hb; replace HO418 := rb_ HO418 hb; have BK419 := Aside0.mk (hbox); have GW419 := Aside0.mk ((by rw [hg]; exact bz_ : w.heap.size ≤ gb419)); have GE419 := GW419; replace HB := Aside0.mk (below_step bl_ hb); have NB401_419 := nl_ hg BK401; have NB419_401 := nm_ hg BK401; replace BK401 := bb_ BK401 hb; clear hb hbox hg; obtain ⟨Ao23, co23, eo23⟩ := Kd.R_slice HO415.out; subst eo23; have hnb24 := NB419_401.out; have hnc24 := NB401_419.out; have hcz25_0 : w22.cell? ⟨gb419, 0, none⟩ = some (.slice none 0 0) := bc_ BK419.out 0; have hcz25_1 : w22.cell? ⟨gb419, 1, none⟩ = some (.slice none 0 0) := bc_ BK419.out 1; have hfz25_0 := blk_frozen BK419.out 0; have hfz25_1 := blk_frozen BK419.out 1; obtain ⟨Ao26, co26, eo26⟩ := Kd.R_slice HO418.out; subst eo26) | ((with_reducible refine gate_callee (f := 20) rfl ?_); refine goesL_ (some 29) rfl rfl Try.func20 (by kernel_rfl) rfl #[.agg #[.slice Ao23 t413.length co23, .slice Ao26 t416.length co26]] rfl nc_ ?_; (with_reducible refine (impl_ValuesIn.calls k _ _ t413 _ _ t416 t420 t423 _ ?side1 ?side2 ?side3 ?side4 A10.out).mono ?_); (case side1 => exact (Kd.R_reads' (kr_ (rs2_ HO415.out BK419.out (.slice Ao23 t413.length co23) (.slice Ao26 t416.length co26)))).2.2); (case side2 => exact (Kd.R_reads' HO415.out).2.1); (case side3 => exact (Kd.R_reads' (kr_ (rs2_ HO418.out BK419.out (.slice Ao23 t413.length co23) (.slice Ao26 t416.length co26)))).2.2); (case side4 => exact (Kd.R_reads' HO418.out).2.1); rintro e w27 ⟨v421, rfl, ho0, hb⟩; refine ⟨_, rfl, ?_⟩; replace HO405 := Aside0.mk (Kd.R_below (kr_ (rs2_ HO405.out BK419.out (.slice Ao23 t413.length co23) (.slice Ao26 t416.length co26))) hb); replace HO408 := Aside0.mk (Kd.R_below (kr_ (rs2_ HO408.out BK419.out (.slice Ao23 t413.length co23) (.slice Ao26 t416.length co26))) hb); replace HO415 := Aside0.mk (Kd.R_below (kr_ (rs2_ HO415.out BK419.out (.slice Ao23 t413.length co23) (.slice Ao26 t416.length co26))) hb); replace HO418 := Aside0.mk (Kd.R_below (kr_ (rs2_ HO418.out BK419.out (.slice Ao23 t413.length co23) (.slice Ao26 t416.length co26))) hb); have HO422 := Aside0.mk (Kd.R_lower (rn_ ho0 (rs2_ HO411.out BK419.out (.slice Ao23 t413.length co23) (.slice Ao26 t416.length co26))) bz_); replace HO411 := Aside0.mk (Kd.R_elder' (kr_ (rs2_ HO411.out BK419.out (.slice Ao23 t413.length co23) (.slice Ao26 t416.length co26))) (Kd.R_base ho0) hb); replace BK401 := Aside0.mk (blk_below (g := gb401) (o := .cells #[.slice A0_0 l0_0.length c0_0, .slice A0_1 l0_1.length c0_1] 24 (0, 0)) kz_ hb); replace BK419 := Aside0.mk (blk_below (g := gb419) (o := .cells #[.slice Ao23 t413.length co23, .slice Ao26 t416.length co26] 29 (0, 0)) (by (with_reducible repeat (first | refine blk_drewN ?_ _ | refine blk_drew ?_ | refine blk_alloc ?_ _)); refine blk_put (cs := #[.slice Ao23 t413.length co23, .slice none 0 0]) ?_ 1 _ rfl; (with_reducible repeat (first | refine blk_drewN ?_ _ | refine blk_drew ?_ | refine blk_alloc ?_ _)); refine blk_put (cs := #[.slice none 0 0, .slice none 0 0]) ?_ 0 _ rfl; exact kb_ BK419.out) hb); replace HB := Aside0.mk (below_step bl_ hb); clear hb ho0))
 (try simp only [Act.put, List.setIfInBounds_toArray, List.set_cons_zero, List.set_cons_succ])
 go_cut [40] (fun v40 wc => ∃ (kq : Nat) (x40_10 : Bool), v40 = .bool x40_10 ∧ Aside0 (laws_FnExactValuesIn.j0 kq t409 t412 t420 t423 x40_10 l0_0 l0_1 t413 t416 = some r) ∧ Aside0 (kq ≤ k) ∧ Aside0 (Kd.R Kd.string 9 wc w.heap.size (fun k_ => some k_ ≠ (v421 : Value).ownBlock) v410 t409) ∧ Aside0 (Kd.R Kd.string 9 wc w.heap.size (fun k_ => some k_ ≠ (v410 : Value).ownBlock) v421 t420) ∧ Aside0 (Kd.R k48 48 wc w.heap.size (fun k_ => some k_ ≠ ((.slice Ao26 t416.length co26) : Value).ownBlock) (.slice Ao23 t413.length co23) t413) ∧ Aside0 (Kd.R k48 48 wc w.heap.size (fun k_ => some k_ ≠ ((.slice Ao23 t413.length co23) : Value).ownBlock) (.slice Ao26 t416.length co26) t416) ∧ Aside0 (wc.heap[gb401]? = some (.cells #[(.slice A0_0 l0_0.length c0_0), (.slice A0_1 l0_1.length c0_1)] 24 (0, 0))) ∧ Aside0 (wc.heap[gb419]? = some (.cells #[(.slice Ao23 t413.length co23), (.slice Ao26 t416.length co26)] 29 (0, 0))) ∧ Aside0 (Below w.heap.size w wc))
 case first =>
  have H := HC11.out
  clear HC11
  replace H := Option.bind_eq_some_iff.mp H
  obtain ⟨t424, A280, H⟩ := H
  replace H : (if t424 = true then (laws_FnExactValuesIn.j0 k t409 t412 t420 t423 (t423 != t412) l0_0 l0_1 t413 t416) else (none)) = some r := H
  have A28 := Aside0.mk A280
  clear A280
  by_cases c29 : t424 = true
  rotate_left
  ·replace c29 := Bool.eq_false_iff.mpr c29
   subst c29
   have H1 : (none) = some r := by rw [if_neg (show ¬ (false = true) by decide)] at H; exact H
   clear H
   have H := H1
   clear H1
   exact absurd H (by simp)
  subst c29
  have H1 : (laws_FnExactValuesIn.j0 k t409 t412 t420 t423 (t423 != t412) l0_0 l0_1 t413 t416) = some r := by rw [if_pos rfl] at H; exact H
  clear H
  have H := H1
  clear H1
  have H' := Aside0.mk H
  clear H
  obtain ⟨Ao30, co30, eo30⟩ := Kd.R_slice HO422.out
  subst eo30
  obtain ⟨Ao31, co31, eo31⟩ := Kd.R_slice HO411.out
  subst eo31
  go_wp2_with (first | ((with_reducible refine gate_callee (f := 21) rfl ?_); refine goesL_ (some 34) rfl rfl Try.func21 (by kernel_rfl) rfl #[.slice Ao30 t420.length co30, .slice Ao31 t409.length co31] rfl nc_ ?_; (with_reducible refine (laws_eqStringS.calls k _ _ t420 _ _ t409 true _ ?side1 ?side2 ?side3 ?side4 A28.out).mono ?_); (case side1 => exact kc_ (Kd.R_reads' HO422.out).2.2); (case side2 => exact (Kd.R_reads' HO422.out).2.1); (case side3 => exact kc_ (Kd.R_reads' HO411.out).2.2); (case side4 => exact (Kd.R_reads' HO411.out).2.1); rintro e w' ⟨rfl, ⟨nd, rfl⟩⟩; refine ⟨_, rfl, ?_⟩))
  go_meet
  case rel => exact ⟨_, ((t423 != t412)), (by first | rfl | (simp; done) | (simp [*]; done)), H', ⟨by first | omega | exact Nat.le_refl _⟩, ⟨kp_ HO411.out⟩, ⟨kp_ HO422.out⟩, ⟨kp_ HO415.out⟩, ⟨kp_ HO418.out⟩, ⟨by exact kb_ BK401.out⟩, ⟨by exact kb_ BK419.out⟩, ⟨bl_⟩⟩
 clear HC11
 try clear c1
 try clear c2
 try clear p2
 try clear c3
 try clear c3b0
 try clear c6
 try clear c8
 try clear c10
 try clear c19
 try clear c20
 try clear c21
 try clear c24
 try clear c29
 try clear hcz13_0
 try clear hcz13_1
 try clear hcz15_0
 try clear hcz15_1
 try clear hcz20_0
 try clear hcz20_1
 try clear hcz25_0
 try clear hcz25_1
 try clear hcz5_0
 try clear hcz5_1
 try clear hfz13_0
 try clear hfz13_1
 try clear hfz15_0
 try clear hfz15_1
 try clear hfz20_0
 try clear hfz20_1
 try clear hfz25_0
 try clear hfz25_1
 try clear hfz5_0
 try clear hfz5_1
 obtain ⟨kq, x40_10, rfl, HA, HJ10, HO_4, HO_7, HO_420000, HO_420001, BK401, BK419, HB⟩ := hcut
 cases kq with
 | zero => exact absurd HA.out (by simp [laws_FnExactValuesIn.j0])
 | succ kj10 => ?_
 have H := HA.out
 clear HA
 simp only [laws_FnExactValuesIn.j0] at H
 by_cases c32 : x40_10 = true
 ·subst c32
  have H1 : (none) = some r := by rw [if_pos rfl] at H; exact H
  clear H
  have H := H1
  clear H1
  exact absurd H (by simp)
 replace c32 := Bool.eq_false_iff.mpr c32
 subst c32
 have H1 : ((laws_toBag.f kj10 l0_0 l0_1).bind fun bt425 => ((laws_eqBag.f kj10 t413 t416 bt425.1 bt425.2).bind fun t431 => (if t431 = true then ((laws_markBag.f kj10 t413 t416 1).bind fun bt432 => (if bt432.1 < 0 then (none) else ((laws_eqStringS.f kj10 t420 t409).bind fun t435 => (if t435 = true then (laws_FnExactValuesIn.j1 kj10 t409 t412 t420 (t423 != t412) l0_0 l0_1) else (none))))) else (none)))) = some r := by rw [if_neg (show ¬ (false = true) by decide)] at H; exact H
 clear H
 have H := H1
 clear H1
 replace H := Option.bind_eq_some_iff.mp H
 obtain ⟨⟨t425, t428⟩, A330, H⟩ := H
 replace H : ((laws_eqBag.f kj10 t413 t416 t425 t428).bind fun t431 => (if t431 = true then ((laws_markBag.f kj10 t413 t416 1).bind fun bt432 => (if bt432.1 < 0 then (none) else ((laws_eqStringS.f kj10 t420 t409).bind fun t435 => (if t435 = true then (laws_FnExactValuesIn.j1 kj10 t409 t412 t420 (t423 != t412) l0_0 l0_1) else (none))))) else (none))) = some r := H
 have A33 := Aside0.mk A330
 clear A330
 replace H := Option.bind_eq_some_iff.mp H
 obtain ⟨t431, A340, H⟩ := H
 replace H : (if t431 = true then ((laws_markBag.f kj10 t413 t416 1).bind fun bt432 => (if bt432.1 < 0 then (none) else ((laws_eqStringS.f kj10 t420 t409).bind fun t435 => (if t435 = true then (laws_FnExactValuesIn.j1 kj10 t409 t412 t420 (t423 != t412) l0_0 l0_1) else (none))))) else (none)) = some r := H
 have A34 := Aside0.mk A340
 clear A340
 by_cases c35 : t431 = true
 rotate_left
 ·replace c35 := Bool.eq_false_iff.mpr c35
  subst c35
  have H1 : (none) = some r := by rw [if_neg (show ¬ (false = true) by decide)] at H; exact H
  clear H
  have H := H1
  clear H1
  exact absurd H (by simp)
 subst c35
 have H1 : ((laws_markBag.f kj10 t413 t416 1).bind fun bt432 => (if bt432.1 < 0 then (none) else ((laws_eqStringS.f kj10 t420 t409).bind fun t435 => (if t435 = true then (laws_FnExactValuesIn.j1 kj10 t409 t412 t420 (t423 != t412) l0_0 l0_1) else (none))))) = some r := by rw [if_pos rfl] at H; exact H
 clear H
 have H := H1
 clear H1
 replace H := Option.bind_eq_some_iff.mp H
 obtain ⟨⟨t432, t433, t434⟩, A360, H⟩ := H
 replace H : (if t432 < 0 then (none) else ((laws_eqStringS.f kj10 t420 t409).bind fun t435 => (if t435 = true then (laws_FnExactValuesIn.j1 kj10 t409 t412 t420 (t423 != t412) l0_0 l0_1) else (none)))) = some r := H
 have A36 := Aside0.mk A360
 clear A360
 have HC37 := Aside0.mk H
 clear H
 try go_wp2
 replace HO_4 := Aside0.mk (Kd.R_drew HO_4.out)
 replace HO_7 := Aside0.mk (Kd.R_drew HO_7.out)
 replace HO_420000 := Aside0.mk (Kd.R_drew HO_420000.out)
 replace HO_420001 := Aside0.mk (Kd.R_drew HO_420001.out)
 replace BK401 := Aside0.mk (blk_drew BK401.out)
 replace BK419 := Aside0.mk (blk_drew BK419.out)
 replace HB := Aside0.mk (below_drew1 HB.out)
 refine start_ (n := 5) (S := fun w' => w'.cell? ⟨gb419, 0, none⟩ = some (.slice Ao23 t413.length co23) ∧ w'.cell? ⟨gb419, 1, none⟩ = some (.slice Ao26 t416.length co26) ∧ w'.cell? ⟨gb401, 0, none⟩ = some (.slice A0_0 l0_0.length c0_0) ∧ w'.cell? ⟨gb401, 1, none⟩ = some (.slice A0_1 l0_1.length c0_1)) (ds := []) #[false, false, false, false, false] (by kernel_rfl) rfl rfl ⟨bc_ BK419.out 0, bc_ BK419.out 1, bc_ BK401.out 0, bc_ BK401.out 1⟩ (fun hHeld => ?_)
 generalize wc.drew = w38 at HO_4 HO_7 HO_420000 HO_420001 BK401 BK419 HB hHeld ⊢
 refine tk4_ 0 (some 41) (h := ?_)
 refine tk4_ 1 (some 42) (h := ?_)
 refine on_ 2 (some 43) (h := fun K hK => ?_)
 refine goes_ Try.func10 (by kernel_rfl) rfl #[.agg #[.slice A0_0 l0_0.length c0_0, .slice A0_1 l0_1.length c0_1]] (by rfl) rfl rfl nc_ ?_
 with_reducible refine (laws_toBag.calls kj10 _ _ l0_0 _ _ l0_1 t425 t428 _ ?side1 ?side2 ?side3 ?side4 A33.out).mono ?_
 (case side1 => exact kc_ (Kd.C_below HR0_0.out HB.out))
 (case side2 => exact HC0_0.out)
 (case side3 => exact kc_ (Kd.C_below HR0_1.out HB.out))
 (case side4 => exact HC0_1.out)
 rintro e w39 ⟨v426, v429, rfl, ho0, ho1, hb⟩
 refine ⟨_, rfl, ?_⟩
 replace HO_4 := rb_ HO_4 hb
 replace HO_7 := rb_ HO_7 hb
 have HO427 := Aside0.mk (Kd.R_lower (rn_ (rn_ ho0 HO_420000.out) HO_420001.out) bz_)
 have HO430 := Aside0.mk (Kd.R_lower (rn_ (rn_ ho1 HO_420000.out) HO_420001.out) bz_)
 replace HO_420000 := rp2_ HO_420000 hb ho0 ho1
 replace HO_420001 := rp2_ HO_420001 hb ho0 ho1
 replace BK401 := bb_ BK401 hb
 replace BK419 := bb_ BK419 hb
 replace HB := Aside0.mk (below_step bl_ hb)
 clear hb ho0 ho1
 obtain ⟨Ao40, co40, eo40⟩ := Kd.R_slice HO427.out
 (first | subst eo40 | (injection eo40 with f1_ f2_ f3_; have f4_ := f1_.symm; have f5_ := f3_.symm; clear f1_ f2_ f3_; subst f4_; subst f5_))
 obtain ⟨Ao41, co41, eo41⟩ := Kd.R_slice HO430.out
 (first | subst eo41 | (injection eo41 with f1_ f2_ f3_; have f4_ := f1_.symm; have f5_ := f3_.symm; clear f1_ f2_ f3_; subst f4_; subst f5_))
 refine hK.out _ _ ⟨bc_ BK419.out 0, bc_ BK419.out 1, bc_ BK401.out 0, bc_ BK401.out 1⟩ (fun hHeld => ?_)
 clear hK K
 refine norm_ nn_ ?_
 refine on_ 3 (some 44) (h := fun K hK => ?_)
 refine goes_ Try.func12 (by kernel_rfl) rfl #[.agg #[.slice Ao23 t413.length co23, .slice Ao26 t416.length co26], .agg #[.slice Ao40 t425.length co40, .slice Ao41 t428.length co41]] (by rfl) rfl rfl nc_ ?_
 with_reducible refine (laws_eqBag.calls kj10 _ _ t413 _ _ t416 _ _ t425 _ _ t428 true _ ?side1 ?side2 ?side3 ?side4 ?side5 ?side6 ?side7 ?side8 A34.out).mono ?_
 (case side1 => exact kc_ (Kd.R_reads' HO_420000.out).2.2)
 (case side2 => exact (Kd.R_reads' HO_420000.out).2.1)
 (case side3 => exact kc_ (Kd.R_reads' HO_420001.out).2.2)
 (case side4 => exact (Kd.R_reads' HO_420001.out).2.1)
 (case side5 => exact kc_ (Kd.R_reads' HO427.out).2.2)
 (case side6 => exact (Kd.R_reads' HO427.out).2.1)
 (case side7 => exact kc_ (Kd.R_reads' HO430.out).2.2)
 (case side8 => exact (Kd.R_reads' HO430.out).2.1)
 rintro e w42 ⟨rfl, hb⟩
 refine ⟨_, rfl, ?_⟩
 replace HO_4 := rb_ HO_4 hb
 replace HO_7 := rb_ HO_7 hb
 replace HO_420000 := rb_ HO_420000 hb
 replace HO_420001 := rb_ HO_420001 hb
 replace HO427 := rb_ HO427 hb
 replace HO430 := rb_ HO430 hb
 replace BK401 := bb_ BK401 hb
 replace BK419 := bb_ BK419 hb
 replace HB := Aside0.mk (below_step bl_ hb)
 clear hb
 refine hK.out _ _ ⟨bc_ BK419.out 0, bc_ BK419.out 1, bc_ BK401.out 0, bc_ BK401.out 1⟩ (fun hHeld => ?_)
 clear hK K
 refine norm_ nn_ ?_
 refine pu_ 4 (some 45) (h := ?_)
 refine done_ (by kernel_rfl) ?_
 have hnb43 := NB419_401.out
 have hnc43 := NB401_419.out
 have hcz44_0 : w42.cell? ⟨gb419, 0, none⟩ = some (.slice Ao23 t413.length co23) := bc_ BK419.out 0
 have hcz44_1 : w42.cell? ⟨gb419, 1, none⟩ = some (.slice Ao26 t416.length co26) := bc_ BK419.out 1
 have hfz44_0 := blk_frozen BK419.out 0
 have hfz44_1 := blk_frozen BK419.out 1
 go_upto_region 14 with (first | ((with_reducible refine gate_callee (f := 15) rfl ?_); refine goesL_ (some 48) rfl rfl Try.func15 (by kernel_rfl) rfl #[.agg #[.slice Ao23 t413.length co23, .slice Ao26 t416.length co26], .int .i64 1] rfl nc_ ?_; (with_reducible refine (laws_markBag.calls kj10 (fun k_ => some k_ = (.slice Ao23 t413.length co23 : Value).ownBlock) (.slice Ao23 t413.length co23) t413 (fun k_ => some k_ = (.slice Ao26 t416.length co26 : Value).ownBlock) (.slice Ao26 t416.length co26) t416 1 t432 t433 t434 w _ ?side1 ?side2 ?side3 ?side4 ?side5 A36.out).mono ?_); (case side1 => repeat (first | (with_reducible first | exact HB.out | apply below_alloc | apply pw_below_drewN | apply below_drew1 | refine below_set ?_ GE401.out | refine below_set ?_ GE419.out) | exact HB.out)); (case side2 => exact Kd.R_tight rfl HO_420000.out); (case side3 => exact fun k_ e_ => (HO_420000.out.1 k_ e_.symm).1.1); (case side4 => exact Kd.R_tight rfl HO_420001.out); (case side5 => exact fun k_ e_ => (HO_420001.out.1 k_ e_.symm).1.1); rintro e w45 ⟨rfl, hy0, hy1, hb, hkp⟩; refine ⟨_, rfl, ?_⟩; replace HO_4 := Aside0.mk (Kd.R_mono (ok' := fun k_ => some k_ ≠ (v421 : Value).ownBlock) (Kd.R_keptB ((Kd.R_apart' (Kd.R_apart' HO_4.out (Kd.R_typed HO_420000.out) (by decide)) (Kd.R_typed HO_420001.out) (by decide))) hkp (fun k_ hk_ hs_ => Or.elim hs_ (fun e_ => (hk_.1.2) e_) (fun e_ => (hk_.2) e_))) (fun k_ hk_ => hk_.1.1.1)); replace HO_7 := Aside0.mk (Kd.R_mono (ok' := fun k_ => some k_ ≠ (v410 : Value).ownBlock) (Kd.R_keptB ((Kd.R_apart' (Kd.R_apart' HO_7.out (Kd.R_typed HO_420000.out) (by decide)) (Kd.R_typed HO_420001.out) (by decide))) hkp (fun k_ hk_ hs_ => Or.elim hs_ (fun e_ => (hk_.1.2) e_) (fun e_ => (hk_.2) e_))) (fun k_ hk_ => hk_.1.1.1)); replace BK401 := Aside0.mk (blk_kept (kb_ BK401.out) hkp (fun hs_ => Or.elim hs_ (fun e_ => (fun e_ => (Kd.R_ne HO_420000.out BK401.out (by decide)) e_) e_) (fun e_ => (fun e_ => (Kd.R_ne HO_420001.out BK401.out (by decide)) e_) e_))); replace BK419 := Aside0.mk (blk_kept (kb_ BK419.out) hkp (fun hs_ => Or.elim hs_ (fun e_ => (fun e_ => (Kd.R_ne HO_420000.out BK419.out (by decide)) e_) e_) (fun e_ => (fun e_ => (Kd.R_ne HO_420001.out BK419.out (by decide)) e_) e_))); replace HO_420000 := Aside0.mk (Kd.R_reok rfl hy0 (fun k_ e_ => HO_420000.out.1 k_ e_)); replace HO_420001 := Aside0.mk (Kd.R_reok rfl hy1 (fun k_ e_ => HO_420001.out.1 k_ e_)); replace HO427 := Aside0.mk (Kd.R_mono (ok' := fun k_ => some k_ ≠ (.slice Ao23 t413.length co23 : Value).ownBlock ∧ some k_ ≠ (.slice Ao26 t416.length co26 : Value).ownBlock ∧ some k_ ≠ (.slice Ao41 t428.length co41 : Value).ownBlock) (Kd.R_keptB (HO427.out) hkp (fun k_ hk_ hs_ => Or.elim hs_ (fun e_ => (hk_.1.2) e_) (fun e_ => (hk_.2) e_))) (fun k_ hk_ => ⟨hk_.1.1.2, hk_.1.2, hk_.1.1.1⟩)); replace HO430 := Aside0.mk (Kd.R_mono (ok' := fun k_ => some k_ ≠ (.slice Ao23 t413.length co23 : Value).ownBlock ∧ some k_ ≠ (.slice Ao26 t416.length co26 : Value).ownBlock ∧ some k_ ≠ (.slice Ao40 t425.length co40 : Value).ownBlock) (Kd.R_keptB (HO430.out) hkp (fun k_ hk_ hs_ => Or.elim hs_ (fun e_ => (hk_.1.2) e_) (fun e_ => (hk_.2) e_))) (fun k_ hk_ => ⟨hk_.1.1.2, hk_.1.2, hk_.1.1.1⟩)); replace HB := Aside0.mk (hb); clear hb))
 (try simp only [Act.put, List.setIfInBounds_toArray, List.set_cons_zero, List.set_cons_succ])
 go_cut [61] (fun v61 wc => ∃ (kq : Nat) (x61_36 : Bool), v61 = .bool x61_36 ∧ Aside0 (laws_FnExactValuesIn.j1 kq t409 t412 t420 x61_36 l0_0 l0_1 = some r) ∧ Aside0 (kq ≤ kj10) ∧ Aside0 (Kd.R Kd.string 9 wc w.heap.size (fun k_ => some k_ ≠ (v421 : Value).ownBlock) v410 t409) ∧ Aside0 (Kd.R Kd.string 9 wc w.heap.size (fun k_ => some k_ ≠ (v410 : Value).ownBlock) v421 t420) ∧ Aside0 (Kd.R k48 48 wc w.heap.size (fun k_ => some k_ ≠ ((.slice Ao26 t416.length co26) : Value).ownBlock) (.slice Ao23 t413.length co23) t433) ∧ Aside0 (Kd.R k48 48 wc w.heap.size (fun k_ => some k_ ≠ ((.slice Ao23 t413.length co23) : Value).ownBlock) (.slice Ao26 t416.length co26) t434) ∧ Aside0 (wc.heap[gb401]? = some (.cells #[(.slice A0_0 l0_0.length c0_0), (.slice A0_1 l0_1.length c0_1)] 24 (0, 0))) ∧ Aside0 (wc.heap[gb419]? = some (.cells #[(.slice Ao23 t413.length co23), (.slice Ao26 t416.length co26)] 29 (0, 0))) ∧ Aside0 (Below w.heap.size w wc))
 case first =>
  have H := HC37.out
  clear HC37
  by_cases c46 : t432 < 0
  ·rw [if_pos c46] at H
   exact absurd H (by simp)
  rw [if_neg c46] at H
  have c46b0 : decide (t432 < 0) = false := decide_eq_false c46
  clear c46
  (first | rw [c46b0] | (simp only [i64_w, i32_w]; rw [c46b0]) | skip)
  replace H := Option.bind_eq_some_iff.mp H
  obtain ⟨t435, A470, H⟩ := H
  replace H : (if t435 = true then (laws_FnExactValuesIn.j1 kj10 t409 t412 t420 (t423 != t412) l0_0 l0_1) else (none)) = some r := H
  have A47 := Aside0.mk A470
  clear A470
  by_cases c48 : t435 = true
  rotate_left
  ·replace c48 := Bool.eq_false_iff.mpr c48
   subst c48
   have H1 : (none) = some r := by rw [if_neg (show ¬ (false = true) by decide)] at H; exact H
   clear H
   have H := H1
   clear H1
   exact absurd H (by simp)
  subst c48
  have H1 : (laws_FnExactValuesIn.j1 kj10 t409 t412 t420 (t423 != t412) l0_0 l0_1) = some r := by rw [if_pos rfl] at H; exact H
  clear H
  have H := H1
  clear H1
  have H' := Aside0.mk H
  clear H
  obtain ⟨Ao49, co49, eo49⟩ := Kd.R_slice HO_7.out
  subst eo49
  obtain ⟨Ao50, co50, eo50⟩ := Kd.R_slice HO_4.out
  subst eo50
  go_wp2_with (first | (go_at_call 21; (with_reducible refine (laws_eqStringS.calls kj10 _ _ t420 _ _ t409 true _ ?side1 ?side2 ?side3 ?side4 A47.out).mono ?_); (case side1 => exact kc_ (Kd.R_reads' HO_7.out).2.2); (case side2 => exact (Kd.R_reads' HO_7.out).2.1); (case side3 => exact kc_ (Kd.R_reads' HO_4.out).2.2); (case side4 => exact (Kd.R_reads' HO_4.out).2.1); rintro e w' ⟨rfl, ⟨nd, rfl⟩⟩))
  go_meet
  case rel => exact ⟨_, ((t423 != t412)), (by first | rfl | (simp; done) | (simp [*]; done)), H', ⟨by have := HJ10.out; first | omega | exact Nat.le_refl _⟩, ⟨by exact kr_ HO_4.out⟩, ⟨by exact kr_ HO_7.out⟩, ⟨kp_ HO_420000.out⟩, ⟨kp_ HO_420001.out⟩, ⟨by exact kb_ BK401.out⟩, ⟨by exact kb_ BK419.out⟩, ⟨bl_⟩⟩
 clear HC37
 try clear c1
 try clear c2
 try clear p2
 try clear c3
 try clear c3b0
 try clear c4
 try clear c6
 try clear c8
 try clear c10
 try clear c12
 try clear c15
 try clear c19
 try clear c20
 try clear c21
 try clear c24
 try clear c29
 try clear c32
 try clear c35
 try clear c43
 try clear c46
 try clear c46b0
 try clear c48
 try clear hcz13_0
 try clear hcz13_1
 try clear hcz15_0
 try clear hcz15_1
 try clear hcz20_0
 try clear hcz20_1
 try clear hcz25_0
 try clear hcz25_1
 try clear hcz44_0
 try clear hcz44_1
 try clear hcz5_0
 try clear hcz5_1
 try clear hfz13_0
 try clear hfz13_1
 try clear hfz15_0
 try clear hfz15_1
 try clear hfz20_0
 try clear hfz20_1
 try clear hfz25_0
 try clear hfz25_1
 try clear hfz44_0
 try clear hfz44_1
 try clear hfz5_0
 try clear hfz5_1
 try clear p2
 obtain ⟨kq, x61_36, rfl, HA, HJ36, HO_4, HO_7, HO_420000, HO_420001, BK401, BK419, HB⟩ := hcut
 have hl420000_36 := (Kd.R_reads' HO_420000.out).1
 rw [hl420000_36] at HO_420000
 (try simp only [hl420000_36])
 (try simp only [hl420000_36] at BK401)
 (try simp only [hl420000_36] at BK419)
 (try simp only [hl420000_36] at HO_4)
 (try simp only [hl420000_36] at HO_7)
 (try simp only [hl420000_36] at HO_420001)
 have hl420001_36 := (Kd.R_reads' HO_420001.out).1
 rw [hl420001_36] at HO_420001
 (try simp only [hl420001_36])
 (try simp only [hl420001_36] at BK401)
 (try simp only [hl420001_36] at BK419)
 (try simp only [hl420001_36] at HO_4)
 (try simp only [hl420001_36] at HO_7)
 (try simp only [hl420001_36] at HO_420000)
 cases kq with
 | zero => exact absurd HA.out (by simp [laws_FnExactValuesIn.j1])
 | succ kj36 => ?_
 have H := HA.out
 clear HA
 simp only [laws_FnExactValuesIn.j1] at H
 by_cases c51 : x61_36 = true
 ·subst c51
  have H1 : (none) = some r := by rw [if_pos rfl] at H; exact H
  clear H
  have H := H1
  clear H1
  exact absurd H (by simp)
 replace c51 := Bool.eq_false_iff.mpr c51
 subst c51
 have H1 : ((laws_markStringS.f kj36 t420 1).bind fun bt436 => ((laws_heldStringS.f kj36 bt436.2 1).bind fun t438 => (if t438 < 0 then (none) else (if t438 = bt436.1 then ((laws_toBag.f kj36 l0_0 l0_1).bind fun bt439 => ((impl_ValuesIn.f kj36 bt439.1 bt439.2).bind fun bt445 => ((laws_eqStringS.f kj36 bt445.1 t409).bind fun t449 => (if t449 = true then (laws_FnExactValuesIn.j2 kj36 bt436.2 bt436.1 (bt445.2 != t412)) else (none))))) else (none))))) = some r := by rw [if_neg (show ¬ (false = true) by decide)] at H; exact H
 clear H
 have H := H1
 clear H1
 replace H := Option.bind_eq_some_iff.mp H
 obtain ⟨⟨t436, t437⟩, A520, H⟩ := H
 replace H : ((laws_heldStringS.f kj36 t437 1).bind fun t438 => (if t438 < 0 then (none) else (if t438 = t436 then ((laws_toBag.f kj36 l0_0 l0_1).bind fun bt439 => ((impl_ValuesIn.f kj36 bt439.1 bt439.2).bind fun bt445 => ((laws_eqStringS.f kj36 bt445.1 t409).bind fun t449 => (if t449 = true then (laws_FnExactValuesIn.j2 kj36 t437 t436 (bt445.2 != t412)) else (none))))) else (none)))) = some r := H
 have A52 := Aside0.mk A520
 clear A520
 replace H := Option.bind_eq_some_iff.mp H
 obtain ⟨t438, A530, H⟩ := H
 replace H : (if t438 < 0 then (none) else (if t438 = t436 then ((laws_toBag.f kj36 l0_0 l0_1).bind fun bt439 => ((impl_ValuesIn.f kj36 bt439.1 bt439.2).bind fun bt445 => ((laws_eqStringS.f kj36 bt445.1 t409).bind fun t449 => (if t449 = true then (laws_FnExactValuesIn.j2 kj36 t437 t436 (bt445.2 != t412)) else (none))))) else (none))) = some r := H
 have A53 := Aside0.mk A530
 clear A530
 by_cases c54 : t438 < 0
 ·rw [if_pos c54] at H
  exact absurd H (by simp)
 rw [if_neg c54] at H
 have c54b0 : decide (t438 < 0) = false := decide_eq_false c54
 clear c54
 by_cases c55 : t438 = t436
 rotate_left
 ·rw [if_neg c55] at H
  exact absurd H (by simp)
 rw [if_pos c55] at H
 have c55b0 : (t438 == t436) = true := beq_iff_eq.mpr c55
 have c55b1 : (t438 != t436) = false := bne_eq_false_iff_eq.mpr c55
 clear c55
 replace H := Option.bind_eq_some_iff.mp H
 obtain ⟨⟨t439, t442⟩, A560, H⟩ := H
 replace H : ((impl_ValuesIn.f kj36 t439 t442).bind fun bt445 => ((laws_eqStringS.f kj36 bt445.1 t409).bind fun t449 => (if t449 = true then (laws_FnExactValuesIn.j2 kj36 t437 t436 (bt445.2 != t412)) else (none)))) = some r := H
 have A56 := Aside0.mk A560
 clear A560
 replace H := Option.bind_eq_some_iff.mp H
 obtain ⟨⟨t445, t448⟩, A570, H⟩ := H
 replace H : ((laws_eqStringS.f kj36 t445 t409).bind fun t449 => (if t449 = true then (laws_FnExactValuesIn.j2 kj36 t437 t436 (t448 != t412)) else (none))) = some r := H
 have A57 := Aside0.mk A570
 clear A570
 have HC58 := Aside0.mk H
 clear H
 obtain ⟨Ao59, co59, eo59⟩ := Kd.R_slice HO_7.out
 subst eo59
 go_upto_region 25 with (first | ((with_reducible refine gate_callee (f := 22) rfl ?_); refine goesL_ (some 64) rfl rfl Try.func22 (by kernel_rfl) rfl #[.slice Ao59 t420.length co59, .int .i64 1] rfl nc_ ?_; (with_reducible refine (laws_markStringS.calls kj36 (fun k_ => some k_ = (.slice Ao59 t420.length co59 : Value).ownBlock) (.slice Ao59 t420.length co59) t420 1 t436 t437 w _ ?side1 ?side2 A52.out).mono ?_); (case side1 => repeat (first | (with_reducible first | exact HB.out | apply below_alloc | apply pw_below_drewN | apply below_drew1 | refine below_set ?_ GE401.out | refine below_set ?_ GE419.out) | exact HB.out)); (case side2 => exact Kd.R_tight rfl HO_7.out); rintro e w60 ⟨rfl, hy0, hb, hkp⟩; refine ⟨_, rfl, ?_⟩; replace HO_4 := Aside0.mk (Kd.R_mono (ok' := fun k_ => some k_ ≠ (.slice Ao59 t420.length co59 : Value).ownBlock) (Kd.R_keptB (HO_4.out) hkp (fun k_ hk_ hs_ => (hk_) hs_)) (fun k_ hk_ => hk_.1)); replace HO_420000 := Aside0.mk (Kd.R_mono (ok' := fun k_ => some k_ ≠ (.slice Ao26 t434.length co26 : Value).ownBlock) (Kd.R_keptB ((Kd.R_apart' HO_420000.out (Kd.R_typed HO_7.out) (by decide))) hkp (fun k_ hk_ hs_ => (hk_.2) hs_)) (fun k_ hk_ => hk_.1.1)); replace HO_420001 := Aside0.mk (Kd.R_mono (ok' := fun k_ => some k_ ≠ (.slice Ao23 t433.length co23 : Value).ownBlock) (Kd.R_keptB ((Kd.R_apart' HO_420001.out (Kd.R_typed HO_7.out) (by decide))) hkp (fun k_ hk_ hs_ => (hk_.2) hs_)) (fun k_ hk_ => hk_.1.1)); replace BK401 := Aside0.mk (blk_kept (kb_ BK401.out) hkp (fun hs_ => (fun e_ => (Kd.R_ne HO_7.out BK401.out (by decide)) e_) hs_)); replace BK419 := Aside0.mk (blk_kept (kb_ BK419.out) hkp (fun hs_ => (fun e_ => (Kd.R_ne HO_7.out BK419.out (by decide)) e_) hs_)); replace HO_7 := Aside0.mk (Kd.R_reok rfl hy0 (fun k_ e_ => HO_7.out.1 k_ e_)); replace HB := Aside0.mk (hb); clear hb) | ((with_reducible refine gate_callee (f := 23) rfl ?_); refine goesL_ (some 67) rfl rfl Try.func23 (by kernel_rfl) rfl #[.slice Ao59 t437.length co59, .int .i64 1] rfl (by (try simp only [List.map_toArray, List.map_cons, List.map_nil]); first | done | (rw [show t437.length = t420.length from (Kd.R_reads' HO_7.out).1.symm] <;> rfl) | rfl | (simp only [List.length_drop, List.length_take]; rfl)) ?_; (with_reducible refine (laws_heldStringS.calls kj36 _ _ t437 1 t438 _ ?side1 ?side2 A53.out).mono ?_); (case side1 => exact kc_ (Kd.R_reads' HO_7.out).2.2); (case side2 => rw [show t437.length = t420.length from (Kd.R_reads' HO_7.out).1.symm]; exact (Kd.R_reads' HO_7.out).2.1); rintro e w61 ⟨rfl, hb⟩; refine ⟨_, rfl, ?_⟩; replace HO_4 := rb_ HO_4 hb; replace HO_7 := rb_ HO_7 hb; replace HO_420000 := rb_ HO_420000 hb; replace HO_420001 := rb_ HO_420001 hb; replace BK401 := bb_ BK401 hb; replace BK419 := bb_ BK419 hb; replace HB := Aside0.mk (below_step bl_ hb); clear hb; have hnb62 := NB401_419.out; have hnc62 := NB419_401.out; have hcz63_0 : w61.cell? ⟨gb401, 0, none⟩ = some (.slice A0_0 l0_0.length c0_0) := bc_ BK401.out 0; have hcz63_1 : w61.cell? ⟨gb401, 1, none⟩ = some (.slice A0_1 l0_1.length c0_1) := bc_ BK401.out 1; have hfz63_0 := blk_frozen BK401.out 0; have hfz63_1 := blk_frozen BK401.out 1) | ((with_reducible refine gate_callee (f := 10) rfl ?_); refine goesL_ (some 75) rfl rfl Try.func10 (by kernel_rfl) rfl #[.agg #[.slice A0_0 l0_0.length c0_0, .slice A0_1 l0_1.length c0_1]] rfl nc_ ?_; (with_reducible refine (laws_toBag.calls kj36 _ _ l0_0 _ _ l0_1 t439 t442 _ ?side1 ?side2 ?side3 ?side4 A56.out).mono ?_); (case side1 => exact kc_ (Kd.C_below HR0_0.out HB.out)); (case side2 => exact HC0_0.out); (case side3 => exact kc_ (Kd.C_below HR0_1.out HB.out)); (case side4 => exact HC0_1.out); rintro e w64 ⟨v440, v443, rfl, ho0, ho1, hb⟩; refine ⟨_, rfl, ?_⟩; replace HO_4 := rb_ HO_4 hb; replace HO_7 := rb_ HO_7 hb; have HO441 := Aside0.mk (Kd.R_lower (rn_ (rn_ ho0 HO_420000.out) HO_420001.out) bz_); have HO444 := Aside0.mk (Kd.R_lower (rn_ (rn_ ho1 HO_420000.out) HO_420001.out) bz_); replace HO_420000 := rp2_ HO_420000 hb ho0 ho1; replace HO_420001 := rp2_ HO_420001 hb ho0 ho1; replace BK401 := bb_ BK401 hb; replace BK419 := bb_ BK419 hb; replace HB := Aside0.mk (below_step bl_ hb); clear hb ho0 ho1; obtain ⟨Ao65, co65, eo65⟩ := Kd.R_slice HO441.out; subst eo65; obtain ⟨Ao66, co66, eo66⟩ := Kd.R_slice HO444.out; subst eo66) | ((with_reducible refine gate_callee (f := 20) rfl ?_); refine goesL_ (some 76) rfl rfl Try.func20 (by kernel_rfl) rfl #[.agg #[.slice Ao65 t439.length co65, .slice Ao66 t442.length co66]] rfl nc_ ?_; (with_reducible refine (impl_ValuesIn.calls kj36 _ _ t439 _ _ t442 t445 t448 _ ?side1 ?side2 ?side3 ?side4 A57.out).mono ?_); (case side1 => exact kc_ (Kd.R_reads' HO441.out).2.2); (case side2 => exact (Kd.R_reads' HO441.out).2.1); (case side3 => exact kc_ (Kd.R_reads' HO444.out).2.2); (case side4 => exact (Kd.R_reads' HO444.out).2.1); rintro e w67 ⟨v446, rfl, ho0, hb⟩; refine ⟨_, rfl, ?_⟩; replace HO_420000 := rb_ HO_420000 hb; replace HO_420001 := rb_ HO_420001 hb; replace HO441 := rb_ HO441 hb; replace HO444 := rb_ HO444 hb; have HO447 := Aside0.mk (Kd.R_lower (rn_ (rn_ ho0 HO_4.out) HO_7.out) bz_); replace HO_4 := Aside0.mk (Kd.R_elder' (kr_ HO_4.out) (Kd.R_base ho0) hb); replace HO_7 := Aside0.mk (Kd.R_elder' (kr_ HO_7.out) (Kd.R_base ho0) hb); replace BK401 := bb_ BK401 hb; replace BK419 := bb_ BK419 hb; replace HB := Aside0.mk (below_step bl_ hb); clear hb ho0))
 (try simp only [Act.put, List.setIfInBounds_toArray, List.set_cons_zero, List.set_cons_succ])
 go_cut [87] (fun v87 wc => ∃ (kq : Nat) (x87_57 : Bool), v87 = .bool x87_57 ∧ Aside0 (laws_FnExactValuesIn.j2 kq t437 t436 x87_57 = some r) ∧ Aside0 (kq ≤ kj36) ∧ Aside0 (Kd.R Kd.string 9 wc w.heap.size (fun _ => True) (.slice Ao59 t420.length co59) t437) ∧ Aside0 (Kd.R k48 48 wc w.heap.size (fun k_ => some k_ ≠ ((.slice Ao26 t434.length co26) : Value).ownBlock) (.slice Ao23 t433.length co23) t433) ∧ Aside0 (Kd.R k48 48 wc w.heap.size (fun k_ => some k_ ≠ ((.slice Ao23 t433.length co23) : Value).ownBlock) (.slice Ao26 t434.length co26) t434) ∧ Aside0 (wc.heap[gb401]? = some (.cells #[(.slice A0_0 l0_0.length c0_0), (.slice A0_1 l0_1.length c0_1)] 24 (0, 0))) ∧ Aside0 (wc.heap[gb419]? = some (.cells #[(.slice Ao23 t433.length co23), (.slice Ao26 t434.length co26)] 29 (0, 0))) ∧ Aside0 (Below w.heap.size w wc))
 case first =>
  have H := HC58.out
  clear HC58
  replace H := Option.bind_eq_some_iff.mp H
  obtain ⟨t449, A680, H⟩ := H
  replace H : (if t449 = true then (laws_FnExactValuesIn.j2 kj36 t437 t436 (t448 != t412)) else (none)) = some r := H
  have A68 := Aside0.mk A680
  clear A680
  by_cases c69 : t449 = true
  rotate_left
  ·replace c69 := Bool.eq_false_iff.mpr c69
   subst c69
   have H1 : (none) = some r := by rw [if_neg (show ¬ (false = true) by decide)] at H; exact H
   clear H
   have H := H1
   clear H1
   exact absurd H (by simp)
  subst c69
  have H1 : (laws_FnExactValuesIn.j2 kj36 t437 t436 (t448 != t412)) = some r := by rw [if_pos rfl] at H; exact H
  clear H
  have H := H1
  clear H1
  have H' := Aside0.mk H
  clear H
  obtain ⟨Ao70, co70, eo70⟩ := Kd.R_slice HO447.out
  subst eo70
  obtain ⟨Ao71, co71, eo71⟩ := Kd.R_slice HO_4.out
  subst eo71
  go_wp2_with (first | ((with_reducible refine gate_callee (f := 21) rfl ?_); refine goesL_ (some 81) rfl rfl Try.func21 (by kernel_rfl) rfl #[.slice Ao70 t445.length co70, .slice Ao71 t409.length co71] rfl nc_ ?_; (with_reducible refine (laws_eqStringS.calls kj36 _ _ t445 _ _ t409 true _ ?side1 ?side2 ?side3 ?side4 A68.out).mono ?_); (case side1 => exact kc_ (Kd.R_reads' HO447.out).2.2); (case side2 => exact (Kd.R_reads' HO447.out).2.1); (case side3 => exact kc_ (Kd.R_reads' HO_4.out).2.2); (case side4 => exact (Kd.R_reads' HO_4.out).2.1); rintro e w' ⟨rfl, ⟨nd, rfl⟩⟩; refine ⟨_, rfl, ?_⟩))
  go_meet
  case rel => exact ⟨_, ((t448 != t412)), (by first | rfl | (simp; done) | (simp [*]; done)), H', ⟨by have := HJ10.out; have := HJ36.out; first | omega | exact Nat.le_refl _⟩, ⟨by (try simp only [hl420000_36]); (try simp only [hl420001_36]); exact kr_ (Kd.R_mono HO_7.out (fun _ hk => trivial))⟩, ⟨by (try simp only [hl420000_36]); (try simp only [hl420001_36]); exact kr_ (Kd.R_mono HO_420000.out (fun _ hk => hk.1.1))⟩, ⟨by (try simp only [hl420000_36]); (try simp only [hl420001_36]); exact kr_ (Kd.R_mono HO_420001.out (fun _ hk => hk.1.1))⟩, ⟨by (try simp only [hl420000_36]); (try simp only [hl420001_36]); exact kb_ BK401.out⟩, ⟨by (try simp only [hl420000_36]); (try simp only [hl420001_36]); exact kb_ BK419.out⟩, ⟨bl_⟩⟩
 clear HC58
 try clear c1
 try clear c2
 try clear p2
 try clear c3
 try clear c3b0
 try clear c4
 try clear c5
 try clear c6
 try clear c8
 try clear c10
 try clear c12
 try clear c15
 try clear c19
 try clear c20
 try clear c21
 try clear c22
 try clear c23
 try clear c24
 try clear c29
 try clear c32
 try clear c35
 try clear c43
 try clear c46
 try clear c46b0
 try clear c48
 try clear c51
 try clear c54
 try clear c54b0
 try clear c55
 try clear c55b0
 try clear c55b1
 try clear c62
 try clear c69
 try clear hcz13_0
 try clear hcz13_1
 try clear hcz15_0
 try clear hcz15_1
 try clear hcz20_0
 try clear hcz20_1
 try clear hcz25_0
 try clear hcz25_1
 try clear hcz44_0
 try clear hcz44_1
 try clear hcz5_0
 try clear hcz5_1
 try clear hcz63_0
 try clear hcz63_1
 try clear hfz13_0
 try clear hfz13_1
 try clear hfz15_0
 try clear hfz15_1
 try clear hfz20_0
 try clear hfz20_1
 try clear hfz25_0
 try clear hfz25_1
 try clear hfz44_0
 try clear hfz44_1
 try clear hfz5_0
 try clear hfz5_1
 try clear hfz63_0
 try clear hfz63_1
 try clear p2
 obtain ⟨kq, x87_57, rfl, HA, HJ57, HO_7, HO_420000, HO_420001, BK401, BK419, HB⟩ := hcut
 have hl7_57 := (Kd.R_reads' HO_7.out).1
 rw [hl7_57] at HO_7
 (try simp only [hl7_57])
 (try simp only [hl7_57] at BK401)
 (try simp only [hl7_57] at BK419)
 (try simp only [hl7_57] at HO_420000)
 (try simp only [hl7_57] at HO_420001)
 cases kq with
 | zero => exact absurd HA.out (by simp [laws_FnExactValuesIn.j2])
 | succ kj57 => ?_
 have H := HA.out
 clear HA
 simp only [laws_FnExactValuesIn.j2] at H
 by_cases c72 : x87_57 = true
 ·subst c72
  have H1 : (none) = some r := by rw [if_pos rfl] at H; exact H
  clear H
  have H := H1
  clear H1
  exact absurd H (by simp)
 replace c72 := Bool.eq_false_iff.mpr c72
 subst c72
 have H1 : ((laws_heldStringS.f kj57 t437 1).bind fun t450 => (if t450 < 0 then (none) else (if t450 = t436 then (some true) else (none)))) = some r := by rw [if_neg (show ¬ (false = true) by decide)] at H; exact H
 clear H
 have H := H1
 clear H1
 replace H := Option.bind_eq_some_iff.mp H
 obtain ⟨t450, A730, H⟩ := H
 replace H : (if t450 < 0 then (none) else (if t450 = t436 then (some true) else (none))) = some r := H
 have A73 := Aside0.mk A730
 clear A730
 by_cases c74 : t450 < 0
 ·rw [if_pos c74] at H
  exact absurd H (by simp)
 rw [if_neg c74] at H
 have c74b0 : decide (t450 < 0) = false := decide_eq_false c74
 clear c74
 by_cases c75 : t450 = t436
 rotate_left
 ·rw [if_neg c75] at H
  exact absurd H (by simp)
 rw [if_pos c75] at H
 have c75b0 : (t450 == t436) = true := beq_iff_eq.mpr c75
 have c75b1 : (t450 != t436) = false := bne_eq_false_iff_eq.mpr c75
 clear c75
 obtain rfl := Option.some.inj H
 go_wp2_with (first | ((with_reducible refine gate_callee (f := 23) rfl ?_); refine goesL_ (some 90) rfl rfl Try.func23 (by kernel_rfl) rfl #[.slice Ao59 t437.length co59, .int .i64 1] rfl nc_ ?_; (with_reducible refine (laws_heldStringS.calls kj57 _ _ t437 1 t450 _ ?side1 ?side2 A73.out).mono ?_); (case side1 => exact kc_ (Kd.R_reads' HO_7.out).2.2); (case side2 => exact (Kd.R_reads' HO_7.out).2.1); rintro e w76 ⟨rfl, hb⟩; refine ⟨_, rfl, ?_⟩; replace HO_7 := rb_ HO_7 hb; replace HO_420000 := rb_ HO_420000 hb; replace HO_420001 := rb_ HO_420001 hb; replace BK401 := bb_ BK401 hb; replace BK419 := bb_ BK419 hb; replace HB := Aside0.mk (below_step bl_ hb); clear hb))
 go_ret
 exact ⟨ng_, bl_⟩

end Go.Proofs.Ytdnapgnnliibfaa.PVI
