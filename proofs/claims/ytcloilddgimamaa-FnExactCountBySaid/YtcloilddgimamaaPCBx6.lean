/- What this text proves: the machine calls of these functions return what the plain functions say. Conditions: as each theorem says. Printed by a program of this session out of the translation. -/
import Derived.Test.YtcloilddgimamaaPCBx0
import Derived.Test.YtcloilddgimamaaPCBx1
import Derived.Test.YtcloilddgimamaaPCBx3
import Derived.Test.YtcloilddgimamaaPCBx5
namespace Go.Proofs.Ytcloilddgimamaa.PCB
open Go.RowKit Go.Proofs.YtcloilddgimamaaW.PrintWords Go.Proofs.YtcloilddgimamaaW.PrintLast Go.Proofs.YtcloilddgimamaaW.PrintMore
attribute [local go_sem] max2_int min2_int max_two min_two max_three min_three max_four min_four   -- for this text's walks alone
set_option linter.unusedVariables false
set_option linter.unusedSimpArgs false

/-! ### laws_FnExactCountBy: function 8 -/
mutual
def laws_FnExactCountBy.j0 : Nat → Int → Int → Bool → Bool → Bool → List Int → List Int → List Int → List Int → List Int → List Int → List Int → List Int → Option (Bool)
 | 0, _, _, _, _, _, _, _, _, _, _, _, _, _ => none
 | k + 1, x1, x2, x9, x12, x48, x192000, x192001, x207000, x207001, x214000, x214001, x222000, x222001 => if x48 = true then (none) else ((laws_toCounter.f k x192000 x192001).bind fun bt223 => ((laws_eqCounter.f k x214000 x214001 bt223.1 bt223.2).bind fun t229 => (if t229 = true then ((laws_markCounter.f k x214000 x214001 1).bind fun bt230 => (if bt230.1 < 0 then (none) else ((laws_eqCounter.f k x222000 x222001 x207000 x207001).bind fun t233 => (if t233 = true then (laws_FnExactCountBy.j1 k x1 x2 x9 (x12 != x9) x192000 x192001 x207000 x207001 x222000 x222001) else (none))))) else (none))))
def laws_FnExactCountBy.j1 : Nat → Int → Int → Bool → Bool → List Int → List Int → List Int → List Int → List Int → List Int → Option (Bool)
 | 0, _, _, _, _, _, _, _, _, _, _ => none
 | k + 1, x1, x2, x9, x69, x192000, x192001, x207000, x207001, x222000, x222001 => if x69 = true then (none) else ((laws_markCounter.f k x222000 x222001 1).bind fun bt234 => ((laws_heldCounter.f k bt234.2.1 bt234.2.2 1).bind fun t237 => (if t237 < 0 then (none) else (if t237 = bt234.1 then ((laws_toCounter.f k x192000 x192001).bind fun bt238 => ((impl_CountBy.f k bt238.1 bt238.2 x1 x2).bind fun bt244 => ((laws_eqCounter.f k bt244.1 bt244.2.1 x207000 x207001).bind fun t252 => (if t252 = true then (laws_FnExactCountBy.j2 k bt234.1 (bt244.2.2 != x9) bt234.2.1 bt234.2.2) else (none))))) else (none)))))
def laws_FnExactCountBy.j2 : Nat → Int → Bool → List Int → List Int → Option (Bool)
 | 0, _, _, _, _ => none
 | k + 1, x14, x97, x222000, x222001 => if x97 = true then (none) else ((laws_heldCounter.f k x222000 x222001 1).bind fun t253 => (if t253 < 0 then (none) else (if t253 = x14 then (some true) else (none))))
end
def laws_FnExactCountBy.f (k : Nat) (l0_0 : List Int) (l0_1 : List Int) (a1 : Int) (a2 : Int) : Option (Bool) := (laws_szCounter.f l0_0 l0_1 1048576).bind fun t192 => (if t192 < 0 then (some true) else ((laws_toCounter.f k l0_0 l0_1).bind fun bt193 => ((spec_CountBy.f k bt193.1 bt193.2 a1 a2).bind fun bt199 => ((laws_toCounter.f k l0_0 l0_1).bind fun bt207 => ((impl_CountBy.f k bt207.1 bt207.2 a1 a2).bind fun bt214 => ((laws_eqCounter.f k bt214.1 bt214.2.1 bt199.1 bt199.2.1).bind fun t222 => (if t222 = true then (laws_FnExactCountBy.j0 k a1 a2 bt199.2.2 bt214.2.2 (bt214.2.2 != bt199.2.2) l0_0 l0_1 bt199.1 bt199.2.1 bt207.1 bt207.2 bt214.1 bt214.2.1) else (none))))))))
theorem laws_FnExactCountBy.mono_l : ∀ k, (∀ y0 y1 y2 y3 y4 y5 y6 y7 y8 y9 y10 y11 y12, LeO (laws_FnExactCountBy.j0 k y0 y1 y2 y3 y4 y5 y6 y7 y8 y9 y10 y11 y12) (laws_FnExactCountBy.j0 (k + 1) y0 y1 y2 y3 y4 y5 y6 y7 y8 y9 y10 y11 y12)) ∧ (∀ y0 y1 y2 y3 y4 y5 y6 y7 y8 y9, LeO (laws_FnExactCountBy.j1 k y0 y1 y2 y3 y4 y5 y6 y7 y8 y9) (laws_FnExactCountBy.j1 (k + 1) y0 y1 y2 y3 y4 y5 y6 y7 y8 y9)) ∧ (∀ y0 y1 y2 y3, LeO (laws_FnExactCountBy.j2 k y0 y1 y2 y3) (laws_FnExactCountBy.j2 (k + 1) y0 y1 y2 y3))
 | 0 => ⟨fun _ _ _ _ _ _ _ _ _ _ _ _ _ r h => by simp [laws_FnExactCountBy.j0] at h, fun _ _ _ _ _ _ _ _ _ _ r h => by simp [laws_FnExactCountBy.j1] at h, fun _ _ _ _ r h => by simp [laws_FnExactCountBy.j2] at h⟩
 | k + 1 => by
  obtain ⟨ih0, ih1, ih2⟩ := laws_FnExactCountBy.mono_l k
  refine ⟨?_, ?_, ?_⟩
  ·intro y0 y1 y2 y3 y4 y5 y6 y7 y8 y9 y10 y11 y12
   unfold laws_FnExactCountBy.j0
   repeat' first
   | (with_reducible exact ih0 _ _ _ _ _ _ _ _ _ _ _ _ _)
   | (with_reducible exact ih1 _ _ _ _ _ _ _ _ _ _)
   | (with_reducible exact ih2 _ _ _ _)
   | (with_reducible exact impl_CountBy.mono _ _ _ _ _)
   | (with_reducible exact laws_eqCounter.mono _ _ _ _ _)
   | (with_reducible exact laws_heldCounter.mono _ _ _ _)
   | (with_reducible exact laws_markCounter.mono _ _ _ _)
   | (with_reducible exact laws_toCounter.mono _ _ _)
   | (with_reducible exact spec_CountBy.mono _ _ _ _ _)
   | (with_reducible exact LeO.refl _)
   | (with_reducible exact LeO.none _)
   | (with_reducible refine LeO.ite ?_ ?_)
   | (with_reducible refine LeO.bind ?_ (fun _ => ?_))
   | exact ih0 _ _ _ _ _ _ _ _ _ _ _ _ _
   | exact ih1 _ _ _ _ _ _ _ _ _ _
   | exact ih2 _ _ _ _
   | exact impl_CountBy.mono _ _ _ _ _
   | exact laws_eqCounter.mono _ _ _ _ _
   | exact laws_heldCounter.mono _ _ _ _
   | exact laws_markCounter.mono _ _ _ _
   | exact laws_toCounter.mono _ _ _
   | exact spec_CountBy.mono _ _ _ _ _
   | exact LeO.none _
   | refine LeO.ite ?_ ?_
   | refine LeO.bind ?_ (fun _ => ?_)
  ·intro y0 y1 y2 y3 y4 y5 y6 y7 y8 y9
   unfold laws_FnExactCountBy.j1
   repeat' first
   | (with_reducible exact ih0 _ _ _ _ _ _ _ _ _ _ _ _ _)
   | (with_reducible exact ih1 _ _ _ _ _ _ _ _ _ _)
   | (with_reducible exact ih2 _ _ _ _)
   | (with_reducible exact impl_CountBy.mono _ _ _ _ _)
   | (with_reducible exact laws_eqCounter.mono _ _ _ _ _)
   | (with_reducible exact laws_heldCounter.mono _ _ _ _)
   | (with_reducible exact laws_markCounter.mono _ _ _ _)
   | (with_reducible exact laws_toCounter.mono _ _ _)
   | (with_reducible exact spec_CountBy.mono _ _ _ _ _)
   | (with_reducible exact LeO.refl _)
   | (with_reducible exact LeO.none _)
   | (with_reducible refine LeO.ite ?_ ?_)
   | (with_reducible refine LeO.bind ?_ (fun _ => ?_))
   | exact ih0 _ _ _ _ _ _ _ _ _ _ _ _ _
   | exact ih1 _ _ _ _ _ _ _ _ _ _
   | exact ih2 _ _ _ _
   | exact impl_CountBy.mono _ _ _ _ _
   | exact laws_eqCounter.mono _ _ _ _ _
   | exact laws_heldCounter.mono _ _ _ _
   | exact laws_markCounter.mono _ _ _ _
   | exact laws_toCounter.mono _ _ _
   | exact spec_CountBy.mono _ _ _ _ _
   | exact LeO.none _
   | refine LeO.ite ?_ ?_
   | refine LeO.bind ?_ (fun _ => ?_)
  ·intro y0 y1 y2 y3
   unfold laws_FnExactCountBy.j2
   repeat' first
   | (with_reducible exact ih0 _ _ _ _ _ _ _ _ _ _ _ _ _)
   | (with_reducible exact ih1 _ _ _ _ _ _ _ _ _ _)
   | (with_reducible exact ih2 _ _ _ _)
   | (with_reducible exact impl_CountBy.mono _ _ _ _ _)
   | (with_reducible exact laws_eqCounter.mono _ _ _ _ _)
   | (with_reducible exact laws_heldCounter.mono _ _ _ _)
   | (with_reducible exact laws_markCounter.mono _ _ _ _)
   | (with_reducible exact laws_toCounter.mono _ _ _)
   | (with_reducible exact spec_CountBy.mono _ _ _ _ _)
   | (with_reducible exact LeO.refl _)
   | (with_reducible exact LeO.none _)
   | (with_reducible refine LeO.ite ?_ ?_)
   | (with_reducible refine LeO.bind ?_ (fun _ => ?_))
   | exact ih0 _ _ _ _ _ _ _ _ _ _ _ _ _
   | exact ih1 _ _ _ _ _ _ _ _ _ _
   | exact ih2 _ _ _ _
   | exact impl_CountBy.mono _ _ _ _ _
   | exact laws_eqCounter.mono _ _ _ _ _
   | exact laws_heldCounter.mono _ _ _ _
   | exact laws_markCounter.mono _ _ _ _
   | exact laws_toCounter.mono _ _ _
   | exact spec_CountBy.mono _ _ _ _ _
   | exact LeO.none _
   | refine LeO.ite ?_ ?_
   | refine LeO.bind ?_ (fun _ => ?_)
theorem laws_FnExactCountBy.mono : ∀ a0 a1 a2 a3 k, LeO (laws_FnExactCountBy.f k a0 a1 a2 a3) (laws_FnExactCountBy.f (k + 1) a0 a1 a2 a3) := by
 intro a0 a1 a2 a3 k
 obtain ⟨ih0, ih1, ih2⟩ := laws_FnExactCountBy.mono_l k
 unfold laws_FnExactCountBy.f
 repeat' first
   | (with_reducible exact ih0 _ _ _ _ _ _ _ _ _ _ _ _ _)
   | (with_reducible exact ih1 _ _ _ _ _ _ _ _ _ _)
   | (with_reducible exact ih2 _ _ _ _)
   | (with_reducible exact impl_CountBy.mono _ _ _ _ _)
   | (with_reducible exact laws_eqCounter.mono _ _ _ _ _)
   | (with_reducible exact laws_heldCounter.mono _ _ _ _)
   | (with_reducible exact laws_markCounter.mono _ _ _ _)
   | (with_reducible exact laws_toCounter.mono _ _ _)
   | (with_reducible exact spec_CountBy.mono _ _ _ _ _)
   | (with_reducible exact LeO.refl _)
   | (with_reducible exact LeO.none _)
   | (with_reducible refine LeO.ite ?_ ?_)
   | (with_reducible refine LeO.bind ?_ (fun _ => ?_))
   | exact ih0 _ _ _ _ _ _ _ _ _ _ _ _ _
   | exact ih1 _ _ _ _ _ _ _ _ _ _
   | exact ih2 _ _ _ _
   | exact impl_CountBy.mono _ _ _ _ _
   | exact laws_eqCounter.mono _ _ _ _ _
   | exact laws_heldCounter.mono _ _ _ _
   | exact laws_markCounter.mono _ _ _ _
   | exact laws_toCounter.mono _ _ _
   | exact spec_CountBy.mono _ _ _ _ _
   | exact LeO.none _
   | refine LeO.ite ?_ ?_
   | refine LeO.bind ?_ (fun _ => ?_)
set_option maxHeartbeats 8000000 in
set_option maxRecDepth 100000 in
theorem laws_FnExactCountBy.calls (k : Nat) (A0_0 : Option Addr) (c0_0 : Nat) (l0_0 : List Int) (A0_1 : Option Addr) (c0_1 : Nat) (l0_1 : List Int) (a1 : Int) (a2 : Int) (r : Bool) (w : World) (hr0_0 : Kd.C (Kd.int .i64) w A0_0 l0_0.length l0_0) (hc0_0 : l0_0.length ≤ c0_0) (hr0_1 : Kd.C (Kd.int .i64) w A0_1 l0_1.length l0_1) (hc0_1 : l0_1.length ≤ c0_1) (h : laws_FnExactCountBy.f k l0_0 l0_1 a1 a2 = some r) :
  Calls Try.prog 8 #[.agg #[.slice A0_0 l0_0.length c0_0, .slice A0_1 l0_1.length c0_1], .int .i64 a1, .int .i64 a2] w fun e w' => e = .returned (.bool r) ∧ Below w.heap.size w w' := by
 have hu24 := Try.underlying24
 have hu27 := Try.underlying27
 have HR0_0 := Aside0.mk hr0_0
 have HC0_0 := Aside0.mk hc0_0
 clear hr0_0 hc0_0
 have HR0_1 := Aside0.mk hr0_1
 have HC0_1 := Aside0.mk hc0_1
 clear hr0_1 hc0_1
 have HB := Aside0.mk (Below.refl w.heap.size w)
 have H : ((laws_szCounter.f l0_0 l0_1 1048576).bind fun t192 => (if t192 < 0 then (some true) else ((laws_toCounter.f k l0_0 l0_1).bind fun bt193 => ((spec_CountBy.f k bt193.1 bt193.2 a1 a2).bind fun bt199 => ((laws_toCounter.f k l0_0 l0_1).bind fun bt207 => ((impl_CountBy.f k bt207.1 bt207.2 a1 a2).bind fun bt214 => ((laws_eqCounter.f k bt214.1 bt214.2.1 bt199.1 bt199.2.1).bind fun t222 => (if t222 = true then (laws_FnExactCountBy.j0 k a1 a2 bt199.2.2 bt214.2.2 (bt214.2.2 != bt199.2.2) l0_0 l0_1 bt199.1 bt199.2.1 bt207.1 bt207.2 bt214.1 bt214.2.1) else (none))))))))) = some r := h
 clear h
 replace H := Option.bind_eq_some_iff.mp H
 obtain ⟨t192, A40, H⟩ := H
 replace H : (if t192 < 0 then (some true) else ((laws_toCounter.f k l0_0 l0_1).bind fun bt193 => ((spec_CountBy.f k bt193.1 bt193.2 a1 a2).bind fun bt199 => ((laws_toCounter.f k l0_0 l0_1).bind fun bt207 => ((impl_CountBy.f k bt207.1 bt207.2 a1 a2).bind fun bt214 => ((laws_eqCounter.f k bt214.1 bt214.2.1 bt199.1 bt199.2.1).bind fun t222 => (if t222 = true then (laws_FnExactCountBy.j0 k a1 a2 bt199.2.2 bt214.2.2 (bt214.2.2 != bt199.2.2) l0_0 l0_1 bt199.1 bt199.2.1 bt207.1 bt207.2 bt214.1 bt214.2.1) else (none)))))))) = some r := H
 have A4 := Aside0.mk A40
 clear A40
 by_cases c5 : t192 < 0
 ·rw [if_pos c5] at H
  have c5b0 : decide (t192 < 0) = true := decide_eq_true c5
  clear c5
  obtain rfl := Option.some.inj H
  go_enter Try.func8, Try.ntmps8
  go_wp2_with (first | ((with_reducible refine gate_dst (N := 3) rfl ?_); refine box_event rfl (N := 3) rfl (cs := #[.slice A0_0 l0_0.length c0_0, .slice A0_1 l0_1.length c0_1]) (t := 24) gs_ ?_; intro gb191 hg w6 hbox hb; have BK191 := Aside0.mk (hbox); have GW191 := Aside0.mk ((by rw [hg]; exact bz_ : w.heap.size ≤ gb191)); have GE191 := GW191; replace HB := Aside0.mk (below_step bl_ hb); clear hb hbox hg; have hcz7_0 : w6.cell? ⟨gb191, 0, none⟩ = some (.slice A0_0 l0_0.length c0_0) := bc_ BK191.out 0; have hcz7_1 : w6.cell? ⟨gb191, 1, none⟩ = some (.slice A0_1 l0_1.length c0_1) := bc_ BK191.out 1; have hfz7_0 := blk_frozen BK191.out 0; have hfz7_1 := blk_frozen BK191.out 1) | ((with_reducible refine gate_callee (f := 10) rfl ?_); refine goesL_ (some 20) rfl rfl Try.func10 (by kernel_rfl) rfl #[.agg #[.slice A0_0 l0_0.length c0_0, .slice A0_1 l0_1.length c0_1], .int .i64 1048576] rfl nc_ ?_; (with_reducible refine (laws_szCounter.calls _ _ l0_0 _ _ l0_1 1048576 t192 _ ?side1 ?side2 ?side3 ?side4 A4.out).mono ?_); (case side1 => exact kc_ (Kd.C_below HR0_0.out HB.out)); (case side2 => exact HC0_0.out); (case side3 => exact kc_ (Kd.C_below HR0_1.out HB.out)); (case side4 => exact HC0_1.out); rintro e w8 ⟨rfl, hb⟩; refine ⟨_, rfl, ?_⟩; replace BK191 := bb_ BK191 hb; replace HB := Aside0.mk (below_step bl_ hb); clear hb))
  go_ret
  exact ⟨ng_, bl_⟩
 rw [if_neg c5] at H
 have c5b0 : decide (t192 < 0) = false := decide_eq_false c5
 clear c5
 replace H := Option.bind_eq_some_iff.mp H
 obtain ⟨⟨t193, t196⟩, A90, H⟩ := H
 replace H : ((spec_CountBy.f k t193 t196 a1 a2).bind fun bt199 => ((laws_toCounter.f k l0_0 l0_1).bind fun bt207 => ((impl_CountBy.f k bt207.1 bt207.2 a1 a2).bind fun bt214 => ((laws_eqCounter.f k bt214.1 bt214.2.1 bt199.1 bt199.2.1).bind fun t222 => (if t222 = true then (laws_FnExactCountBy.j0 k a1 a2 bt199.2.2 bt214.2.2 (bt214.2.2 != bt199.2.2) l0_0 l0_1 bt199.1 bt199.2.1 bt207.1 bt207.2 bt214.1 bt214.2.1) else (none)))))) = some r := H
 have A9 := Aside0.mk A90
 clear A90
 replace H := Option.bind_eq_some_iff.mp H
 obtain ⟨⟨t199, t202, t205⟩, A100, H⟩ := H
 replace H : ((laws_toCounter.f k l0_0 l0_1).bind fun bt207 => ((impl_CountBy.f k bt207.1 bt207.2 a1 a2).bind fun bt214 => ((laws_eqCounter.f k bt214.1 bt214.2.1 t199 t202).bind fun t222 => (if t222 = true then (laws_FnExactCountBy.j0 k a1 a2 t205 bt214.2.2 (bt214.2.2 != t205) l0_0 l0_1 t199 t202 bt207.1 bt207.2 bt214.1 bt214.2.1) else (none))))) = some r := H
 have A10 := Aside0.mk A100
 clear A100
 replace H := Option.bind_eq_some_iff.mp H
 obtain ⟨⟨t207, t210⟩, A110, H⟩ := H
 replace H : ((impl_CountBy.f k t207 t210 a1 a2).bind fun bt214 => ((laws_eqCounter.f k bt214.1 bt214.2.1 t199 t202).bind fun t222 => (if t222 = true then (laws_FnExactCountBy.j0 k a1 a2 t205 bt214.2.2 (bt214.2.2 != t205) l0_0 l0_1 t199 t202 t207 t210 bt214.1 bt214.2.1) else (none)))) = some r := H
 have A11 := Aside0.mk A110
 clear A110
 replace H := Option.bind_eq_some_iff.mp H
 obtain ⟨⟨t214, t217, t220⟩, A120, H⟩ := H
 replace H : ((laws_eqCounter.f k t214 t217 t199 t202).bind fun t222 => (if t222 = true then (laws_FnExactCountBy.j0 k a1 a2 t205 t220 (t220 != t205) l0_0 l0_1 t199 t202 t207 t210 t214 t217) else (none))) = some r := H
 have A12 := Aside0.mk A120
 clear A120
 have HC13 := Aside0.mk H
 clear H
 go_enter Try.func8, Try.ntmps8
 go_upto_region 8 with (first | ((with_reducible refine gate_dst (N := 3) rfl ?_); refine box_event rfl (N := 3) rfl (cs := #[.slice A0_0 l0_0.length c0_0, .slice A0_1 l0_1.length c0_1]) (t := 24) gs_ ?_; intro gb191 hg w14 hbox hb; have BK191 := Aside0.mk (hbox); have GW191 := Aside0.mk ((by rw [hg]; exact bz_ : w.heap.size ≤ gb191)); have GE191 := GW191; replace HB := Aside0.mk (below_step bl_ hb); clear hb hbox hg; have hcz15_0 : w14.cell? ⟨gb191, 0, none⟩ = some (.slice A0_0 l0_0.length c0_0) := bc_ BK191.out 0; have hcz15_1 : w14.cell? ⟨gb191, 1, none⟩ = some (.slice A0_1 l0_1.length c0_1) := bc_ BK191.out 1; have hfz15_0 := blk_frozen BK191.out 0; have hfz15_1 := blk_frozen BK191.out 1) | ((with_reducible refine gate_callee (f := 10) rfl ?_); refine goesL_ (some 20) rfl rfl Try.func10 (by kernel_rfl) rfl #[.agg #[.slice A0_0 l0_0.length c0_0, .slice A0_1 l0_1.length c0_1], .int .i64 1048576] rfl nc_ ?_; (with_reducible refine (laws_szCounter.calls _ _ l0_0 _ _ l0_1 1048576 t192 _ ?side1 ?side2 ?side3 ?side4 A4.out).mono ?_); (case side1 => exact kc_ (Kd.C_below HR0_0.out HB.out)); (case side2 => exact HC0_0.out); (case side3 => exact kc_ (Kd.C_below HR0_1.out HB.out)); (case side4 => exact HC0_1.out); rintro e w16 ⟨rfl, hb⟩; refine ⟨_, rfl, ?_⟩; replace BK191 := bb_ BK191 hb; replace HB := Aside0.mk (below_step bl_ hb); clear hb; have hcz17_0 : w16.cell? ⟨gb191, 0, none⟩ = some (.slice A0_0 l0_0.length c0_0) := bc_ BK191.out 0; have hcz17_1 : w16.cell? ⟨gb191, 1, none⟩ = some (.slice A0_1 l0_1.length c0_1) := bc_ BK191.out 1; have hfz17_0 := blk_frozen BK191.out 0; have hfz17_1 := blk_frozen BK191.out 1) | ((with_reducible refine gate_callee (f := 12) rfl ?_); refine goesL_ (some 25) rfl rfl Try.func12 (by kernel_rfl) rfl #[.agg #[.slice A0_0 l0_0.length c0_0, .slice A0_1 l0_1.length c0_1]] rfl nc_ ?_; (with_reducible refine (laws_toCounter.calls k _ _ l0_0 _ _ l0_1 t193 t196 _ ?side1 ?side2 ?side3 ?side4 A9.out).mono ?_); (case side1 => exact kc_ (Kd.C_below HR0_0.out HB.out)); (case side2 => exact HC0_0.out); (case side3 => exact kc_ (Kd.C_below HR0_1.out HB.out)); (case side4 => exact HC0_1.out); rintro e w18 ⟨v194, v197, rfl, ho0, ho1, hb⟩; refine ⟨_, rfl, ?_⟩; have HO195 := Aside0.mk (Kd.R_lower ho0 bz_); have HO198 := Aside0.mk (Kd.R_lower ho1 bz_); replace BK191 := bb_ BK191 hb; replace HB := Aside0.mk (below_step bl_ hb); clear hb ho0 ho1; obtain ⟨Ao19, co19, eo19⟩ := Kd.R_slice HO195.out; subst eo19; obtain ⟨Ao20, co20, eo20⟩ := Kd.R_slice HO198.out; subst eo20) | ((with_reducible refine gate_callee (f := 27) rfl ?_); refine goesL_ (some 28) rfl rfl Try.func27 (by kernel_rfl) rfl #[.agg #[.slice Ao19 t193.length co19, .slice Ao20 t196.length co20], .int .i64 a1, .int .i64 a2] rfl nc_ ?_; (with_reducible refine (spec_CountBy.calls k _ _ t193 _ _ t196 a1 a2 t199 t202 t205 _ ?side1 ?side2 ?side3 ?side4 A10.out).mono ?_); (case side1 => exact kc_ (Kd.R_reads' HO195.out).2.2); (case side2 => exact (Kd.R_reads' HO195.out).2.1); (case side3 => exact kc_ (Kd.R_reads' HO198.out).2.2); (case side4 => exact (Kd.R_reads' HO198.out).2.1); rintro e w21 ⟨v200, v203, rfl, ho0, ho1, hb⟩; refine ⟨_, rfl, ?_⟩; have HO201 := Aside0.mk (Kd.R_lower (rn_ (rn_ ho0 HO195.out) HO198.out) bz_); have HO204 := Aside0.mk (Kd.R_lower (rn_ (rn_ ho1 HO195.out) HO198.out) bz_); replace HO195 := rp2_ HO195 hb ho0 ho1; replace HO198 := rp2_ HO198 hb ho0 ho1; replace BK191 := bb_ BK191 hb; replace HB := Aside0.mk (below_step bl_ hb); clear hb ho0 ho1) | ((with_reducible refine gate_dst (N := 8) rfl ?_); refine box_event rfl (N := 8) rfl (cs := #[.slice none 0 0, .slice none 0 0]) (t := 27) gs_ ?_; intro gb206 hg w22 hbox hb; replace HO195 := rb_ HO195 hb; replace HO198 := rb_ HO198 hb; replace HO201 := rb_ HO201 hb; replace HO204 := rb_ HO204 hb; have BK206 := Aside0.mk (hbox); have GW206 := Aside0.mk ((by rw [hg]; exact bz_ : w.heap.size ≤ gb206)); have GE206 := GW206; replace HB := Aside0.mk (below_step bl_ hb); have NB191_206 := nl_ hg BK191; have NB206_191 := nm_ hg BK191; replace BK191 := bb_ BK191 hb; clear hb hbox hg; obtain ⟨Ao23, co23, eo23⟩ := Kd.R_slice HO201.out; subst eo23; have hnb24 := NB206_191.out; have hnc24 := NB191_206.out; have hcz25_0 : w22.cell? ⟨gb206, 0, none⟩ = some (.slice none 0 0) := bc_ BK206.out 0; have hcz25_1 : w22.cell? ⟨gb206, 1, none⟩ = some (.slice none 0 0) := bc_ BK206.out 1; have hfz25_0 := blk_frozen BK206.out 0; have hfz25_1 := blk_frozen BK206.out 1; obtain ⟨Ao26, co26, eo26⟩ := Kd.R_slice HO204.out; subst eo26; have hcz27_0 : w22.cell? ⟨gb191, 0, none⟩ = some (.slice A0_0 l0_0.length c0_0) := bc_ BK191.out 0; have hcz27_1 : w22.cell? ⟨gb191, 1, none⟩ = some (.slice A0_1 l0_1.length c0_1) := bc_ BK191.out 1; have hfz27_0 := blk_frozen BK191.out 0; have hfz27_1 := blk_frozen BK191.out 1) | ((with_reducible refine gate_callee (f := 12) rfl ?_); refine goesL_ (some 32) rfl rfl Try.func12 (by kernel_rfl) rfl #[.agg #[.slice A0_0 l0_0.length c0_0, .slice A0_1 l0_1.length c0_1]] rfl nc_ ?_; (with_reducible refine (laws_toCounter.calls k _ _ l0_0 _ _ l0_1 t207 t210 _ ?side1 ?side2 ?side3 ?side4 A11.out).mono ?_); (case side1 => exact Kd.C_below HR0_0.out bl_); (case side2 => exact HC0_0.out); (case side3 => exact Kd.C_below HR0_1.out bl_); (case side4 => exact HC0_1.out); rintro e w28 ⟨v208, v211, rfl, ho0, ho1, hb⟩; refine ⟨_, rfl, ?_⟩; have HO209 := Aside0.mk (Kd.R_lower (rn_ (rn_ (rn_ (rn_ ho0 (rs2_ HO195.out BK206.out (.slice Ao23 t199.length co23) (.slice Ao26 t202.length co26))) (rs2_ HO198.out BK206.out (.slice Ao23 t199.length co23) (.slice Ao26 t202.length co26))) (rs2_ HO201.out BK206.out (.slice Ao23 t199.length co23) (.slice Ao26 t202.length co26))) (rs2_ HO204.out BK206.out (.slice Ao23 t199.length co23) (.slice Ao26 t202.length co26))) bz_); have HO212 := Aside0.mk (Kd.R_lower (rn_ (rn_ (rn_ (rn_ ho1 (rs2_ HO195.out BK206.out (.slice Ao23 t199.length co23) (.slice Ao26 t202.length co26))) (rs2_ HO198.out BK206.out (.slice Ao23 t199.length co23) (.slice Ao26 t202.length co26))) (rs2_ HO201.out BK206.out (.slice Ao23 t199.length co23) (.slice Ao26 t202.length co26))) (rs2_ HO204.out BK206.out (.slice Ao23 t199.length co23) (.slice Ao26 t202.length co26))) bz_); replace HO195 := Aside0.mk (ro2_ (rs2_ HO195.out BK206.out (.slice Ao23 t199.length co23) (.slice Ao26 t202.length co26)) hb (Kd.R_base ho0) (Kd.R_base ho1)); replace HO198 := Aside0.mk (ro2_ (rs2_ HO198.out BK206.out (.slice Ao23 t199.length co23) (.slice Ao26 t202.length co26)) hb (Kd.R_base ho0) (Kd.R_base ho1)); replace HO201 := Aside0.mk (ro2_ (rs2_ HO201.out BK206.out (.slice Ao23 t199.length co23) (.slice Ao26 t202.length co26)) hb (Kd.R_base ho0) (Kd.R_base ho1)); replace HO204 := Aside0.mk (ro2_ (rs2_ HO204.out BK206.out (.slice Ao23 t199.length co23) (.slice Ao26 t202.length co26)) hb (Kd.R_base ho0) (Kd.R_base ho1)); replace BK191 := Aside0.mk (blk_below (g := gb191) (o := .cells #[.slice A0_0 l0_0.length c0_0, .slice A0_1 l0_1.length c0_1] 24 (0, 0)) kz_ hb); replace BK206 := Aside0.mk (blk_below (g := gb206) (o := .cells #[.slice Ao23 t199.length co23, .slice Ao26 t202.length co26] 27 (0, 0)) (by (with_reducible repeat (first | refine blk_drewN ?_ _ | refine blk_drew ?_ | refine blk_alloc ?_ _)); refine blk_put (cs := #[.slice Ao23 t199.length co23, .slice none 0 0]) ?_ 1 _ rfl; (with_reducible repeat (first | refine blk_drewN ?_ _ | refine blk_drew ?_ | refine blk_alloc ?_ _)); refine blk_put (cs := #[.slice none 0 0, .slice none 0 0]) ?_ 0 _ rfl; exact kb_ BK206.out) hb); replace HB := Aside0.mk (below_step bl_ hb); clear hb ho0 ho1) | ((with_reducible refine gate_dst (N := 10) rfl ?_); refine box_event rfl (N := 10) rfl (cs := #[.slice none 0 0, .slice none 0 0]) (t := 27) gs_ ?_; intro gb213 hg w29 hbox hb; replace HO195 := rb_ HO195 hb; replace HO198 := rb_ HO198 hb; replace HO201 := rb_ HO201 hb; replace HO204 := rb_ HO204 hb; replace HO209 := rb_ HO209 hb; replace HO212 := rb_ HO212 hb; have BK213 := Aside0.mk (hbox); have GW213 := Aside0.mk ((by rw [hg]; exact bz_ : w.heap.size ≤ gb213)); have GE213 := GW213; replace HB := Aside0.mk (below_step bl_ hb); have NB191_213 := nl_ hg BK191; have NB213_191 := nm_ hg BK191; replace BK191 := bb_ BK191 hb; have NB206_213 := nl_ hg BK206; have NB213_206 := nm_ hg BK206; replace BK206 := bb_ BK206 hb; clear hb hbox hg; obtain ⟨Ao30, co30, eo30⟩ := Kd.R_slice HO209.out; subst eo30; have hnb31 := NB213_191.out; have hnc31 := NB191_213.out; have hnb32 := NB213_206.out; have hnc32 := NB206_213.out; have hcz33_0 : w29.cell? ⟨gb213, 0, none⟩ = some (.slice none 0 0) := bc_ BK213.out 0; have hcz33_1 : w29.cell? ⟨gb213, 1, none⟩ = some (.slice none 0 0) := bc_ BK213.out 1; have hfz33_0 := blk_frozen BK213.out 0; have hfz33_1 := blk_frozen BK213.out 1; obtain ⟨Ao34, co34, eo34⟩ := Kd.R_slice HO212.out; subst eo34) | ((with_reducible refine gate_callee (f := 28) rfl ?_); refine goesL_ (some 37) rfl rfl Try.func28 (by kernel_rfl) rfl #[.agg #[.slice Ao30 t207.length co30, .slice Ao34 t210.length co34], .int .i64 a1, .int .i64 a2] rfl nc_ ?_; (with_reducible refine (impl_CountBy.calls k _ _ t207 _ _ t210 a1 a2 t214 t217 t220 _ ?side1 ?side2 ?side3 ?side4 A12.out).mono ?_); (case side1 => refine (Kd.R_reads' (e := 3) (base := w.heap.size) (ok := fun k_ => ((((some k_ ≠ (.slice Ao34 t210.length co34 : Value).ownBlock ∧ some k_ ≠ (.slice Ao19 t193.length co19 : Value).ownBlock) ∧ some k_ ≠ (.slice Ao20 t196.length co20 : Value).ownBlock) ∧ some k_ ≠ (.slice Ao23 t199.length co23 : Value).ownBlock) ∧ some k_ ≠ (.slice Ao26 t202.length co26 : Value).ownBlock)) (n := t207.length) (c := co30) ?_).2.2; exact (kr_ (rs2_ HO209.out BK213.out (.slice Ao30 t207.length co30) (.slice Ao34 t210.length co34)))); (case side2 => exact (Kd.R_reads' HO209.out).2.1); (case side3 => refine (Kd.R_reads' (e := 3) (base := w.heap.size) (ok := fun k_ => ((((some k_ ≠ (.slice Ao30 t207.length co30 : Value).ownBlock ∧ some k_ ≠ (.slice Ao19 t193.length co19 : Value).ownBlock) ∧ some k_ ≠ (.slice Ao20 t196.length co20 : Value).ownBlock) ∧ some k_ ≠ (.slice Ao23 t199.length co23 : Value).ownBlock) ∧ some k_ ≠ (.slice Ao26 t202.length co26 : Value).ownBlock)) (n := t210.length) (c := co34) ?_).2.2; exact (kr_ (rs2_ HO212.out BK213.out (.slice Ao30 t207.length co30) (.slice Ao34 t210.length co34)))); (case side4 => exact (Kd.R_reads' HO212.out).2.1); rintro e w35 ⟨v215, v218, rfl, ho0, ho1, hb⟩; refine ⟨_, rfl, ?_⟩; have HO216 := Aside0.mk (Kd.R_lower (rn_ (rn_ (rn_ (rn_ (rn_ (rn_ ho0 (rs2_ HO195.out BK213.out (.slice Ao30 t207.length co30) (.slice Ao34 t210.length co34))) (rs2_ HO198.out BK213.out (.slice Ao30 t207.length co30) (.slice Ao34 t210.length co34))) (rs2_ HO201.out BK213.out (.slice Ao30 t207.length co30) (.slice Ao34 t210.length co34))) (rs2_ HO204.out BK213.out (.slice Ao30 t207.length co30) (.slice Ao34 t210.length co34))) (rs2_ HO209.out BK213.out (.slice Ao30 t207.length co30) (.slice Ao34 t210.length co34))) (rs2_ HO212.out BK213.out (.slice Ao30 t207.length co30) (.slice Ao34 t210.length co34))) bz_); have HO219 := Aside0.mk (Kd.R_lower (rn_ (rn_ (rn_ (rn_ (rn_ (rn_ ho1 (rs2_ HO195.out BK213.out (.slice Ao30 t207.length co30) (.slice Ao34 t210.length co34))) (rs2_ HO198.out BK213.out (.slice Ao30 t207.length co30) (.slice Ao34 t210.length co34))) (rs2_ HO201.out BK213.out (.slice Ao30 t207.length co30) (.slice Ao34 t210.length co34))) (rs2_ HO204.out BK213.out (.slice Ao30 t207.length co30) (.slice Ao34 t210.length co34))) (rs2_ HO209.out BK213.out (.slice Ao30 t207.length co30) (.slice Ao34 t210.length co34))) (rs2_ HO212.out BK213.out (.slice Ao30 t207.length co30) (.slice Ao34 t210.length co34))) bz_); replace HO195 := Aside0.mk (ro2_ (rs2_ HO195.out BK213.out (.slice Ao30 t207.length co30) (.slice Ao34 t210.length co34)) hb (Kd.R_base ho0) (Kd.R_base ho1)); replace HO198 := Aside0.mk (ro2_ (rs2_ HO198.out BK213.out (.slice Ao30 t207.length co30) (.slice Ao34 t210.length co34)) hb (Kd.R_base ho0) (Kd.R_base ho1)); replace HO201 := Aside0.mk (ro2_ (rs2_ HO201.out BK213.out (.slice Ao30 t207.length co30) (.slice Ao34 t210.length co34)) hb (Kd.R_base ho0) (Kd.R_base ho1)); replace HO204 := Aside0.mk (ro2_ (rs2_ HO204.out BK213.out (.slice Ao30 t207.length co30) (.slice Ao34 t210.length co34)) hb (Kd.R_base ho0) (Kd.R_base ho1)); replace HO209 := Aside0.mk (ro2_ (rs2_ HO209.out BK213.out (.slice Ao30 t207.length co30) (.slice Ao34 t210.length co34)) hb (Kd.R_base ho0) (Kd.R_base ho1)); replace HO212 := Aside0.mk (ro2_ (rs2_ HO212.out BK213.out (.slice Ao30 t207.length co30) (.slice Ao34 t210.length co34)) hb (Kd.R_base ho0) (Kd.R_base ho1)); replace BK191 := Aside0.mk (blk_below (g := gb191) (o := .cells #[.slice A0_0 l0_0.length c0_0, .slice A0_1 l0_1.length c0_1] 24 (0, 0)) kz_ hb); replace BK206 := Aside0.mk (blk_below (g := gb206) (o := .cells #[.slice Ao23 t199.length co23, .slice Ao26 t202.length co26] 27 (0, 0)) kz_ hb); replace BK213 := Aside0.mk (blk_below (g := gb213) (o := .cells #[.slice Ao30 t207.length co30, .slice Ao34 t210.length co34] 27 (0, 0)) (by (with_reducible repeat (first | refine blk_drewN ?_ _ | refine blk_drew ?_ | refine blk_alloc ?_ _)); refine blk_put (cs := #[.slice Ao30 t207.length co30, .slice none 0 0]) ?_ 1 _ rfl; (with_reducible repeat (first | refine blk_drewN ?_ _ | refine blk_drew ?_ | refine blk_alloc ?_ _)); refine blk_put (cs := #[.slice none 0 0, .slice none 0 0]) ?_ 0 _ rfl; exact kb_ BK213.out) hb); replace HB := Aside0.mk (below_step bl_ hb); clear hb ho0 ho1) | ((with_reducible refine gate_dst (N := 11) rfl ?_); refine box_event rfl (N := 11) rfl (cs := #[.slice none 0 0, .slice none 0 0]) (t := 27) gs_ ?_; intro gb221 hg w36 hbox hb; replace HO195 := rb_ HO195 hb; replace HO198 := rb_ HO198 hb; replace HO201 := rb_ HO201 hb; replace HO204 := rb_ HO204 hb; replace HO209 := rb_ HO209 hb; replace HO212 := rb_ HO212 hb; replace HO216 := rb_ HO216 hb; replace HO219 := rb_ HO219 hb; have BK221 := Aside0.mk (hbox); have GW221 := Aside0.mk ((by rw [hg]; exact bz_ : w.heap.size ≤ gb221)); have GE221 := GW221; replace HB := Aside0.mk (below_step bl_ hb); have NB191_221 := nl_ hg BK191; have NB221_191 := nm_ hg BK191; replace BK191 := bb_ BK191 hb; have NB206_221 := nl_ hg BK206; have NB221_206 := nm_ hg BK206; replace BK206 := bb_ BK206 hb; have NB213_221 := nl_ hg BK213; have NB221_213 := nm_ hg BK213; replace BK213 := bb_ BK213 hb; clear hb hbox hg; obtain ⟨Ao37, co37, eo37⟩ := Kd.R_slice HO216.out; subst eo37; have hnb38 := NB221_191.out; have hnc38 := NB191_221.out; have hnb39 := NB221_206.out; have hnc39 := NB206_221.out; have hnb40 := NB221_213.out; have hnc40 := NB213_221.out; have hcz41_0 : w36.cell? ⟨gb221, 0, none⟩ = some (.slice none 0 0) := bc_ BK221.out 0; have hcz41_1 : w36.cell? ⟨gb221, 1, none⟩ = some (.slice none 0 0) := bc_ BK221.out 1; have hfz41_0 := blk_frozen BK221.out 0; have hfz41_1 := blk_frozen BK221.out 1; obtain ⟨Ao42, co42, eo42⟩ := Kd.R_slice HO219.out; subst eo42))
 (try simp only [Act.put, List.setIfInBounds_toArray, List.set_cons_zero, List.set_cons_succ])
 go_cut [48] (fun v48 wc => ∃ (kq : Nat) (x48_12 : Bool), v48 = .bool x48_12 ∧ Aside0 (laws_FnExactCountBy.j0 kq a1 a2 t205 t220 x48_12 l0_0 l0_1 t199 t202 t207 t210 t214 t217 = some r) ∧ Aside0 (kq ≤ k) ∧ Aside0 (Kd.R (Kd.int .i64) 3 wc w.heap.size (fun k_ => some k_ ≠ ((.slice Ao26 t202.length co26) : Value).ownBlock ∧ some k_ ≠ ((.slice Ao30 t207.length co30) : Value).ownBlock ∧ some k_ ≠ ((.slice Ao34 t210.length co34) : Value).ownBlock ∧ some k_ ≠ ((.slice Ao37 t214.length co37) : Value).ownBlock ∧ some k_ ≠ ((.slice Ao42 t217.length co42) : Value).ownBlock) (.slice Ao23 t199.length co23) t199) ∧ Aside0 (Kd.R (Kd.int .i64) 3 wc w.heap.size (fun k_ => some k_ ≠ ((.slice Ao23 t199.length co23) : Value).ownBlock ∧ some k_ ≠ ((.slice Ao30 t207.length co30) : Value).ownBlock ∧ some k_ ≠ ((.slice Ao34 t210.length co34) : Value).ownBlock ∧ some k_ ≠ ((.slice Ao37 t214.length co37) : Value).ownBlock ∧ some k_ ≠ ((.slice Ao42 t217.length co42) : Value).ownBlock) (.slice Ao26 t202.length co26) t202) ∧ Aside0 (Kd.R (Kd.int .i64) 3 wc w.heap.size (fun k_ => some k_ ≠ ((.slice Ao23 t199.length co23) : Value).ownBlock ∧ some k_ ≠ ((.slice Ao26 t202.length co26) : Value).ownBlock ∧ some k_ ≠ ((.slice Ao34 t210.length co34) : Value).ownBlock ∧ some k_ ≠ ((.slice Ao37 t214.length co37) : Value).ownBlock ∧ some k_ ≠ ((.slice Ao42 t217.length co42) : Value).ownBlock) (.slice Ao30 t207.length co30) t207) ∧ Aside0 (Kd.R (Kd.int .i64) 3 wc w.heap.size (fun k_ => some k_ ≠ ((.slice Ao23 t199.length co23) : Value).ownBlock ∧ some k_ ≠ ((.slice Ao26 t202.length co26) : Value).ownBlock ∧ some k_ ≠ ((.slice Ao30 t207.length co30) : Value).ownBlock ∧ some k_ ≠ ((.slice Ao37 t214.length co37) : Value).ownBlock ∧ some k_ ≠ ((.slice Ao42 t217.length co42) : Value).ownBlock) (.slice Ao34 t210.length co34) t210) ∧ Aside0 (Kd.R (Kd.int .i64) 3 wc w.heap.size (fun k_ => some k_ ≠ ((.slice Ao23 t199.length co23) : Value).ownBlock ∧ some k_ ≠ ((.slice Ao26 t202.length co26) : Value).ownBlock ∧ some k_ ≠ ((.slice Ao30 t207.length co30) : Value).ownBlock ∧ some k_ ≠ ((.slice Ao34 t210.length co34) : Value).ownBlock ∧ some k_ ≠ ((.slice Ao42 t217.length co42) : Value).ownBlock) (.slice Ao37 t214.length co37) t214) ∧ Aside0 (Kd.R (Kd.int .i64) 3 wc w.heap.size (fun k_ => some k_ ≠ ((.slice Ao23 t199.length co23) : Value).ownBlock ∧ some k_ ≠ ((.slice Ao26 t202.length co26) : Value).ownBlock ∧ some k_ ≠ ((.slice Ao30 t207.length co30) : Value).ownBlock ∧ some k_ ≠ ((.slice Ao34 t210.length co34) : Value).ownBlock ∧ some k_ ≠ ((.slice Ao37 t214.length co37) : Value).ownBlock) (.slice Ao42 t217.length co42) t217) ∧ Aside0 (wc.heap[gb191]? = some (.cells #[(.slice A0_0 l0_0.length c0_0), (.slice A0_1 l0_1.length c0_1)] 24 (0, 0))) ∧ Aside0 (wc.heap[gb206]? = some (.cells #[(.slice Ao23 t199.length co23), (.slice Ao26 t202.length co26)] 27 (0, 0))) ∧ Aside0 (wc.heap[gb213]? = some (.cells #[(.slice Ao30 t207.length co30), (.slice Ao34 t210.length co34)] 27 (0, 0))) ∧ Aside0 (wc.heap[gb221]? = some (.cells #[(.slice Ao37 t214.length co37), (.slice Ao42 t217.length co42)] 27 (0, 0))) ∧ Aside0 (Below w.heap.size w wc))
 case first =>
  have H := HC13.out
  clear HC13
  replace H := Option.bind_eq_some_iff.mp H
  obtain ⟨t222, A430, H⟩ := H
  replace H : (if t222 = true then (laws_FnExactCountBy.j0 k a1 a2 t205 t220 (t220 != t205) l0_0 l0_1 t199 t202 t207 t210 t214 t217) else (none)) = some r := H
  have A43 := Aside0.mk A430
  clear A430
  by_cases c44 : t222 = true
  rotate_left
  ·replace c44 := Bool.eq_false_iff.mpr c44
   subst c44
   have H1 : (none) = some r := by rw [if_neg (show ¬ (false = true) by decide)] at H; exact H
   clear H
   have H := H1
   clear H1
   exact absurd H (by simp)
  subst c44
  have H1 : (laws_FnExactCountBy.j0 k a1 a2 t205 t220 (t220 != t205) l0_0 l0_1 t199 t202 t207 t210 t214 t217) = some r := by rw [if_pos rfl] at H; exact H
  clear H
  have H := H1
  clear H1
  have H' := Aside0.mk H
  clear H
  have hnb45 := NB221_191.out
  have hnc45 := NB191_221.out
  have hnb46 := NB221_206.out
  have hnc46 := NB206_221.out
  have hnb47 := NB221_213.out
  have hnc47 := NB213_221.out
  have hcz48_0 : w36.cell? ⟨gb221, 0, none⟩ = some (.slice none 0 0) := bc_ BK221.out 0
  have hcz48_1 : w36.cell? ⟨gb221, 1, none⟩ = some (.slice none 0 0) := bc_ BK221.out 1
  have hfz48_0 := blk_frozen BK221.out 0
  have hfz48_1 := blk_frozen BK221.out 1
  have hnb49 := NB206_191.out
  have hnc49 := NB191_206.out
  have hnb50 := NB206_213.out
  have hnc50 := NB213_206.out
  have hcz51_0 : w36.cell? ⟨gb206, 0, none⟩ = some (.slice Ao23 t199.length co23) := bc_ BK206.out 0
  have hcz51_1 : w36.cell? ⟨gb206, 1, none⟩ = some (.slice Ao26 t202.length co26) := bc_ BK206.out 1
  have hfz51_0 := blk_frozen BK206.out 0
  have hfz51_1 := blk_frozen BK206.out 1
  go_wp2_with (first | ((with_reducible refine gate_callee (f := 14) rfl ?_); refine goesL_ (some 42) rfl rfl Try.func14 (by kernel_rfl) rfl #[.agg #[.slice Ao37 t214.length co37, .slice Ao42 t217.length co42], .agg #[.slice Ao23 t199.length co23, .slice Ao26 t202.length co26]] rfl nc_ ?_; (with_reducible refine (laws_eqCounter.calls k _ _ t214 _ _ t217 _ _ t199 _ _ t202 true _ ?side1 ?side2 ?side3 ?side4 ?side5 ?side6 ?side7 ?side8 A43.out).mono ?_); (case side1 => refine (Kd.R_reads' (e := 3) (base := w.heap.size) (ok := fun k_ => ((((((some k_ ≠ (.slice Ao42 t217.length co42 : Value).ownBlock ∧ some k_ ≠ (.slice Ao19 t193.length co19 : Value).ownBlock) ∧ some k_ ≠ (.slice Ao20 t196.length co20 : Value).ownBlock) ∧ some k_ ≠ (.slice Ao23 t199.length co23 : Value).ownBlock) ∧ some k_ ≠ (.slice Ao26 t202.length co26 : Value).ownBlock) ∧ some k_ ≠ (.slice Ao30 t207.length co30 : Value).ownBlock) ∧ some k_ ≠ (.slice Ao34 t210.length co34 : Value).ownBlock)) (n := t214.length) (c := co37) ?_).2.2; exact (kr_ (rs2_ HO216.out BK221.out (.slice Ao37 t214.length co37) (.slice Ao42 t217.length co42)))); (case side2 => exact (Kd.R_reads' HO216.out).2.1); (case side3 => refine (Kd.R_reads' (e := 3) (base := w.heap.size) (ok := fun k_ => ((((((some k_ ≠ (.slice Ao37 t214.length co37 : Value).ownBlock ∧ some k_ ≠ (.slice Ao19 t193.length co19 : Value).ownBlock) ∧ some k_ ≠ (.slice Ao20 t196.length co20 : Value).ownBlock) ∧ some k_ ≠ (.slice Ao23 t199.length co23 : Value).ownBlock) ∧ some k_ ≠ (.slice Ao26 t202.length co26 : Value).ownBlock) ∧ some k_ ≠ (.slice Ao30 t207.length co30 : Value).ownBlock) ∧ some k_ ≠ (.slice Ao34 t210.length co34 : Value).ownBlock)) (n := t217.length) (c := co42) ?_).2.2; exact (kr_ (rs2_ HO219.out BK221.out (.slice Ao37 t214.length co37) (.slice Ao42 t217.length co42)))); (case side4 => exact (Kd.R_reads' HO219.out).2.1); (case side5 => refine (Kd.R_reads' (e := 3) (base := w.heap.size) (ok := fun k_ => ((((((some k_ ≠ (.slice Ao26 t202.length co26 : Value).ownBlock ∧ some k_ ≠ (.slice Ao19 t193.length co19 : Value).ownBlock) ∧ some k_ ≠ (.slice Ao20 t196.length co20 : Value).ownBlock) ∧ some k_ ≠ (.slice Ao30 t207.length co30 : Value).ownBlock) ∧ some k_ ≠ (.slice Ao34 t210.length co34 : Value).ownBlock) ∧ some k_ ≠ (.slice Ao37 t214.length co37 : Value).ownBlock) ∧ some k_ ≠ (.slice Ao42 t217.length co42 : Value).ownBlock)) (n := t199.length) (c := co23) ?_).2.2; exact (kr_ (rs2_ HO201.out BK221.out (.slice Ao37 t214.length co37) (.slice Ao42 t217.length co42)))); (case side6 => exact (Kd.R_reads' HO201.out).2.1); (case side7 => refine (Kd.R_reads' (e := 3) (base := w.heap.size) (ok := fun k_ => ((((((some k_ ≠ (.slice Ao23 t199.length co23 : Value).ownBlock ∧ some k_ ≠ (.slice Ao19 t193.length co19 : Value).ownBlock) ∧ some k_ ≠ (.slice Ao20 t196.length co20 : Value).ownBlock) ∧ some k_ ≠ (.slice Ao30 t207.length co30 : Value).ownBlock) ∧ some k_ ≠ (.slice Ao34 t210.length co34 : Value).ownBlock) ∧ some k_ ≠ (.slice Ao37 t214.length co37 : Value).ownBlock) ∧ some k_ ≠ (.slice Ao42 t217.length co42 : Value).ownBlock)) (n := t202.length) (c := co26) ?_).2.2; exact (kr_ (rs2_ HO204.out BK221.out (.slice Ao37 t214.length co37) (.slice Ao42 t217.length co42)))); (case side8 => exact (Kd.R_reads' HO204.out).2.1); rintro e w52 ⟨rfl, hb⟩; refine ⟨_, rfl, ?_⟩; replace HO195 := Aside0.mk (Kd.R_below (kr_ (rs2_ HO195.out BK221.out (.slice Ao37 t214.length co37) (.slice Ao42 t217.length co42))) hb); replace HO198 := Aside0.mk (Kd.R_below (kr_ (rs2_ HO198.out BK221.out (.slice Ao37 t214.length co37) (.slice Ao42 t217.length co42))) hb); replace HO201 := Aside0.mk (Kd.R_below (kr_ (rs2_ HO201.out BK221.out (.slice Ao37 t214.length co37) (.slice Ao42 t217.length co42))) hb); replace HO204 := Aside0.mk (Kd.R_below (kr_ (rs2_ HO204.out BK221.out (.slice Ao37 t214.length co37) (.slice Ao42 t217.length co42))) hb); replace HO209 := Aside0.mk (Kd.R_below (kr_ (rs2_ HO209.out BK221.out (.slice Ao37 t214.length co37) (.slice Ao42 t217.length co42))) hb); replace HO212 := Aside0.mk (Kd.R_below (kr_ (rs2_ HO212.out BK221.out (.slice Ao37 t214.length co37) (.slice Ao42 t217.length co42))) hb); replace HO216 := Aside0.mk (Kd.R_below (kr_ (rs2_ HO216.out BK221.out (.slice Ao37 t214.length co37) (.slice Ao42 t217.length co42))) hb); replace HO219 := Aside0.mk (Kd.R_below (kr_ (rs2_ HO219.out BK221.out (.slice Ao37 t214.length co37) (.slice Ao42 t217.length co42))) hb); replace BK191 := Aside0.mk (blk_below (g := gb191) (o := .cells #[.slice A0_0 l0_0.length c0_0, .slice A0_1 l0_1.length c0_1] 24 (0, 0)) kz_ hb); replace BK206 := Aside0.mk (blk_below (g := gb206) (o := .cells #[.slice Ao23 t199.length co23, .slice Ao26 t202.length co26] 27 (0, 0)) kz_ hb); replace BK213 := Aside0.mk (blk_below (g := gb213) (o := .cells #[.slice Ao30 t207.length co30, .slice Ao34 t210.length co34] 27 (0, 0)) kz_ hb); replace BK221 := Aside0.mk (blk_below (g := gb221) (o := .cells #[.slice Ao37 t214.length co37, .slice Ao42 t217.length co42] 27 (0, 0)) (by (with_reducible repeat (first | refine blk_drewN ?_ _ | refine blk_drew ?_ | refine blk_alloc ?_ _)); refine blk_put (cs := #[.slice Ao37 t214.length co37, .slice none 0 0]) ?_ 1 _ rfl; (with_reducible repeat (first | refine blk_drewN ?_ _ | refine blk_drew ?_ | refine blk_alloc ?_ _)); refine blk_put (cs := #[.slice none 0 0, .slice none 0 0]) ?_ 0 _ rfl; exact kb_ BK221.out) hb); replace HB := Aside0.mk (below_step bl_ hb); clear hb))
  go_meet
  case rel => exact ⟨_, ((t220 != t205)), (by first | rfl | (simp; done) | (simp [*]; done)), H', ⟨by first | omega | exact Nat.le_refl _⟩, ⟨kp_ HO201.out⟩, ⟨kp_ HO204.out⟩, ⟨kp_ HO209.out⟩, ⟨kp_ HO212.out⟩, ⟨kp_ HO216.out⟩, ⟨kp_ HO219.out⟩, ⟨by exact kb_ BK191.out⟩, ⟨by exact kb_ BK206.out⟩, ⟨by exact kb_ BK213.out⟩, ⟨by exact kb_ BK221.out⟩, ⟨bl_⟩⟩
 clear HC13
 try clear c1
 try clear c2
 try clear p2
 try clear c3
 try clear c4
 try clear c5
 try clear c5b0
 try clear c8
 try clear c10
 try clear c12
 try clear c14
 try clear c24
 try clear c27
 try clear c28
 try clear c31
 try clear c32
 try clear c38
 try clear c39
 try clear c40
 try clear c44
 try clear c45
 try clear c46
 try clear c47
 try clear c49
 try clear c50
 try clear hcz15_0
 try clear hcz15_1
 try clear hcz17_0
 try clear hcz17_1
 try clear hcz25_0
 try clear hcz25_1
 try clear hcz27_0
 try clear hcz27_1
 try clear hcz33_0
 try clear hcz33_1
 try clear hcz41_0
 try clear hcz41_1
 try clear hcz48_0
 try clear hcz48_1
 try clear hcz51_0
 try clear hcz51_1
 try clear hcz7_0
 try clear hcz7_1
 try clear hfz15_0
 try clear hfz15_1
 try clear hfz17_0
 try clear hfz17_1
 try clear hfz25_0
 try clear hfz25_1
 try clear hfz27_0
 try clear hfz27_1
 try clear hfz33_0
 try clear hfz33_1
 try clear hfz41_0
 try clear hfz41_1
 try clear hfz48_0
 try clear hfz48_1
 try clear hfz51_0
 try clear hfz51_1
 try clear hfz7_0
 try clear hfz7_1
 obtain ⟨kq, x48_12, rfl, HA, HJ12, HO_207000, HO_207001, HO_214000, HO_214001, HO_222000, HO_222001, BK191, BK206, BK213, BK221, HB⟩ := hcut
 cases kq with
 | zero => exact absurd HA.out (by simp [laws_FnExactCountBy.j0])
 | succ kj12 => ?_
 have H := HA.out
 clear HA
 simp only [laws_FnExactCountBy.j0] at H
 by_cases c53 : x48_12 = true
 ·subst c53
  have H1 : (none) = some r := by rw [if_pos rfl] at H; exact H
  clear H
  have H := H1
  clear H1
  exact absurd H (by simp)
 replace c53 := Bool.eq_false_iff.mpr c53
 subst c53
 have H1 : ((laws_toCounter.f kj12 l0_0 l0_1).bind fun bt223 => ((laws_eqCounter.f kj12 t207 t210 bt223.1 bt223.2).bind fun t229 => (if t229 = true then ((laws_markCounter.f kj12 t207 t210 1).bind fun bt230 => (if bt230.1 < 0 then (none) else ((laws_eqCounter.f kj12 t214 t217 t199 t202).bind fun t233 => (if t233 = true then (laws_FnExactCountBy.j1 kj12 a1 a2 t205 (t220 != t205) l0_0 l0_1 t199 t202 t214 t217) else (none))))) else (none)))) = some r := by rw [if_neg (show ¬ (false = true) by decide)] at H; exact H
 clear H
 have H := H1
 clear H1
 replace H := Option.bind_eq_some_iff.mp H
 obtain ⟨⟨t223, t226⟩, A540, H⟩ := H
 replace H : ((laws_eqCounter.f kj12 t207 t210 t223 t226).bind fun t229 => (if t229 = true then ((laws_markCounter.f kj12 t207 t210 1).bind fun bt230 => (if bt230.1 < 0 then (none) else ((laws_eqCounter.f kj12 t214 t217 t199 t202).bind fun t233 => (if t233 = true then (laws_FnExactCountBy.j1 kj12 a1 a2 t205 (t220 != t205) l0_0 l0_1 t199 t202 t214 t217) else (none))))) else (none))) = some r := H
 have A54 := Aside0.mk A540
 clear A540
 replace H := Option.bind_eq_some_iff.mp H
 obtain ⟨t229, A550, H⟩ := H
 replace H : (if t229 = true then ((laws_markCounter.f kj12 t207 t210 1).bind fun bt230 => (if bt230.1 < 0 then (none) else ((laws_eqCounter.f kj12 t214 t217 t199 t202).bind fun t233 => (if t233 = true then (laws_FnExactCountBy.j1 kj12 a1 a2 t205 (t220 != t205) l0_0 l0_1 t199 t202 t214 t217) else (none))))) else (none)) = some r := H
 have A55 := Aside0.mk A550
 clear A550
 by_cases c56 : t229 = true
 rotate_left
 ·replace c56 := Bool.eq_false_iff.mpr c56
  subst c56
  have H1 : (none) = some r := by rw [if_neg (show ¬ (false = true) by decide)] at H; exact H
  clear H
  have H := H1
  clear H1
  exact absurd H (by simp)
 subst c56
 have H1 : ((laws_markCounter.f kj12 t207 t210 1).bind fun bt230 => (if bt230.1 < 0 then (none) else ((laws_eqCounter.f kj12 t214 t217 t199 t202).bind fun t233 => (if t233 = true then (laws_FnExactCountBy.j1 kj12 a1 a2 t205 (t220 != t205) l0_0 l0_1 t199 t202 t214 t217) else (none))))) = some r := by rw [if_pos rfl] at H; exact H
 clear H
 have H := H1
 clear H1
 replace H := Option.bind_eq_some_iff.mp H
 obtain ⟨⟨t230, t231, t232⟩, A570, H⟩ := H
 replace H : (if t230 < 0 then (none) else ((laws_eqCounter.f kj12 t214 t217 t199 t202).bind fun t233 => (if t233 = true then (laws_FnExactCountBy.j1 kj12 a1 a2 t205 (t220 != t205) l0_0 l0_1 t199 t202 t214 t217) else (none)))) = some r := H
 have A57 := Aside0.mk A570
 clear A570
 have HC58 := Aside0.mk H
 clear H
 try go_wp2
 replace HO_207000 := Aside0.mk (Kd.R_drew HO_207000.out)
 replace HO_207001 := Aside0.mk (Kd.R_drew HO_207001.out)
 replace HO_214000 := Aside0.mk (Kd.R_drew HO_214000.out)
 replace HO_214001 := Aside0.mk (Kd.R_drew HO_214001.out)
 replace HO_222000 := Aside0.mk (Kd.R_drew HO_222000.out)
 replace HO_222001 := Aside0.mk (Kd.R_drew HO_222001.out)
 replace BK191 := Aside0.mk (blk_drew BK191.out)
 replace BK206 := Aside0.mk (blk_drew BK206.out)
 replace BK213 := Aside0.mk (blk_drew BK213.out)
 replace BK221 := Aside0.mk (blk_drew BK221.out)
 replace HB := Aside0.mk (below_drew1 HB.out)
 refine start_ (n := 5) (S := fun w' => w'.cell? ⟨gb213, 0, none⟩ = some (.slice Ao30 t207.length co30) ∧ w'.cell? ⟨gb213, 1, none⟩ = some (.slice Ao34 t210.length co34) ∧ w'.cell? ⟨gb191, 0, none⟩ = some (.slice A0_0 l0_0.length c0_0) ∧ w'.cell? ⟨gb191, 1, none⟩ = some (.slice A0_1 l0_1.length c0_1)) (ds := []) #[false, false, false, false, false] (by kernel_rfl) rfl rfl ⟨bc_ BK213.out 0, bc_ BK213.out 1, bc_ BK191.out 0, bc_ BK191.out 1⟩ (fun hHeld => ?_)
 generalize wc.drew = w59 at HO_207000 HO_207001 HO_214000 HO_214001 HO_222000 HO_222001 BK191 BK206 BK213 BK221 HB hHeld ⊢
 refine take_ (i := 0) (N := some 49) (v := ?_) (a' := ?_) #[true, false, false, false, false] rfl rfl (by kernel_rfl) (fun _ _ _ h => h) (Or.inl ⟨by rfl, ?_⟩) hHeld ?_ ?_
 rotate_left
 ·rintro w' ⟨s0, s1, s2, s3⟩
  go_simp
  with_reducible rfl
 rotate_left
 ·simp only [Act.put, List.setIfInBounds_toArray, List.set_cons_zero, List.set_cons_succ, i64_w, i32_w]
  rfl
 refine take_ (i := 1) (N := some 50) (v := ?_) (a' := ?_) #[true, true, false, false, false] rfl rfl (by kernel_rfl) (fun _ _ _ h => h) (Or.inl ⟨by rfl, ?_⟩) hHeld ?_ ?_
 rotate_left
 ·rintro w' ⟨s0, s1, s2, s3⟩
  go_simp
  with_reducible rfl
 rotate_left
 ·simp only [Act.put, List.setIfInBounds_toArray, List.set_cons_zero, List.set_cons_succ, i64_w, i32_w]
  rfl
 refine one_ (i := 2) (N := some 51) #[true, true, true, false, false] rfl rfl (by kernel_rfl) (by decide) (fun K hK => ?_)
 refine goes_ Try.func12 (by kernel_rfl) rfl #[.agg #[.slice A0_0 l0_0.length c0_0, .slice A0_1 l0_1.length c0_1]] (by rfl) rfl rfl nc_ ?_
 with_reducible refine (laws_toCounter.calls kj12 _ _ l0_0 _ _ l0_1 t223 t226 _ ?side1 ?side2 ?side3 ?side4 A54.out).mono ?_
 (case side1 => exact kc_ (Kd.C_below HR0_0.out HB.out))
 (case side2 => exact HC0_0.out)
 (case side3 => exact kc_ (Kd.C_below HR0_1.out HB.out))
 (case side4 => exact HC0_1.out)
 rintro e w60 ⟨v224, v227, rfl, ho0, ho1, hb⟩
 refine ⟨_, rfl, ?_⟩
 have HO225 := Aside0.mk (Kd.R_lower (rn_ (rn_ (rn_ (rn_ (rn_ (rn_ ho0 HO_207000.out) HO_207001.out) HO_214000.out) HO_214001.out) HO_222000.out) HO_222001.out) bz_)
 have HO228 := Aside0.mk (Kd.R_lower (rn_ (rn_ (rn_ (rn_ (rn_ (rn_ ho1 HO_207000.out) HO_207001.out) HO_214000.out) HO_214001.out) HO_222000.out) HO_222001.out) bz_)
 replace HO_207000 := rp2_ HO_207000 hb ho0 ho1
 replace HO_207001 := rp2_ HO_207001 hb ho0 ho1
 replace HO_214000 := rp2_ HO_214000 hb ho0 ho1
 replace HO_214001 := rp2_ HO_214001 hb ho0 ho1
 replace HO_222000 := rp2_ HO_222000 hb ho0 ho1
 replace HO_222001 := rp2_ HO_222001 hb ho0 ho1
 replace BK191 := bb_ BK191 hb
 replace BK206 := bb_ BK206 hb
 replace BK213 := bb_ BK213 hb
 replace BK221 := bb_ BK221 hb
 replace HB := Aside0.mk (below_step bl_ hb)
 clear hb ho0 ho1
 obtain ⟨Ao61, co61, eo61⟩ := Kd.R_slice HO225.out
 (first | subst eo61 | (injection eo61 with f1_ f2_ f3_; have f4_ := f1_.symm; have f5_ := f3_.symm; clear f1_ f2_ f3_; subst f4_; subst f5_))
 obtain ⟨Ao62, co62, eo62⟩ := Kd.R_slice HO228.out
 (first | subst eo62 | (injection eo62 with f1_ f2_ f3_; have f4_ := f1_.symm; have f5_ := f3_.symm; clear f1_ f2_ f3_; subst f4_; subst f5_))
 refine hK.out _ _ ⟨bc_ BK213.out 0, bc_ BK213.out 1, bc_ BK191.out 0, bc_ BK191.out 1⟩ (fun hHeld => ?_)
 clear hK K
 refine norm_ nn_ ?_
 refine one_ (i := 3) (N := some 52) #[true, true, true, true, false] rfl rfl (by kernel_rfl) (by decide) (fun K hK => ?_)
 refine goes_ Try.func14 (by kernel_rfl) rfl #[.agg #[.slice Ao30 t207.length co30, .slice Ao34 t210.length co34], .agg #[.slice Ao61 t223.length co61, .slice Ao62 t226.length co62]] (by rfl) rfl rfl nc_ ?_
 with_reducible refine (laws_eqCounter.calls kj12 _ _ t207 _ _ t210 _ _ t223 _ _ t226 true _ ?side1 ?side2 ?side3 ?side4 ?side5 ?side6 ?side7 ?side8 A55.out).mono ?_
 (case side1 => exact kc_ (Kd.R_reads' HO_214000.out).2.2)
 (case side2 => exact (Kd.R_reads' HO_214000.out).2.1)
 (case side3 => exact kc_ (Kd.R_reads' HO_214001.out).2.2)
 (case side4 => exact (Kd.R_reads' HO_214001.out).2.1)
 (case side5 => exact kc_ (Kd.R_reads' HO225.out).2.2)
 (case side6 => exact (Kd.R_reads' HO225.out).2.1)
 (case side7 => exact kc_ (Kd.R_reads' HO228.out).2.2)
 (case side8 => exact (Kd.R_reads' HO228.out).2.1)
 rintro e w63 ⟨rfl, hb⟩
 refine ⟨_, rfl, ?_⟩
 replace HO_207000 := rb_ HO_207000 hb
 replace HO_207001 := rb_ HO_207001 hb
 replace HO_214000 := rb_ HO_214000 hb
 replace HO_214001 := rb_ HO_214001 hb
 replace HO_222000 := rb_ HO_222000 hb
 replace HO_222001 := rb_ HO_222001 hb
 replace HO225 := rb_ HO225 hb
 replace HO228 := rb_ HO228 hb
 replace BK191 := bb_ BK191 hb
 replace BK206 := bb_ BK206 hb
 replace BK213 := bb_ BK213 hb
 replace BK221 := bb_ BK221 hb
 replace HB := Aside0.mk (below_step bl_ hb)
 clear hb
 refine hK.out _ _ ⟨bc_ BK213.out 0, bc_ BK213.out 1, bc_ BK191.out 0, bc_ BK191.out 1⟩ (fun hHeld => ?_)
 clear hK K
 refine norm_ nn_ ?_
 refine pure_ (i := 4) (N := some 53) (v := ?_) (a' := ?_) #[true, true, true, true, true] rfl rfl (by kernel_rfl) (fun _ _ _ h => h) (Or.inl ⟨by rfl, ?_⟩) ?_ ?_
 rotate_left
 ·intro w'
  go_simp
  with_reducible rfl
 rotate_left
 ·simp only [Act.put, List.setIfInBounds_toArray, List.set_cons_zero, List.set_cons_succ, i64_w, i32_w]
  rfl
 refine done_ (by kernel_rfl) ?_
 have hnb64 := NB213_191.out
 have hnc64 := NB191_213.out
 have hnb65 := NB213_206.out
 have hnc65 := NB206_213.out
 have hnb66 := NB213_221.out
 have hnc66 := NB221_213.out
 have hcz67_0 : w63.cell? ⟨gb213, 0, none⟩ = some (.slice Ao30 t207.length co30) := bc_ BK213.out 0
 have hcz67_1 : w63.cell? ⟨gb213, 1, none⟩ = some (.slice Ao34 t210.length co34) := bc_ BK213.out 1
 have hfz67_0 := blk_frozen BK213.out 0
 have hfz67_1 := blk_frozen BK213.out 1
 go_upto_region 14 with (first | ((with_reducible refine gate_callee (f := 25) rfl ?_); refine goesL_ (some 56) rfl rfl Try.func25 (by kernel_rfl) rfl #[.agg #[.slice Ao30 t207.length co30, .slice Ao34 t210.length co34], .int .i64 1] rfl nc_ ?_; (with_reducible refine (laws_markCounter.calls kj12 (fun k_ => some k_ = (.slice Ao30 t207.length co30 : Value).ownBlock) (.slice Ao30 t207.length co30) t207 (fun k_ => some k_ = (.slice Ao34 t210.length co34 : Value).ownBlock) (.slice Ao34 t210.length co34) t210 1 t230 t231 t232 w _ ?side1 ?side2 ?side3 ?side4 ?side5 A57.out).mono ?_); (case side1 => repeat (first | (with_reducible first | exact HB.out | apply below_alloc | apply pw_below_drewN | apply below_drew1 | refine below_set ?_ GE191.out | refine below_set ?_ GE206.out | refine below_set ?_ GE213.out | refine below_set ?_ GE221.out) | exact HB.out)); (case side2 => exact Kd.R_tight rfl HO_214000.out); (case side3 => exact fun k_ e_ => (HO_214000.out.1 k_ e_.symm).1.1.2.2.1); (case side4 => exact Kd.R_tight rfl HO_214001.out); (case side5 => exact fun k_ e_ => (HO_214001.out.1 k_ e_.symm).1.1.2.2.1); rintro e w68 ⟨rfl, hy0, hy1, hb, hkp⟩; refine ⟨_, rfl, ?_⟩; replace HO_207000 := Aside0.mk (Kd.R_mono (ok' := fun k_ => some k_ ≠ (.slice Ao26 t202.length co26 : Value).ownBlock ∧ some k_ ≠ (.slice Ao30 t207.length co30 : Value).ownBlock ∧ some k_ ≠ (.slice Ao34 t210.length co34 : Value).ownBlock ∧ some k_ ≠ (.slice Ao37 t214.length co37 : Value).ownBlock ∧ some k_ ≠ (.slice Ao42 t217.length co42 : Value).ownBlock ∧ some k_ ≠ (.slice Ao61 t223.length co61 : Value).ownBlock ∧ some k_ ≠ (.slice Ao62 t226.length co62 : Value).ownBlock) (Kd.R_keptB (HO_207000.out) hkp (fun k_ hk_ hs_ => Or.elim hs_ (fun e_ => (hk_.1.1.2.1) e_) (fun e_ => (hk_.1.1.2.2.1) e_))) (fun k_ hk_ => ⟨hk_.1.1.1.1, hk_.1.1.1.2.1, hk_.1.1.1.2.2.1, hk_.1.1.1.2.2.2.1, hk_.1.1.1.2.2.2.2, hk_.1.1.2, hk_.1.2⟩)); replace HO_207001 := Aside0.mk (Kd.R_mono (ok' := fun k_ => some k_ ≠ (.slice Ao23 t199.length co23 : Value).ownBlock ∧ some k_ ≠ (.slice Ao30 t207.length co30 : Value).ownBlock ∧ some k_ ≠ (.slice Ao34 t210.length co34 : Value).ownBlock ∧ some k_ ≠ (.slice Ao37 t214.length co37 : Value).ownBlock ∧ some k_ ≠ (.slice Ao42 t217.length co42 : Value).ownBlock ∧ some k_ ≠ (.slice Ao61 t223.length co61 : Value).ownBlock ∧ some k_ ≠ (.slice Ao62 t226.length co62 : Value).ownBlock) (Kd.R_keptB (HO_207001.out) hkp (fun k_ hk_ hs_ => Or.elim hs_ (fun e_ => (hk_.1.1.2.1) e_) (fun e_ => (hk_.1.1.2.2.1) e_))) (fun k_ hk_ => ⟨hk_.1.1.1.1, hk_.1.1.1.2.1, hk_.1.1.1.2.2.1, hk_.1.1.1.2.2.2.1, hk_.1.1.1.2.2.2.2, hk_.1.1.2, hk_.1.2⟩)); replace HO_222000 := Aside0.mk (Kd.R_mono (ok' := fun k_ => some k_ ≠ (.slice Ao23 t199.length co23 : Value).ownBlock ∧ some k_ ≠ (.slice Ao26 t202.length co26 : Value).ownBlock ∧ some k_ ≠ (.slice Ao30 t207.length co30 : Value).ownBlock ∧ some k_ ≠ (.slice Ao34 t210.length co34 : Value).ownBlock ∧ some k_ ≠ (.slice Ao42 t217.length co42 : Value).ownBlock ∧ some k_ ≠ (.slice Ao61 t223.length co61 : Value).ownBlock ∧ some k_ ≠ (.slice Ao62 t226.length co62 : Value).ownBlock) (Kd.R_keptB (HO_222000.out) hkp (fun k_ hk_ hs_ => Or.elim hs_ (fun e_ => (hk_.1.1.2.2.1) e_) (fun e_ => (hk_.1.1.2.2.2.1) e_))) (fun k_ hk_ => ⟨hk_.1.1.1.1, hk_.1.1.1.2.1, hk_.1.1.1.2.2.1, hk_.1.1.1.2.2.2.1, hk_.1.1.1.2.2.2.2, hk_.1.1.2, hk_.1.2⟩)); replace HO_222001 := Aside0.mk (Kd.R_mono (ok' := fun k_ => some k_ ≠ (.slice Ao23 t199.length co23 : Value).ownBlock ∧ some k_ ≠ (.slice Ao26 t202.length co26 : Value).ownBlock ∧ some k_ ≠ (.slice Ao30 t207.length co30 : Value).ownBlock ∧ some k_ ≠ (.slice Ao34 t210.length co34 : Value).ownBlock ∧ some k_ ≠ (.slice Ao37 t214.length co37 : Value).ownBlock ∧ some k_ ≠ (.slice Ao61 t223.length co61 : Value).ownBlock ∧ some k_ ≠ (.slice Ao62 t226.length co62 : Value).ownBlock) (Kd.R_keptB (HO_222001.out) hkp (fun k_ hk_ hs_ => Or.elim hs_ (fun e_ => (hk_.1.1.2.2.1) e_) (fun e_ => (hk_.1.1.2.2.2.1) e_))) (fun k_ hk_ => ⟨hk_.1.1.1.1, hk_.1.1.1.2.1, hk_.1.1.1.2.2.1, hk_.1.1.1.2.2.2.1, hk_.1.1.1.2.2.2.2, hk_.1.1.2, hk_.1.2⟩)); replace BK191 := Aside0.mk (blk_kept (kb_ BK191.out) hkp (fun hs_ => Or.elim hs_ (fun e_ => (fun e_ => (Kd.R_ne HO_214000.out BK191.out (by decide)) e_) e_) (fun e_ => (fun e_ => (Kd.R_ne HO_214001.out BK191.out (by decide)) e_) e_))); replace BK206 := Aside0.mk (blk_kept (kb_ BK206.out) hkp (fun hs_ => Or.elim hs_ (fun e_ => (fun e_ => (Kd.R_ne HO_214000.out BK206.out (by decide)) e_) e_) (fun e_ => (fun e_ => (Kd.R_ne HO_214001.out BK206.out (by decide)) e_) e_))); replace BK213 := Aside0.mk (blk_kept (kb_ BK213.out) hkp (fun hs_ => Or.elim hs_ (fun e_ => (fun e_ => (Kd.R_ne HO_214000.out BK213.out (by decide)) e_) e_) (fun e_ => (fun e_ => (Kd.R_ne HO_214001.out BK213.out (by decide)) e_) e_))); replace BK221 := Aside0.mk (blk_kept (kb_ BK221.out) hkp (fun hs_ => Or.elim hs_ (fun e_ => (fun e_ => (Kd.R_ne HO_214000.out BK221.out (by decide)) e_) e_) (fun e_ => (fun e_ => (Kd.R_ne HO_214001.out BK221.out (by decide)) e_) e_))); replace HO_214000 := Aside0.mk (Kd.R_reok rfl hy0 (fun k_ e_ => HO_214000.out.1 k_ e_)); replace HO_214001 := Aside0.mk (Kd.R_reok rfl hy1 (fun k_ e_ => HO_214001.out.1 k_ e_)); replace HO225 := Aside0.mk (Kd.R_mono (ok' := fun k_ => some k_ ≠ (.slice Ao23 t199.length co23 : Value).ownBlock ∧ some k_ ≠ (.slice Ao26 t202.length co26 : Value).ownBlock ∧ some k_ ≠ (.slice Ao30 t207.length co30 : Value).ownBlock ∧ some k_ ≠ (.slice Ao34 t210.length co34 : Value).ownBlock ∧ some k_ ≠ (.slice Ao37 t214.length co37 : Value).ownBlock ∧ some k_ ≠ (.slice Ao42 t217.length co42 : Value).ownBlock ∧ some k_ ≠ (.slice Ao62 t226.length co62 : Value).ownBlock) (Kd.R_keptB (HO225.out) hkp (fun k_ hk_ hs_ => Or.elim hs_ (fun e_ => (hk_.1.1.1.2) e_) (fun e_ => (hk_.1.1.2) e_))) (fun k_ hk_ => ⟨hk_.1.1.1.1.1.1.2, hk_.1.1.1.1.1.2, hk_.1.1.1.1.2, hk_.1.1.1.2, hk_.1.1.2, hk_.1.2, hk_.1.1.1.1.1.1.1⟩)); replace HO228 := Aside0.mk (Kd.R_mono (ok' := fun k_ => some k_ ≠ (.slice Ao23 t199.length co23 : Value).ownBlock ∧ some k_ ≠ (.slice Ao26 t202.length co26 : Value).ownBlock ∧ some k_ ≠ (.slice Ao30 t207.length co30 : Value).ownBlock ∧ some k_ ≠ (.slice Ao34 t210.length co34 : Value).ownBlock ∧ some k_ ≠ (.slice Ao37 t214.length co37 : Value).ownBlock ∧ some k_ ≠ (.slice Ao42 t217.length co42 : Value).ownBlock ∧ some k_ ≠ (.slice Ao61 t223.length co61 : Value).ownBlock) (Kd.R_keptB (HO228.out) hkp (fun k_ hk_ hs_ => Or.elim hs_ (fun e_ => (hk_.1.1.1.2) e_) (fun e_ => (hk_.1.1.2) e_))) (fun k_ hk_ => ⟨hk_.1.1.1.1.1.1.2, hk_.1.1.1.1.1.2, hk_.1.1.1.1.2, hk_.1.1.1.2, hk_.1.1.2, hk_.1.2, hk_.1.1.1.1.1.1.1⟩)); replace HB := Aside0.mk (hb); clear hb))
 (try simp only [Act.put, List.setIfInBounds_toArray, List.set_cons_zero, List.set_cons_succ])
 go_cut [69] (fun v69 wc => ∃ (kq : Nat) (x69_57 : Bool), v69 = .bool x69_57 ∧ Aside0 (laws_FnExactCountBy.j1 kq a1 a2 t205 x69_57 l0_0 l0_1 t199 t202 t214 t217 = some r) ∧ Aside0 (kq ≤ kj12) ∧ Aside0 (Kd.R (Kd.int .i64) 3 wc w.heap.size (fun k_ => some k_ ≠ ((.slice Ao26 t202.length co26) : Value).ownBlock ∧ some k_ ≠ ((.slice Ao30 t207.length co30) : Value).ownBlock ∧ some k_ ≠ ((.slice Ao34 t210.length co34) : Value).ownBlock ∧ some k_ ≠ ((.slice Ao37 t214.length co37) : Value).ownBlock ∧ some k_ ≠ ((.slice Ao42 t217.length co42) : Value).ownBlock) (.slice Ao23 t199.length co23) t199) ∧ Aside0 (Kd.R (Kd.int .i64) 3 wc w.heap.size (fun k_ => some k_ ≠ ((.slice Ao23 t199.length co23) : Value).ownBlock ∧ some k_ ≠ ((.slice Ao30 t207.length co30) : Value).ownBlock ∧ some k_ ≠ ((.slice Ao34 t210.length co34) : Value).ownBlock ∧ some k_ ≠ ((.slice Ao37 t214.length co37) : Value).ownBlock ∧ some k_ ≠ ((.slice Ao42 t217.length co42) : Value).ownBlock) (.slice Ao26 t202.length co26) t202) ∧ Aside0 (Kd.R (Kd.int .i64) 3 wc w.heap.size (fun k_ => some k_ ≠ ((.slice Ao23 t199.length co23) : Value).ownBlock ∧ some k_ ≠ ((.slice Ao26 t202.length co26) : Value).ownBlock ∧ some k_ ≠ ((.slice Ao34 t210.length co34) : Value).ownBlock ∧ some k_ ≠ ((.slice Ao37 t214.length co37) : Value).ownBlock ∧ some k_ ≠ ((.slice Ao42 t217.length co42) : Value).ownBlock) (.slice Ao30 t207.length co30) t231) ∧ Aside0 (Kd.R (Kd.int .i64) 3 wc w.heap.size (fun k_ => some k_ ≠ ((.slice Ao23 t199.length co23) : Value).ownBlock ∧ some k_ ≠ ((.slice Ao26 t202.length co26) : Value).ownBlock ∧ some k_ ≠ ((.slice Ao30 t207.length co30) : Value).ownBlock ∧ some k_ ≠ ((.slice Ao37 t214.length co37) : Value).ownBlock ∧ some k_ ≠ ((.slice Ao42 t217.length co42) : Value).ownBlock) (.slice Ao34 t210.length co34) t232) ∧ Aside0 (Kd.R (Kd.int .i64) 3 wc w.heap.size (fun k_ => some k_ ≠ ((.slice Ao23 t199.length co23) : Value).ownBlock ∧ some k_ ≠ ((.slice Ao26 t202.length co26) : Value).ownBlock ∧ some k_ ≠ ((.slice Ao30 t207.length co30) : Value).ownBlock ∧ some k_ ≠ ((.slice Ao34 t210.length co34) : Value).ownBlock ∧ some k_ ≠ ((.slice Ao42 t217.length co42) : Value).ownBlock) (.slice Ao37 t214.length co37) t214) ∧ Aside0 (Kd.R (Kd.int .i64) 3 wc w.heap.size (fun k_ => some k_ ≠ ((.slice Ao23 t199.length co23) : Value).ownBlock ∧ some k_ ≠ ((.slice Ao26 t202.length co26) : Value).ownBlock ∧ some k_ ≠ ((.slice Ao30 t207.length co30) : Value).ownBlock ∧ some k_ ≠ ((.slice Ao34 t210.length co34) : Value).ownBlock ∧ some k_ ≠ ((.slice Ao37 t214.length co37) : Value).ownBlock) (.slice Ao42 t217.length co42) t217) ∧ Aside0 (wc.heap[gb191]? = some (.cells #[(.slice A0_0 l0_0.length c0_0), (.slice A0_1 l0_1.length c0_1)] 24 (0, 0))) ∧ Aside0 (wc.heap[gb206]? = some (.cells #[(.slice Ao23 t199.length co23), (.slice Ao26 t202.length co26)] 27 (0, 0))) ∧ Aside0 (wc.heap[gb213]? = some (.cells #[(.slice Ao30 t207.length co30), (.slice Ao34 t210.length co34)] 27 (0, 0))) ∧ Aside0 (wc.heap[gb221]? = some (.cells #[(.slice Ao37 t214.length co37), (.slice Ao42 t217.length co42)] 27 (0, 0))) ∧ Aside0 (Below w.heap.size w wc))
 case first =>
  have H := HC58.out
  clear HC58
  by_cases c69 : t230 < 0
  ·rw [if_pos c69] at H
   exact absurd H (by simp)
  rw [if_neg c69] at H
  have c69b0 : decide (t230 < 0) = false := decide_eq_false c69
  clear c69
  (first | rw [c69b0] | (simp only [i64_w, i32_w]; rw [c69b0]) | skip)
  replace H := Option.bind_eq_some_iff.mp H
  obtain ⟨t233, A700, H⟩ := H
  replace H : (if t233 = true then (laws_FnExactCountBy.j1 kj12 a1 a2 t205 (t220 != t205) l0_0 l0_1 t199 t202 t214 t217) else (none)) = some r := H
  have A70 := Aside0.mk A700
  clear A700
  by_cases c71 : t233 = true
  rotate_left
  ·replace c71 := Bool.eq_false_iff.mpr c71
   subst c71
   have H1 : (none) = some r := by rw [if_neg (show ¬ (false = true) by decide)] at H; exact H
   clear H
   have H := H1
   clear H1
   exact absurd H (by simp)
  subst c71
  have H1 : (laws_FnExactCountBy.j1 kj12 a1 a2 t205 (t220 != t205) l0_0 l0_1 t199 t202 t214 t217) = some r := by rw [if_pos rfl] at H; exact H
  clear H
  have H := H1
  clear H1
  have H' := Aside0.mk H
  clear H
  have hnb72 := NB221_191.out
  have hnc72 := NB191_221.out
  have hnb73 := NB221_206.out
  have hnc73 := NB206_221.out
  have hnb74 := NB221_213.out
  have hnc74 := NB213_221.out
  have hcz75_0 : w68.cell? ⟨gb221, 0, none⟩ = some (.slice Ao37 t214.length co37) := bc_ BK221.out 0
  have hcz75_1 : w68.cell? ⟨gb221, 1, none⟩ = some (.slice Ao42 t217.length co42) := bc_ BK221.out 1
  have hfz75_0 := blk_frozen BK221.out 0
  have hfz75_1 := blk_frozen BK221.out 1
  have hnb76 := NB206_191.out
  have hnc76 := NB191_206.out
  have hnb77 := NB206_213.out
  have hnc77 := NB213_206.out
  have hcz78_0 : w68.cell? ⟨gb206, 0, none⟩ = some (.slice Ao23 t199.length co23) := bc_ BK206.out 0
  have hcz78_1 : w68.cell? ⟨gb206, 1, none⟩ = some (.slice Ao26 t202.length co26) := bc_ BK206.out 1
  have hfz78_0 := blk_frozen BK206.out 0
  have hfz78_1 := blk_frozen BK206.out 1
  go_wp2_with (first | (go_at_call 14; (with_reducible refine (laws_eqCounter.calls kj12 _ _ t214 _ _ t217 _ _ t199 _ _ t202 true _ ?side1 ?side2 ?side3 ?side4 ?side5 ?side6 ?side7 ?side8 A70.out).mono ?_); (case side1 => exact kc_ (Kd.R_reads' HO_222000.out).2.2); (case side2 => exact (Kd.R_reads' HO_222000.out).2.1); (case side3 => exact kc_ (Kd.R_reads' HO_222001.out).2.2); (case side4 => exact (Kd.R_reads' HO_222001.out).2.1); (case side5 => exact kc_ (Kd.R_reads' HO_207000.out).2.2); (case side6 => exact (Kd.R_reads' HO_207000.out).2.1); (case side7 => exact kc_ (Kd.R_reads' HO_207001.out).2.2); (case side8 => exact (Kd.R_reads' HO_207001.out).2.1); rintro e w79 ⟨rfl, hb⟩; replace HO_207000 := rb_ HO_207000 hb; replace HO_207001 := rb_ HO_207001 hb; replace HO_214000 := rb_ HO_214000 hb; replace HO_214001 := rb_ HO_214001 hb; replace HO_222000 := rb_ HO_222000 hb; replace HO_222001 := rb_ HO_222001 hb; replace HO225 := rb_ HO225 hb; replace HO228 := rb_ HO228 hb; replace BK191 := bb_ BK191 hb; replace BK206 := bb_ BK206 hb; replace BK213 := bb_ BK213 hb; replace BK221 := bb_ BK221 hb; replace HB := Aside0.mk (below_step bl_ hb); clear hb))
  go_meet
  case rel => exact ⟨_, ((t220 != t205)), (by first | rfl | (simp; done) | (simp [*]; done)), H', ⟨by have := HJ12.out; first | omega | exact Nat.le_refl _⟩, ⟨kp_ HO_207000.out⟩, ⟨kp_ HO_207001.out⟩, ⟨kp_ HO_214000.out⟩, ⟨kp_ HO_214001.out⟩, ⟨kp_ HO_222000.out⟩, ⟨kp_ HO_222001.out⟩, ⟨by exact kb_ BK191.out⟩, ⟨by exact kb_ BK206.out⟩, ⟨by exact kb_ BK213.out⟩, ⟨by exact kb_ BK221.out⟩, ⟨bl_⟩⟩
 clear HC58
 try clear c1
 try clear c2
 try clear p2
 try clear c3
 try clear c4
 try clear c5
 try clear c5b0
 try clear c6
 try clear c7
 try clear c8
 try clear c10
 try clear c12
 try clear c14
 try clear c24
 try clear c25
 try clear c27
 try clear c28
 try clear c31
 try clear c32
 try clear c38
 try clear c39
 try clear c40
 try clear c44
 try clear c45
 try clear c46
 try clear c47
 try clear c49
 try clear c50
 try clear c53
 try clear c56
 try clear c64
 try clear c65
 try clear c66
 try clear c69
 try clear c69b0
 try clear c71
 try clear c72
 try clear c73
 try clear c74
 try clear c76
 try clear c77
 try clear hcz15_0
 try clear hcz15_1
 try clear hcz17_0
 try clear hcz17_1
 try clear hcz25_0
 try clear hcz25_1
 try clear hcz27_0
 try clear hcz27_1
 try clear hcz33_0
 try clear hcz33_1
 try clear hcz41_0
 try clear hcz41_1
 try clear hcz48_0
 try clear hcz48_1
 try clear hcz51_0
 try clear hcz51_1
 try clear hcz67_0
 try clear hcz67_1
 try clear hcz75_0
 try clear hcz75_1
 try clear hcz78_0
 try clear hcz78_1
 try clear hcz7_0
 try clear hcz7_1
 try clear hfz15_0
 try clear hfz15_1
 try clear hfz17_0
 try clear hfz17_1
 try clear hfz25_0
 try clear hfz25_1
 try clear hfz27_0
 try clear hfz27_1
 try clear hfz33_0
 try clear hfz33_1
 try clear hfz41_0
 try clear hfz41_1
 try clear hfz48_0
 try clear hfz48_1
 try clear hfz51_0
 try clear hfz51_1
 try clear hfz67_0
 try clear hfz67_1
 try clear hfz75_0
 try clear hfz75_1
 try clear hfz78_0
 try clear hfz78_1
 try clear hfz7_0
 try clear hfz7_1
 try clear p2
 obtain ⟨kq, x69_57, rfl, HA, HJ57, HO_207000, HO_207001, HO_214000, HO_214001, HO_222000, HO_222001, BK191, BK206, BK213, BK221, HB⟩ := hcut
 have hl214000_57 := (Kd.R_reads' HO_214000.out).1
 rw [hl214000_57] at HO_214000
 (try simp only [hl214000_57])
 (try simp only [hl214000_57] at BK191)
 (try simp only [hl214000_57] at BK206)
 (try simp only [hl214000_57] at BK213)
 (try simp only [hl214000_57] at BK221)
 (try simp only [hl214000_57] at HO_207000)
 (try simp only [hl214000_57] at HO_207001)
 (try simp only [hl214000_57] at HO_214001)
 (try simp only [hl214000_57] at HO_222000)
 (try simp only [hl214000_57] at HO_222001)
 have hl214001_57 := (Kd.R_reads' HO_214001.out).1
 rw [hl214001_57] at HO_214001
 (try simp only [hl214001_57])
 (try simp only [hl214001_57] at BK191)
 (try simp only [hl214001_57] at BK206)
 (try simp only [hl214001_57] at BK213)
 (try simp only [hl214001_57] at BK221)
 (try simp only [hl214001_57] at HO_207000)
 (try simp only [hl214001_57] at HO_207001)
 (try simp only [hl214001_57] at HO_214000)
 (try simp only [hl214001_57] at HO_222000)
 (try simp only [hl214001_57] at HO_222001)
 cases kq with
 | zero => exact absurd HA.out (by simp [laws_FnExactCountBy.j1])
 | succ kj57 => ?_
 have H := HA.out
 clear HA
 simp only [laws_FnExactCountBy.j1] at H
 by_cases c80 : x69_57 = true
 ·subst c80
  have H1 : (none) = some r := by rw [if_pos rfl] at H; exact H
  clear H
  have H := H1
  clear H1
  exact absurd H (by simp)
 replace c80 := Bool.eq_false_iff.mpr c80
 subst c80
 have H1 : ((laws_markCounter.f kj57 t214 t217 1).bind fun bt234 => ((laws_heldCounter.f kj57 bt234.2.1 bt234.2.2 1).bind fun t237 => (if t237 < 0 then (none) else (if t237 = bt234.1 then ((laws_toCounter.f kj57 l0_0 l0_1).bind fun bt238 => ((impl_CountBy.f kj57 bt238.1 bt238.2 a1 a2).bind fun bt244 => ((laws_eqCounter.f kj57 bt244.1 bt244.2.1 t199 t202).bind fun t252 => (if t252 = true then (laws_FnExactCountBy.j2 kj57 bt234.1 (bt244.2.2 != t205) bt234.2.1 bt234.2.2) else (none))))) else (none))))) = some r := by rw [if_neg (show ¬ (false = true) by decide)] at H; exact H
 clear H
 have H := H1
 clear H1
 replace H := Option.bind_eq_some_iff.mp H
 obtain ⟨⟨t234, t235, t236⟩, A810, H⟩ := H
 replace H : ((laws_heldCounter.f kj57 t235 t236 1).bind fun t237 => (if t237 < 0 then (none) else (if t237 = t234 then ((laws_toCounter.f kj57 l0_0 l0_1).bind fun bt238 => ((impl_CountBy.f kj57 bt238.1 bt238.2 a1 a2).bind fun bt244 => ((laws_eqCounter.f kj57 bt244.1 bt244.2.1 t199 t202).bind fun t252 => (if t252 = true then (laws_FnExactCountBy.j2 kj57 t234 (bt244.2.2 != t205) t235 t236) else (none))))) else (none)))) = some r := H
 have A81 := Aside0.mk A810
 clear A810
 replace H := Option.bind_eq_some_iff.mp H
 obtain ⟨t237, A820, H⟩ := H
 replace H : (if t237 < 0 then (none) else (if t237 = t234 then ((laws_toCounter.f kj57 l0_0 l0_1).bind fun bt238 => ((impl_CountBy.f kj57 bt238.1 bt238.2 a1 a2).bind fun bt244 => ((laws_eqCounter.f kj57 bt244.1 bt244.2.1 t199 t202).bind fun t252 => (if t252 = true then (laws_FnExactCountBy.j2 kj57 t234 (bt244.2.2 != t205) t235 t236) else (none))))) else (none))) = some r := H
 have A82 := Aside0.mk A820
 clear A820
 by_cases c83 : t237 < 0
 ·rw [if_pos c83] at H
  exact absurd H (by simp)
 rw [if_neg c83] at H
 have c83b0 : decide (t237 < 0) = false := decide_eq_false c83
 clear c83
 by_cases c84 : t237 = t234
 rotate_left
 ·rw [if_neg c84] at H
  exact absurd H (by simp)
 rw [if_pos c84] at H
 have c84b0 : (t237 == t234) = true := beq_iff_eq.mpr c84
 have c84b1 : (t237 != t234) = false := bne_eq_false_iff_eq.mpr c84
 clear c84
 replace H := Option.bind_eq_some_iff.mp H
 obtain ⟨⟨t238, t241⟩, A850, H⟩ := H
 replace H : ((impl_CountBy.f kj57 t238 t241 a1 a2).bind fun bt244 => ((laws_eqCounter.f kj57 bt244.1 bt244.2.1 t199 t202).bind fun t252 => (if t252 = true then (laws_FnExactCountBy.j2 kj57 t234 (bt244.2.2 != t205) t235 t236) else (none)))) = some r := H
 have A85 := Aside0.mk A850
 clear A850
 replace H := Option.bind_eq_some_iff.mp H
 obtain ⟨⟨t244, t247, t250⟩, A860, H⟩ := H
 replace H : ((laws_eqCounter.f kj57 t244 t247 t199 t202).bind fun t252 => (if t252 = true then (laws_FnExactCountBy.j2 kj57 t234 (t250 != t205) t235 t236) else (none))) = some r := H
 have A86 := Aside0.mk A860
 clear A860
 have HC87 := Aside0.mk H
 clear H
 have hnb88 := NB221_191.out
 have hnc88 := NB191_221.out
 have hnb89 := NB221_206.out
 have hnc89 := NB206_221.out
 have hnb90 := NB221_213.out
 have hnc90 := NB213_221.out
 have hcz91_0 : wc.cell? ⟨gb221, 0, none⟩ = some (.slice Ao37 t214.length co37) := bc_ BK221.out 0
 have hcz91_1 : wc.cell? ⟨gb221, 1, none⟩ = some (.slice Ao42 t217.length co42) := bc_ BK221.out 1
 have hfz91_0 := blk_frozen BK221.out 0
 have hfz91_1 := blk_frozen BK221.out 1
 go_upto_region 25 with (first | ((with_reducible refine gate_callee (f := 25) rfl ?_); refine goesL_ (some 72) rfl rfl Try.func25 (by kernel_rfl) rfl #[.agg #[.slice Ao37 t214.length co37, .slice Ao42 t217.length co42], .int .i64 1] rfl nc_ ?_; (with_reducible refine (laws_markCounter.calls kj57 (fun k_ => some k_ = (.slice Ao37 t214.length co37 : Value).ownBlock) (.slice Ao37 t214.length co37) t214 (fun k_ => some k_ = (.slice Ao42 t217.length co42 : Value).ownBlock) (.slice Ao42 t217.length co42) t217 1 t234 t235 t236 w _ ?side1 ?side2 ?side3 ?side4 ?side5 A81.out).mono ?_); (case side1 => repeat (first | (with_reducible first | exact HB.out | apply below_alloc | apply pw_below_drewN | apply below_drew1 | refine below_set ?_ GE191.out | refine below_set ?_ GE206.out | refine below_set ?_ GE213.out | refine below_set ?_ GE221.out) | exact HB.out)); (case side2 => exact Kd.R_tight rfl HO_222000.out); (case side3 => exact fun k_ e_ => (HO_222000.out.1 k_ e_.symm).2.2.2.2); (case side4 => exact Kd.R_tight rfl HO_222001.out); (case side5 => exact fun k_ e_ => (HO_222001.out.1 k_ e_.symm).2.2.2.2); rintro e w92 ⟨rfl, hy0, hy1, hb, hkp⟩; refine ⟨_, rfl, ?_⟩; replace HO_207000 := Aside0.mk (Kd.R_mono (ok' := fun k_ => some k_ ≠ (.slice Ao26 t202.length co26 : Value).ownBlock ∧ some k_ ≠ (.slice Ao30 t231.length co30 : Value).ownBlock ∧ some k_ ≠ (.slice Ao34 t232.length co34 : Value).ownBlock ∧ some k_ ≠ (.slice Ao37 t214.length co37 : Value).ownBlock ∧ some k_ ≠ (.slice Ao42 t217.length co42 : Value).ownBlock) (Kd.R_keptB (HO_207000.out) hkp (fun k_ hk_ hs_ => Or.elim hs_ (fun e_ => (hk_.2.2.2.1) e_) (fun e_ => (hk_.2.2.2.2) e_))) (fun k_ hk_ => ⟨hk_.1.1, hk_.1.2.1, hk_.1.2.2.1, hk_.1.2.2.2.1, hk_.1.2.2.2.2⟩)); replace HO_207001 := Aside0.mk (Kd.R_mono (ok' := fun k_ => some k_ ≠ (.slice Ao23 t199.length co23 : Value).ownBlock ∧ some k_ ≠ (.slice Ao30 t231.length co30 : Value).ownBlock ∧ some k_ ≠ (.slice Ao34 t232.length co34 : Value).ownBlock ∧ some k_ ≠ (.slice Ao37 t214.length co37 : Value).ownBlock ∧ some k_ ≠ (.slice Ao42 t217.length co42 : Value).ownBlock) (Kd.R_keptB (HO_207001.out) hkp (fun k_ hk_ hs_ => Or.elim hs_ (fun e_ => (hk_.2.2.2.1) e_) (fun e_ => (hk_.2.2.2.2) e_))) (fun k_ hk_ => ⟨hk_.1.1, hk_.1.2.1, hk_.1.2.2.1, hk_.1.2.2.2.1, hk_.1.2.2.2.2⟩)); replace HO_214000 := Aside0.mk (Kd.R_mono (ok' := fun k_ => some k_ ≠ (.slice Ao23 t199.length co23 : Value).ownBlock ∧ some k_ ≠ (.slice Ao26 t202.length co26 : Value).ownBlock ∧ some k_ ≠ (.slice Ao34 t232.length co34 : Value).ownBlock ∧ some k_ ≠ (.slice Ao37 t214.length co37 : Value).ownBlock ∧ some k_ ≠ (.slice Ao42 t217.length co42 : Value).ownBlock) (Kd.R_keptB (HO_214000.out) hkp (fun k_ hk_ hs_ => Or.elim hs_ (fun e_ => (hk_.2.2.2.1) e_) (fun e_ => (hk_.2.2.2.2) e_))) (fun k_ hk_ => ⟨hk_.1.1, hk_.1.2.1, hk_.1.2.2.1, hk_.1.2.2.2.1, hk_.1.2.2.2.2⟩)); replace HO_214001 := Aside0.mk (Kd.R_mono (ok' := fun k_ => some k_ ≠ (.slice Ao23 t199.length co23 : Value).ownBlock ∧ some k_ ≠ (.slice Ao26 t202.length co26 : Value).ownBlock ∧ some k_ ≠ (.slice Ao30 t231.length co30 : Value).ownBlock ∧ some k_ ≠ (.slice Ao37 t214.length co37 : Value).ownBlock ∧ some k_ ≠ (.slice Ao42 t217.length co42 : Value).ownBlock) (Kd.R_keptB (HO_214001.out) hkp (fun k_ hk_ hs_ => Or.elim hs_ (fun e_ => (hk_.2.2.2.1) e_) (fun e_ => (hk_.2.2.2.2) e_))) (fun k_ hk_ => ⟨hk_.1.1, hk_.1.2.1, hk_.1.2.2.1, hk_.1.2.2.2.1, hk_.1.2.2.2.2⟩)); replace BK191 := Aside0.mk (blk_kept (kb_ BK191.out) hkp (fun hs_ => Or.elim hs_ (fun e_ => (fun e_ => (Kd.R_ne HO_222000.out BK191.out (by decide)) e_) e_) (fun e_ => (fun e_ => (Kd.R_ne HO_222001.out BK191.out (by decide)) e_) e_))); replace BK206 := Aside0.mk (blk_kept (kb_ BK206.out) hkp (fun hs_ => Or.elim hs_ (fun e_ => (fun e_ => (Kd.R_ne HO_222000.out BK206.out (by decide)) e_) e_) (fun e_ => (fun e_ => (Kd.R_ne HO_222001.out BK206.out (by decide)) e_) e_))); replace BK213 := Aside0.mk (blk_kept (kb_ BK213.out) hkp (fun hs_ => Or.elim hs_ (fun e_ => (fun e_ => (Kd.R_ne HO_222000.out BK213.out (by decide)) e_) e_) (fun e_ => (fun e_ => (Kd.R_ne HO_222001.out BK213.out (by decide)) e_) e_))); replace BK221 := Aside0.mk (blk_kept (kb_ BK221.out) hkp (fun hs_ => Or.elim hs_ (fun e_ => (fun e_ => (Kd.R_ne HO_222000.out BK221.out (by decide)) e_) e_) (fun e_ => (fun e_ => (Kd.R_ne HO_222001.out BK221.out (by decide)) e_) e_))); replace HO_222000 := Aside0.mk (Kd.R_reok rfl hy0 (fun k_ e_ => HO_222000.out.1 k_ e_)); replace HO_222001 := Aside0.mk (Kd.R_reok rfl hy1 (fun k_ e_ => HO_222001.out.1 k_ e_)); replace HB := Aside0.mk (hb); clear hb; have hcz93_0 : w92.cell? ⟨gb221, 0, none⟩ = some (.slice Ao37 t214.length co37) := bc_ BK221.out 0; have hcz93_1 : w92.cell? ⟨gb221, 1, none⟩ = some (.slice Ao42 t217.length co42) := bc_ BK221.out 1; have hfz93_0 := blk_frozen BK221.out 0; have hfz93_1 := blk_frozen BK221.out 1) | ((with_reducible refine gate_callee (f := 26) rfl ?_); refine goesL_ (some 75) rfl rfl Try.func26 (by kernel_rfl) rfl #[.agg #[.slice Ao37 t235.length co37, .slice Ao42 t236.length co42], .int .i64 1] rfl (by (try simp only [List.map_toArray, List.map_cons, List.map_nil]); first | done | (rw [show t235.length = t214.length from (Kd.R_reads' HO_222000.out).1.symm, show t236.length = t217.length from (Kd.R_reads' HO_222001.out).1.symm] <;> rfl) | rfl | (simp only [List.length_drop, List.length_take]; rfl)) ?_; (with_reducible refine (laws_heldCounter.calls kj57 _ _ t235 _ _ t236 1 t237 _ ?side1 ?side2 ?side3 ?side4 A82.out).mono ?_); (case side1 => exact kc_ (Kd.R_reads' HO_222000.out).2.2); (case side2 => rw [show t235.length = t214.length from (Kd.R_reads' HO_222000.out).1.symm]; exact (Kd.R_reads' HO_222000.out).2.1); (case side3 => exact kc_ (Kd.R_reads' HO_222001.out).2.2); (case side4 => rw [show t236.length = t217.length from (Kd.R_reads' HO_222001.out).1.symm]; exact (Kd.R_reads' HO_222001.out).2.1); rintro e w94 ⟨rfl, hb⟩; refine ⟨_, rfl, ?_⟩; replace HO_207000 := rb_ HO_207000 hb; replace HO_207001 := rb_ HO_207001 hb; replace HO_214000 := rb_ HO_214000 hb; replace HO_214001 := rb_ HO_214001 hb; replace HO_222000 := rb_ HO_222000 hb; replace HO_222001 := rb_ HO_222001 hb; replace BK191 := bb_ BK191 hb; replace BK206 := bb_ BK206 hb; replace BK213 := bb_ BK213 hb; replace BK221 := bb_ BK221 hb; replace HB := Aside0.mk (below_step bl_ hb); clear hb; have hnb95 := NB191_206.out; have hnc95 := NB206_191.out; have hnb96 := NB191_213.out; have hnc96 := NB213_191.out; have hcz97_0 : w94.cell? ⟨gb191, 0, none⟩ = some (.slice A0_0 l0_0.length c0_0) := bc_ BK191.out 0; have hcz97_1 : w94.cell? ⟨gb191, 1, none⟩ = some (.slice A0_1 l0_1.length c0_1) := bc_ BK191.out 1; have hfz97_0 := blk_frozen BK191.out 0; have hfz97_1 := blk_frozen BK191.out 1) | ((with_reducible refine gate_callee (f := 12) rfl ?_); refine goesL_ (some 83) rfl rfl Try.func12 (by kernel_rfl) rfl #[.agg #[.slice A0_0 l0_0.length c0_0, .slice A0_1 l0_1.length c0_1]] rfl nc_ ?_; (with_reducible refine (laws_toCounter.calls kj57 _ _ l0_0 _ _ l0_1 t238 t241 _ ?side1 ?side2 ?side3 ?side4 A85.out).mono ?_); (case side1 => exact kc_ (Kd.C_below HR0_0.out HB.out)); (case side2 => exact HC0_0.out); (case side3 => exact kc_ (Kd.C_below HR0_1.out HB.out)); (case side4 => exact HC0_1.out); rintro e w98 ⟨v239, v242, rfl, ho0, ho1, hb⟩; refine ⟨_, rfl, ?_⟩; have HO240 := Aside0.mk (Kd.R_lower (rn_ (rn_ (rn_ (rn_ (rn_ (rn_ ho0 HO_207000.out) HO_207001.out) HO_214000.out) HO_214001.out) HO_222000.out) HO_222001.out) bz_); have HO243 := Aside0.mk (Kd.R_lower (rn_ (rn_ (rn_ (rn_ (rn_ (rn_ ho1 HO_207000.out) HO_207001.out) HO_214000.out) HO_214001.out) HO_222000.out) HO_222001.out) bz_); replace HO_207000 := rp2_ HO_207000 hb ho0 ho1; replace HO_207001 := rp2_ HO_207001 hb ho0 ho1; replace HO_214000 := rp2_ HO_214000 hb ho0 ho1; replace HO_214001 := rp2_ HO_214001 hb ho0 ho1; replace HO_222000 := rp2_ HO_222000 hb ho0 ho1; replace HO_222001 := rp2_ HO_222001 hb ho0 ho1; replace BK191 := bb_ BK191 hb; replace BK206 := bb_ BK206 hb; replace BK213 := bb_ BK213 hb; replace BK221 := bb_ BK221 hb; replace HB := Aside0.mk (below_step bl_ hb); clear hb ho0 ho1; obtain ⟨Ao99, co99, eo99⟩ := Kd.R_slice HO240.out; subst eo99; obtain ⟨Ao100, co100, eo100⟩ := Kd.R_slice HO243.out; subst eo100) | ((with_reducible refine gate_callee (f := 28) rfl ?_); refine goesL_ (some 86) rfl rfl Try.func28 (by kernel_rfl) rfl #[.agg #[.slice Ao99 t238.length co99, .slice Ao100 t241.length co100], .int .i64 a1, .int .i64 a2] rfl nc_ ?_; (with_reducible refine (impl_CountBy.calls kj57 _ _ t238 _ _ t241 a1 a2 t244 t247 t250 _ ?side1 ?side2 ?side3 ?side4 A86.out).mono ?_); (case side1 => exact kc_ (Kd.R_reads' HO240.out).2.2); (case side2 => exact (Kd.R_reads' HO240.out).2.1); (case side3 => exact kc_ (Kd.R_reads' HO243.out).2.2); (case side4 => exact (Kd.R_reads' HO243.out).2.1); rintro e w101 ⟨v245, v248, rfl, ho0, ho1, hb⟩; refine ⟨_, rfl, ?_⟩; have HO246 := Aside0.mk (Kd.R_lower (rn_ (rn_ (rn_ (rn_ (rn_ (rn_ (rn_ (rn_ ho0 HO_207000.out) HO_207001.out) HO_214000.out) HO_214001.out) HO_222000.out) HO_222001.out) HO240.out) HO243.out) bz_); have HO249 := Aside0.mk (Kd.R_lower (rn_ (rn_ (rn_ (rn_ (rn_ (rn_ (rn_ (rn_ ho1 HO_207000.out) HO_207001.out) HO_214000.out) HO_214001.out) HO_222000.out) HO_222001.out) HO240.out) HO243.out) bz_); replace HO_207000 := rp2_ HO_207000 hb ho0 ho1; replace HO_207001 := rp2_ HO_207001 hb ho0 ho1; replace HO_214000 := rp2_ HO_214000 hb ho0 ho1; replace HO_214001 := rp2_ HO_214001 hb ho0 ho1; replace HO_222000 := rp2_ HO_222000 hb ho0 ho1; replace HO_222001 := rp2_ HO_222001 hb ho0 ho1; replace HO240 := rp2_ HO240 hb ho0 ho1; replace HO243 := rp2_ HO243 hb ho0 ho1; replace BK191 := bb_ BK191 hb; replace BK206 := bb_ BK206 hb; replace BK213 := bb_ BK213 hb; replace BK221 := bb_ BK221 hb; replace HB := Aside0.mk (below_step bl_ hb); clear hb ho0 ho1) | ((with_reducible refine gate_dst (N := 16) rfl ?_); refine box_event rfl (N := 16) rfl (cs := #[.slice none 0 0, .slice none 0 0]) (t := 27) gs_ ?_; intro gb251 hg w102 hbox hb; replace HO_207000 := rb_ HO_207000 hb; replace HO_207001 := rb_ HO_207001 hb; replace HO_214000 := rb_ HO_214000 hb; replace HO_214001 := rb_ HO_214001 hb; replace HO_222000 := rb_ HO_222000 hb; replace HO_222001 := rb_ HO_222001 hb; replace HO240 := rb_ HO240 hb; replace HO243 := rb_ HO243 hb; replace HO246 := rb_ HO246 hb; replace HO249 := rb_ HO249 hb; have BK251 := Aside0.mk (hbox); have GW251 := Aside0.mk ((by rw [hg]; exact bz_ : w.heap.size ≤ gb251)); have GE251 := GW251; replace HB := Aside0.mk (below_step bl_ hb); have NB191_251 := nl_ hg BK191; have NB251_191 := nm_ hg BK191; replace BK191 := bb_ BK191 hb; have NB206_251 := nl_ hg BK206; have NB251_206 := nm_ hg BK206; replace BK206 := bb_ BK206 hb; have NB213_251 := nl_ hg BK213; have NB251_213 := nm_ hg BK213; replace BK213 := bb_ BK213 hb; have NB221_251 := nl_ hg BK221; have NB251_221 := nm_ hg BK221; replace BK221 := bb_ BK221 hb; clear hb hbox hg; obtain ⟨Ao103, co103, eo103⟩ := Kd.R_slice HO246.out; subst eo103; have hnb104 := NB251_191.out; have hnc104 := NB191_251.out; have hnb105 := NB251_206.out; have hnc105 := NB206_251.out; have hnb106 := NB251_213.out; have hnc106 := NB213_251.out; have hnb107 := NB251_221.out; have hnc107 := NB221_251.out; have hcz108_0 : w102.cell? ⟨gb251, 0, none⟩ = some (.slice none 0 0) := bc_ BK251.out 0; have hcz108_1 : w102.cell? ⟨gb251, 1, none⟩ = some (.slice none 0 0) := bc_ BK251.out 1; have hfz108_0 := blk_frozen BK251.out 0; have hfz108_1 := blk_frozen BK251.out 1; obtain ⟨Ao109, co109, eo109⟩ := Kd.R_slice HO249.out; subst eo109))
 (try simp only [Act.put, List.setIfInBounds_toArray, List.set_cons_zero, List.set_cons_succ])
 go_cut [97] (fun v97 wc => ∃ (kq : Nat) (x97_86 : Bool), v97 = .bool x97_86 ∧ Aside0 (laws_FnExactCountBy.j2 kq t234 x97_86 t235 t236 = some r) ∧ Aside0 (kq ≤ kj57) ∧ Aside0 (Kd.R (Kd.int .i64) 3 wc w.heap.size (fun k_ => some k_ ≠ ((.slice Ao26 t202.length co26) : Value).ownBlock ∧ some k_ ≠ ((.slice Ao30 t231.length co30) : Value).ownBlock ∧ some k_ ≠ ((.slice Ao34 t232.length co34) : Value).ownBlock ∧ some k_ ≠ ((.slice Ao37 t214.length co37) : Value).ownBlock ∧ some k_ ≠ ((.slice Ao42 t217.length co42) : Value).ownBlock ∧ some k_ ≠ ((.slice Ao103 t244.length co103) : Value).ownBlock ∧ some k_ ≠ ((.slice Ao109 t247.length co109) : Value).ownBlock) (.slice Ao23 t199.length co23) t199) ∧ Aside0 (Kd.R (Kd.int .i64) 3 wc w.heap.size (fun k_ => some k_ ≠ ((.slice Ao23 t199.length co23) : Value).ownBlock ∧ some k_ ≠ ((.slice Ao30 t231.length co30) : Value).ownBlock ∧ some k_ ≠ ((.slice Ao34 t232.length co34) : Value).ownBlock ∧ some k_ ≠ ((.slice Ao37 t214.length co37) : Value).ownBlock ∧ some k_ ≠ ((.slice Ao42 t217.length co42) : Value).ownBlock ∧ some k_ ≠ ((.slice Ao103 t244.length co103) : Value).ownBlock ∧ some k_ ≠ ((.slice Ao109 t247.length co109) : Value).ownBlock) (.slice Ao26 t202.length co26) t202) ∧ Aside0 (Kd.R (Kd.int .i64) 3 wc w.heap.size (fun k_ => some k_ ≠ ((.slice Ao23 t199.length co23) : Value).ownBlock ∧ some k_ ≠ ((.slice Ao26 t202.length co26) : Value).ownBlock ∧ some k_ ≠ ((.slice Ao34 t232.length co34) : Value).ownBlock ∧ some k_ ≠ ((.slice Ao37 t214.length co37) : Value).ownBlock ∧ some k_ ≠ ((.slice Ao42 t217.length co42) : Value).ownBlock ∧ some k_ ≠ ((.slice Ao103 t244.length co103) : Value).ownBlock ∧ some k_ ≠ ((.slice Ao109 t247.length co109) : Value).ownBlock) (.slice Ao30 t231.length co30) t231) ∧ Aside0 (Kd.R (Kd.int .i64) 3 wc w.heap.size (fun k_ => some k_ ≠ ((.slice Ao23 t199.length co23) : Value).ownBlock ∧ some k_ ≠ ((.slice Ao26 t202.length co26) : Value).ownBlock ∧ some k_ ≠ ((.slice Ao30 t231.length co30) : Value).ownBlock ∧ some k_ ≠ ((.slice Ao37 t214.length co37) : Value).ownBlock ∧ some k_ ≠ ((.slice Ao42 t217.length co42) : Value).ownBlock ∧ some k_ ≠ ((.slice Ao103 t244.length co103) : Value).ownBlock ∧ some k_ ≠ ((.slice Ao109 t247.length co109) : Value).ownBlock) (.slice Ao34 t232.length co34) t232) ∧ Aside0 (Kd.R (Kd.int .i64) 3 wc w.heap.size (fun k_ => some k_ ≠ ((.slice Ao23 t199.length co23) : Value).ownBlock ∧ some k_ ≠ ((.slice Ao26 t202.length co26) : Value).ownBlock ∧ some k_ ≠ ((.slice Ao30 t231.length co30) : Value).ownBlock ∧ some k_ ≠ ((.slice Ao34 t232.length co34) : Value).ownBlock ∧ some k_ ≠ ((.slice Ao42 t217.length co42) : Value).ownBlock ∧ some k_ ≠ ((.slice Ao103 t244.length co103) : Value).ownBlock ∧ some k_ ≠ ((.slice Ao109 t247.length co109) : Value).ownBlock) (.slice Ao37 t214.length co37) t235) ∧ Aside0 (Kd.R (Kd.int .i64) 3 wc w.heap.size (fun k_ => some k_ ≠ ((.slice Ao23 t199.length co23) : Value).ownBlock ∧ some k_ ≠ ((.slice Ao26 t202.length co26) : Value).ownBlock ∧ some k_ ≠ ((.slice Ao30 t231.length co30) : Value).ownBlock ∧ some k_ ≠ ((.slice Ao34 t232.length co34) : Value).ownBlock ∧ some k_ ≠ ((.slice Ao37 t214.length co37) : Value).ownBlock ∧ some k_ ≠ ((.slice Ao103 t244.length co103) : Value).ownBlock ∧ some k_ ≠ ((.slice Ao109 t247.length co109) : Value).ownBlock) (.slice Ao42 t217.length co42) t236) ∧ Aside0 (Kd.R (Kd.int .i64) 3 wc w.heap.size (fun k_ => some k_ ≠ ((.slice Ao23 t199.length co23) : Value).ownBlock ∧ some k_ ≠ ((.slice Ao26 t202.length co26) : Value).ownBlock ∧ some k_ ≠ ((.slice Ao30 t231.length co30) : Value).ownBlock ∧ some k_ ≠ ((.slice Ao34 t232.length co34) : Value).ownBlock ∧ some k_ ≠ ((.slice Ao37 t214.length co37) : Value).ownBlock ∧ some k_ ≠ ((.slice Ao42 t217.length co42) : Value).ownBlock ∧ some k_ ≠ ((.slice Ao109 t247.length co109) : Value).ownBlock) (.slice Ao103 t244.length co103) t244) ∧ Aside0 (Kd.R (Kd.int .i64) 3 wc w.heap.size (fun k_ => some k_ ≠ ((.slice Ao23 t199.length co23) : Value).ownBlock ∧ some k_ ≠ ((.slice Ao26 t202.length co26) : Value).ownBlock ∧ some k_ ≠ ((.slice Ao30 t231.length co30) : Value).ownBlock ∧ some k_ ≠ ((.slice Ao34 t232.length co34) : Value).ownBlock ∧ some k_ ≠ ((.slice Ao37 t214.length co37) : Value).ownBlock ∧ some k_ ≠ ((.slice Ao42 t217.length co42) : Value).ownBlock ∧ some k_ ≠ ((.slice Ao103 t244.length co103) : Value).ownBlock) (.slice Ao109 t247.length co109) t247) ∧ Aside0 (wc.heap[gb191]? = some (.cells #[(.slice A0_0 l0_0.length c0_0), (.slice A0_1 l0_1.length c0_1)] 24 (0, 0))) ∧ Aside0 (wc.heap[gb206]? = some (.cells #[(.slice Ao23 t199.length co23), (.slice Ao26 t202.length co26)] 27 (0, 0))) ∧ Aside0 (wc.heap[gb213]? = some (.cells #[(.slice Ao30 t231.length co30), (.slice Ao34 t232.length co34)] 27 (0, 0))) ∧ Aside0 (wc.heap[gb221]? = some (.cells #[(.slice Ao37 t214.length co37), (.slice Ao42 t217.length co42)] 27 (0, 0))) ∧ Aside0 (wc.heap[gb251]? = some (.cells #[(.slice Ao103 t244.length co103), (.slice Ao109 t247.length co109)] 27 (0, 0))) ∧ Aside0 (Below w.heap.size w wc))
 case first =>
  have H := HC87.out
  clear HC87
  replace H := Option.bind_eq_some_iff.mp H
  obtain ⟨t252, A1100, H⟩ := H
  replace H : (if t252 = true then (laws_FnExactCountBy.j2 kj57 t234 (t250 != t205) t235 t236) else (none)) = some r := H
  have A110 := Aside0.mk A1100
  clear A1100
  by_cases c111 : t252 = true
  rotate_left
  ·replace c111 := Bool.eq_false_iff.mpr c111
   subst c111
   have H1 : (none) = some r := by rw [if_neg (show ¬ (false = true) by decide)] at H; exact H
   clear H
   have H := H1
   clear H1
   exact absurd H (by simp)
  subst c111
  have H1 : (laws_FnExactCountBy.j2 kj57 t234 (t250 != t205) t235 t236) = some r := by rw [if_pos rfl] at H; exact H
  clear H
  have H := H1
  clear H1
  have H' := Aside0.mk H
  clear H
  have hnb112 := NB251_191.out
  have hnc112 := NB191_251.out
  have hnb113 := NB251_206.out
  have hnc113 := NB206_251.out
  have hnb114 := NB251_213.out
  have hnc114 := NB213_251.out
  have hnb115 := NB251_221.out
  have hnc115 := NB221_251.out
  have hcz116_0 : w102.cell? ⟨gb251, 0, none⟩ = some (.slice none 0 0) := bc_ BK251.out 0
  have hcz116_1 : w102.cell? ⟨gb251, 1, none⟩ = some (.slice none 0 0) := bc_ BK251.out 1
  have hfz116_0 := blk_frozen BK251.out 0
  have hfz116_1 := blk_frozen BK251.out 1
  have hnb117 := NB206_191.out
  have hnc117 := NB191_206.out
  have hnb118 := NB206_213.out
  have hnc118 := NB213_206.out
  have hnb119 := NB206_221.out
  have hnc119 := NB221_206.out
  have hcz120_0 : w102.cell? ⟨gb206, 0, none⟩ = some (.slice Ao23 t199.length co23) := bc_ BK206.out 0
  have hcz120_1 : w102.cell? ⟨gb206, 1, none⟩ = some (.slice Ao26 t202.length co26) := bc_ BK206.out 1
  have hfz120_0 := blk_frozen BK206.out 0
  have hfz120_1 := blk_frozen BK206.out 1
  go_wp2_with (first | ((with_reducible refine gate_callee (f := 14) rfl ?_); refine goesL_ (some 91) rfl rfl Try.func14 (by kernel_rfl) rfl #[.agg #[.slice Ao103 t244.length co103, .slice Ao109 t247.length co109], .agg #[.slice Ao23 t199.length co23, .slice Ao26 t202.length co26]] rfl nc_ ?_; (with_reducible refine (laws_eqCounter.calls kj57 _ _ t244 _ _ t247 _ _ t199 _ _ t202 true _ ?side1 ?side2 ?side3 ?side4 ?side5 ?side6 ?side7 ?side8 A110.out).mono ?_); (case side1 => refine (Kd.R_reads' (e := 3) (base := w.heap.size) (ok := fun k_ => ((((((((some k_ ≠ (.slice Ao109 t247.length co109 : Value).ownBlock ∧ some k_ ≠ (.slice Ao23 t199.length co23 : Value).ownBlock) ∧ some k_ ≠ (.slice Ao26 t202.length co26 : Value).ownBlock) ∧ some k_ ≠ (.slice Ao30 t231.length co30 : Value).ownBlock) ∧ some k_ ≠ (.slice Ao34 t232.length co34 : Value).ownBlock) ∧ some k_ ≠ (.slice Ao37 t214.length co37 : Value).ownBlock) ∧ some k_ ≠ (.slice Ao42 t217.length co42 : Value).ownBlock) ∧ some k_ ≠ (.slice Ao99 t238.length co99 : Value).ownBlock) ∧ some k_ ≠ (.slice Ao100 t241.length co100 : Value).ownBlock)) (n := t244.length) (c := co103) ?_).2.2; exact (kr_ (rs2_ HO246.out BK251.out (.slice Ao103 t244.length co103) (.slice Ao109 t247.length co109)))); (case side2 => exact (Kd.R_reads' HO246.out).2.1); (case side3 => refine (Kd.R_reads' (e := 3) (base := w.heap.size) (ok := fun k_ => ((((((((some k_ ≠ (.slice Ao103 t244.length co103 : Value).ownBlock ∧ some k_ ≠ (.slice Ao23 t199.length co23 : Value).ownBlock) ∧ some k_ ≠ (.slice Ao26 t202.length co26 : Value).ownBlock) ∧ some k_ ≠ (.slice Ao30 t231.length co30 : Value).ownBlock) ∧ some k_ ≠ (.slice Ao34 t232.length co34 : Value).ownBlock) ∧ some k_ ≠ (.slice Ao37 t214.length co37 : Value).ownBlock) ∧ some k_ ≠ (.slice Ao42 t217.length co42 : Value).ownBlock) ∧ some k_ ≠ (.slice Ao99 t238.length co99 : Value).ownBlock) ∧ some k_ ≠ (.slice Ao100 t241.length co100 : Value).ownBlock)) (n := t247.length) (c := co109) ?_).2.2; exact (kr_ (rs2_ HO249.out BK251.out (.slice Ao103 t244.length co103) (.slice Ao109 t247.length co109)))); (case side4 => exact (Kd.R_reads' HO249.out).2.1); (case side5 => refine (Kd.R_reads' (e := 3) (base := w.heap.size) (ok := fun k_ => (((((some k_ ≠ (.slice Ao26 t202.length co26 : Value).ownBlock ∧ (some k_ ≠ (.slice Ao30 t231.length co30 : Value).ownBlock ∧ (some k_ ≠ (.slice Ao34 t232.length co34 : Value).ownBlock ∧ (some k_ ≠ (.slice Ao37 t214.length co37 : Value).ownBlock ∧ some k_ ≠ (.slice Ao42 t217.length co42 : Value).ownBlock)))) ∧ some k_ ≠ (.slice Ao99 t238.length co99 : Value).ownBlock) ∧ some k_ ≠ (.slice Ao100 t241.length co100 : Value).ownBlock) ∧ some k_ ≠ (.slice Ao103 t244.length co103 : Value).ownBlock) ∧ some k_ ≠ (.slice Ao109 t247.length co109 : Value).ownBlock)) (n := t199.length) (c := co23) ?_).2.2; exact (kr_ (rs2_ HO_207000.out BK251.out (.slice Ao103 t244.length co103) (.slice Ao109 t247.length co109)))); (case side6 => exact (Kd.R_reads' HO_207000.out).2.1); (case side7 => refine (Kd.R_reads' (e := 3) (base := w.heap.size) (ok := fun k_ => (((((some k_ ≠ (.slice Ao23 t199.length co23 : Value).ownBlock ∧ (some k_ ≠ (.slice Ao30 t231.length co30 : Value).ownBlock ∧ (some k_ ≠ (.slice Ao34 t232.length co34 : Value).ownBlock ∧ (some k_ ≠ (.slice Ao37 t214.length co37 : Value).ownBlock ∧ some k_ ≠ (.slice Ao42 t217.length co42 : Value).ownBlock)))) ∧ some k_ ≠ (.slice Ao99 t238.length co99 : Value).ownBlock) ∧ some k_ ≠ (.slice Ao100 t241.length co100 : Value).ownBlock) ∧ some k_ ≠ (.slice Ao103 t244.length co103 : Value).ownBlock) ∧ some k_ ≠ (.slice Ao109 t247.length co109 : Value).ownBlock)) (n := t202.length) (c := co26) ?_).2.2; exact (kr_ (rs2_ HO_207001.out BK251.out (.slice Ao103 t244.length co103) (.slice Ao109 t247.length co109)))); (case side8 => exact (Kd.R_reads' HO_207001.out).2.1); rintro e w121 ⟨rfl, hb⟩; refine ⟨_, rfl, ?_⟩; replace HO_207000 := Aside0.mk (Kd.R_below (kr_ (rs2_ HO_207000.out BK251.out (.slice Ao103 t244.length co103) (.slice Ao109 t247.length co109))) hb); replace HO_207001 := Aside0.mk (Kd.R_below (kr_ (rs2_ HO_207001.out BK251.out (.slice Ao103 t244.length co103) (.slice Ao109 t247.length co109))) hb); replace HO_214000 := Aside0.mk (Kd.R_below (kr_ (rs2_ HO_214000.out BK251.out (.slice Ao103 t244.length co103) (.slice Ao109 t247.length co109))) hb); replace HO_214001 := Aside0.mk (Kd.R_below (kr_ (rs2_ HO_214001.out BK251.out (.slice Ao103 t244.length co103) (.slice Ao109 t247.length co109))) hb); replace HO_222000 := Aside0.mk (Kd.R_below (kr_ (rs2_ HO_222000.out BK251.out (.slice Ao103 t244.length co103) (.slice Ao109 t247.length co109))) hb); replace HO_222001 := Aside0.mk (Kd.R_below (kr_ (rs2_ HO_222001.out BK251.out (.slice Ao103 t244.length co103) (.slice Ao109 t247.length co109))) hb); replace HO240 := Aside0.mk (Kd.R_below (kr_ (rs2_ HO240.out BK251.out (.slice Ao103 t244.length co103) (.slice Ao109 t247.length co109))) hb); replace HO243 := Aside0.mk (Kd.R_below (kr_ (rs2_ HO243.out BK251.out (.slice Ao103 t244.length co103) (.slice Ao109 t247.length co109))) hb); replace HO246 := Aside0.mk (Kd.R_below (kr_ (rs2_ HO246.out BK251.out (.slice Ao103 t244.length co103) (.slice Ao109 t247.length co109))) hb); replace HO249 := Aside0.mk (Kd.R_below (kr_ (rs2_ HO249.out BK251.out (.slice Ao103 t244.length co103) (.slice Ao109 t247.length co109))) hb); replace BK191 := Aside0.mk (blk_below (g := gb191) (o := .cells #[.slice A0_0 l0_0.length c0_0, .slice A0_1 l0_1.length c0_1] 24 (0, 0)) kz_ hb); replace BK206 := Aside0.mk (blk_below (g := gb206) (o := .cells #[.slice Ao23 t199.length co23, .slice Ao26 t202.length co26] 27 (0, 0)) kz_ hb); replace BK213 := Aside0.mk (blk_below (g := gb213) (o := .cells #[.slice Ao30 t231.length co30, .slice Ao34 t232.length co34] 27 (0, 0)) kz_ hb); replace BK221 := Aside0.mk (blk_below (g := gb221) (o := .cells #[.slice Ao37 t214.length co37, .slice Ao42 t217.length co42] 27 (0, 0)) kz_ hb); replace BK251 := Aside0.mk (blk_below (g := gb251) (o := .cells #[.slice Ao103 t244.length co103, .slice Ao109 t247.length co109] 27 (0, 0)) (by (with_reducible repeat (first | refine blk_drewN ?_ _ | refine blk_drew ?_ | refine blk_alloc ?_ _)); refine blk_put (cs := #[.slice Ao103 t244.length co103, .slice none 0 0]) ?_ 1 _ rfl; (with_reducible repeat (first | refine blk_drewN ?_ _ | refine blk_drew ?_ | refine blk_alloc ?_ _)); refine blk_put (cs := #[.slice none 0 0, .slice none 0 0]) ?_ 0 _ rfl; exact kb_ BK251.out) hb); replace HB := Aside0.mk (below_step bl_ hb); clear hb))
  go_meet
  case rel => exact ⟨_, ((t250 != t205)), (by first | rfl | (simp; done) | (simp [*]; done)), H', ⟨by have := HJ12.out; have := HJ57.out; first | omega | exact Nat.le_refl _⟩, ⟨by (try simp only [hl214000_57]); (try simp only [hl214001_57]); exact kr_ (Kd.R_mono HO_207000.out (fun _ hk => ⟨hk.1.1.1.1.1, ⟨hk.1.1.1.1.2.1, ⟨hk.1.1.1.1.2.2.1, ⟨hk.1.1.1.1.2.2.2.1, ⟨hk.1.1.1.1.2.2.2.2, ⟨hk.1.2, hk.2⟩⟩⟩⟩⟩⟩))⟩, ⟨by (try simp only [hl214000_57]); (try simp only [hl214001_57]); exact kr_ (Kd.R_mono HO_207001.out (fun _ hk => ⟨hk.1.1.1.1.1, ⟨hk.1.1.1.1.2.1, ⟨hk.1.1.1.1.2.2.1, ⟨hk.1.1.1.1.2.2.2.1, ⟨hk.1.1.1.1.2.2.2.2, ⟨hk.1.2, hk.2⟩⟩⟩⟩⟩⟩))⟩, ⟨by (try simp only [hl214000_57]); (try simp only [hl214001_57]); exact kr_ (Kd.R_mono HO_214000.out (fun _ hk => ⟨hk.1.1.1.1.1, ⟨hk.1.1.1.1.2.1, ⟨hk.1.1.1.1.2.2.1, ⟨hk.1.1.1.1.2.2.2.1, ⟨hk.1.1.1.1.2.2.2.2, ⟨hk.1.2, hk.2⟩⟩⟩⟩⟩⟩))⟩, ⟨by (try simp only [hl214000_57]); (try simp only [hl214001_57]); exact kr_ (Kd.R_mono HO_214001.out (fun _ hk => ⟨hk.1.1.1.1.1, ⟨hk.1.1.1.1.2.1, ⟨hk.1.1.1.1.2.2.1, ⟨hk.1.1.1.1.2.2.2.1, ⟨hk.1.1.1.1.2.2.2.2, ⟨hk.1.2, hk.2⟩⟩⟩⟩⟩⟩))⟩, ⟨by (try simp only [hl214000_57]); (try simp only [hl214001_57]); exact kr_ (Kd.R_mono HO_222000.out (fun _ hk => ⟨hk.1.1.1.1.1, ⟨hk.1.1.1.1.2.1, ⟨hk.1.1.1.1.2.2.1, ⟨hk.1.1.1.1.2.2.2.1, ⟨hk.1.1.1.1.2.2.2.2, ⟨hk.1.2, hk.2⟩⟩⟩⟩⟩⟩))⟩, ⟨by (try simp only [hl214000_57]); (try simp only [hl214001_57]); exact kr_ (Kd.R_mono HO_222001.out (fun _ hk => ⟨hk.1.1.1.1.1, ⟨hk.1.1.1.1.2.1, ⟨hk.1.1.1.1.2.2.1, ⟨hk.1.1.1.1.2.2.2.1, ⟨hk.1.1.1.1.2.2.2.2, ⟨hk.1.2, hk.2⟩⟩⟩⟩⟩⟩))⟩, ⟨by (try simp only [hl214000_57]); (try simp only [hl214001_57]); exact kr_ (Kd.R_mono HO246.out (fun _ hk => ⟨hk.1.1.1.1.1.1.1.2, ⟨hk.1.1.1.1.1.1.2, ⟨hk.1.1.1.1.1.2, ⟨hk.1.1.1.1.2, ⟨hk.1.1.1.2, ⟨hk.1.1.2, hk.1.1.1.1.1.1.1.1⟩⟩⟩⟩⟩⟩))⟩, ⟨by (try simp only [hl214000_57]); (try simp only [hl214001_57]); exact kr_ (Kd.R_mono HO249.out (fun _ hk => ⟨hk.1.1.1.1.1.1.1.2, ⟨hk.1.1.1.1.1.1.2, ⟨hk.1.1.1.1.1.2, ⟨hk.1.1.1.1.2, ⟨hk.1.1.1.2, ⟨hk.1.1.2, hk.1.1.1.1.1.1.1.1⟩⟩⟩⟩⟩⟩))⟩, ⟨by (try simp only [hl214000_57]); (try simp only [hl214001_57]); exact kb_ BK191.out⟩, ⟨by (try simp only [hl214000_57]); (try simp only [hl214001_57]); exact kb_ BK206.out⟩, ⟨by (try simp only [hl214000_57]); (try simp only [hl214001_57]); exact kb_ BK213.out⟩, ⟨by (try simp only [hl214000_57]); (try simp only [hl214001_57]); exact kb_ BK221.out⟩, ⟨by (try simp only [hl214000_57]); (try simp only [hl214001_57]); exact kb_ BK251.out⟩, ⟨bl_⟩⟩
 clear HC87
 try clear c1
 try clear c2
 try clear p2
 try clear c3
 try clear c4
 try clear c5
 try clear c5b0
 try clear c6
 try clear c7
 try clear c8
 try clear c9
 try clear c10
 try clear c11
 try clear c12
 try clear c14
 try clear c24
 try clear c25
 try clear c26
 try clear c27
 try clear c28
 try clear c31
 try clear c32
 try clear c38
 try clear c39
 try clear c40
 try clear c44
 try clear c45
 try clear c46
 try clear c47
 try clear c49
 try clear c50
 try clear c53
 try clear c56
 try clear c64
 try clear c65
 try clear c66
 try clear c69
 try clear c69b0
 try clear c71
 try clear c72
 try clear c73
 try clear c74
 try clear c76
 try clear c77
 try clear c80
 try clear c83
 try clear c83b0
 try clear c84
 try clear c84b0
 try clear c84b1
 try clear c88
 try clear c89
 try clear c90
 try clear c95
 try clear c96
 try clear c104
 try clear c105
 try clear c106
 try clear c107
 try clear c111
 try clear c112
 try clear c113
 try clear c114
 try clear c115
 try clear c117
 try clear c118
 try clear c119
 try clear hcz108_0
 try clear hcz108_1
 try clear hcz116_0
 try clear hcz116_1
 try clear hcz120_0
 try clear hcz120_1
 try clear hcz15_0
 try clear hcz15_1
 try clear hcz17_0
 try clear hcz17_1
 try clear hcz25_0
 try clear hcz25_1
 try clear hcz27_0
 try clear hcz27_1
 try clear hcz33_0
 try clear hcz33_1
 try clear hcz41_0
 try clear hcz41_1
 try clear hcz48_0
 try clear hcz48_1
 try clear hcz51_0
 try clear hcz51_1
 try clear hcz67_0
 try clear hcz67_1
 try clear hcz75_0
 try clear hcz75_1
 try clear hcz78_0
 try clear hcz78_1
 try clear hcz7_0
 try clear hcz7_1
 try clear hcz91_0
 try clear hcz91_1
 try clear hcz93_0
 try clear hcz93_1
 try clear hcz97_0
 try clear hcz97_1
 try clear hfz108_0
 try clear hfz108_1
 try clear hfz116_0
 try clear hfz116_1
 try clear hfz120_0
 try clear hfz120_1
 try clear hfz15_0
 try clear hfz15_1
 try clear hfz17_0
 try clear hfz17_1
 try clear hfz25_0
 try clear hfz25_1
 try clear hfz27_0
 try clear hfz27_1
 try clear hfz33_0
 try clear hfz33_1
 try clear hfz41_0
 try clear hfz41_1
 try clear hfz48_0
 try clear hfz48_1
 try clear hfz51_0
 try clear hfz51_1
 try clear hfz67_0
 try clear hfz67_1
 try clear hfz75_0
 try clear hfz75_1
 try clear hfz78_0
 try clear hfz78_1
 try clear hfz7_0
 try clear hfz7_1
 try clear hfz91_0
 try clear hfz91_1
 try clear hfz93_0
 try clear hfz93_1
 try clear hfz97_0
 try clear hfz97_1
 try clear p2
 obtain ⟨kq, x97_86, rfl, HA, HJ86, HO_207000, HO_207001, HO_214000, HO_214001, HO_222000, HO_222001, HO_252000, HO_252001, BK191, BK206, BK213, BK221, BK251, HB⟩ := hcut
 have hl222000_86 := (Kd.R_reads' HO_222000.out).1
 rw [hl222000_86] at HO_222000
 (try simp only [hl222000_86])
 (try simp only [hl222000_86] at BK191)
 (try simp only [hl222000_86] at BK206)
 (try simp only [hl222000_86] at BK213)
 (try simp only [hl222000_86] at BK221)
 (try simp only [hl222000_86] at BK251)
 (try simp only [hl222000_86] at HO_207000)
 (try simp only [hl222000_86] at HO_207001)
 (try simp only [hl222000_86] at HO_214000)
 (try simp only [hl222000_86] at HO_214001)
 (try simp only [hl222000_86] at HO_222001)
 (try simp only [hl222000_86] at HO_252000)
 (try simp only [hl222000_86] at HO_252001)
 have hl222001_86 := (Kd.R_reads' HO_222001.out).1
 rw [hl222001_86] at HO_222001
 (try simp only [hl222001_86])
 (try simp only [hl222001_86] at BK191)
 (try simp only [hl222001_86] at BK206)
 (try simp only [hl222001_86] at BK213)
 (try simp only [hl222001_86] at BK221)
 (try simp only [hl222001_86] at BK251)
 (try simp only [hl222001_86] at HO_207000)
 (try simp only [hl222001_86] at HO_207001)
 (try simp only [hl222001_86] at HO_214000)
 (try simp only [hl222001_86] at HO_214001)
 (try simp only [hl222001_86] at HO_222000)
 (try simp only [hl222001_86] at HO_252000)
 (try simp only [hl222001_86] at HO_252001)
 cases kq with
 | zero => exact absurd HA.out (by simp [laws_FnExactCountBy.j2])
 | succ kj86 => ?_
 have H := HA.out
 clear HA
 simp only [laws_FnExactCountBy.j2] at H
 by_cases c122 : x97_86 = true
 ·subst c122
  have H1 : (none) = some r := by rw [if_pos rfl] at H; exact H
  clear H
  have H := H1
  clear H1
  exact absurd H (by simp)
 replace c122 := Bool.eq_false_iff.mpr c122
 subst c122
 have H1 : ((laws_heldCounter.f kj86 t235 t236 1).bind fun t253 => (if t253 < 0 then (none) else (if t253 = t234 then (some true) else (none)))) = some r := by rw [if_neg (show ¬ (false = true) by decide)] at H; exact H
 clear H
 have H := H1
 clear H1
 replace H := Option.bind_eq_some_iff.mp H
 obtain ⟨t253, A1230, H⟩ := H
 replace H : (if t253 < 0 then (none) else (if t253 = t234 then (some true) else (none))) = some r := H
 have A123 := Aside0.mk A1230
 clear A1230
 by_cases c124 : t253 < 0
 ·rw [if_pos c124] at H
  exact absurd H (by simp)
 rw [if_neg c124] at H
 have c124b0 : decide (t253 < 0) = false := decide_eq_false c124
 clear c124
 by_cases c125 : t253 = t234
 rotate_left
 ·rw [if_neg c125] at H
  exact absurd H (by simp)
 rw [if_pos c125] at H
 have c125b0 : (t253 == t234) = true := beq_iff_eq.mpr c125
 have c125b1 : (t253 != t234) = false := bne_eq_false_iff_eq.mpr c125
 clear c125
 obtain rfl := Option.some.inj H
 have hnb126 := NB221_191.out
 have hnc126 := NB191_221.out
 have hnb127 := NB221_206.out
 have hnc127 := NB206_221.out
 have hnb128 := NB221_213.out
 have hnc128 := NB213_221.out
 have hnb129 := NB221_251.out
 have hnc129 := NB251_221.out
 have hcz130_0 : wc.cell? ⟨gb221, 0, none⟩ = some (.slice Ao37 t235.length co37) := bc_ BK221.out 0
 have hcz130_1 : wc.cell? ⟨gb221, 1, none⟩ = some (.slice Ao42 t236.length co42) := bc_ BK221.out 1
 have hfz130_0 := blk_frozen BK221.out 0
 have hfz130_1 := blk_frozen BK221.out 1
 go_wp2_with (first | ((with_reducible refine gate_callee (f := 26) rfl ?_); refine goesL_ (some 100) rfl rfl Try.func26 (by kernel_rfl) rfl #[.agg #[.slice Ao37 t235.length co37, .slice Ao42 t236.length co42], .int .i64 1] rfl nc_ ?_; (with_reducible refine (laws_heldCounter.calls kj86 _ _ t235 _ _ t236 1 t253 _ ?side1 ?side2 ?side3 ?side4 A123.out).mono ?_); (case side1 => exact kc_ (Kd.R_reads' HO_222000.out).2.2); (case side2 => exact (Kd.R_reads' HO_222000.out).2.1); (case side3 => exact kc_ (Kd.R_reads' HO_222001.out).2.2); (case side4 => exact (Kd.R_reads' HO_222001.out).2.1); rintro e w131 ⟨rfl, hb⟩; refine ⟨_, rfl, ?_⟩; replace HO_207000 := rb_ HO_207000 hb; replace HO_207001 := rb_ HO_207001 hb; replace HO_214000 := rb_ HO_214000 hb; replace HO_214001 := rb_ HO_214001 hb; replace HO_222000 := rb_ HO_222000 hb; replace HO_222001 := rb_ HO_222001 hb; replace HO_252000 := rb_ HO_252000 hb; replace HO_252001 := rb_ HO_252001 hb; replace BK191 := bb_ BK191 hb; replace BK206 := bb_ BK206 hb; replace BK213 := bb_ BK213 hb; replace BK221 := bb_ BK221 hb; replace BK251 := bb_ BK251 hb; replace HB := Aside0.mk (below_step bl_ hb); clear hb))
 go_ret
 exact ⟨ng_, bl_⟩

end Go.Proofs.Ytcloilddgimamaa.PCB
