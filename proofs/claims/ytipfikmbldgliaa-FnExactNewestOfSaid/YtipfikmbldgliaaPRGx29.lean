/- What this text proves: the machine calls of these functions return what the plain functions say. Conditions: as each theorem says. Printed by a program of this session out of the translation. -/
import Derived.Test.YtipfikmbldgliaaPRGx0
import Derived.Test.YtipfikmbldgliaaPRGx1
import Derived.Test.YtipfikmbldgliaaPRGx2
import Derived.Test.YtipfikmbldgliaaPRGx3
import Derived.Test.YtipfikmbldgliaaPRGx5
import Derived.Test.YtipfikmbldgliaaPRGx28
namespace Go.Proofs.Ytipfikmbldgliaa.PRG
open Go.RowKit Go.Proofs.YtipfikmbldgliaaW.PrintWords Go.Proofs.YtipfikmbldgliaaW.PrintLast Go.Proofs.YtipfikmbldgliaaW.PrintMore
attribute [local go_sem] max2_int min2_int max_two min_two max_three min_three max_four min_four   -- for this text's walks alone
set_option linter.unusedVariables false
set_option linter.unusedSimpArgs false

/-! ### laws_FnExactNewestOf: function 5 -/
def laws_FnExactNewestOf.j0 : Nat → Bool → Int → List (S109) → List (S112) → Int → List (S40) → List (S83) → Option (Bool)
 | 0, _, _, _, _, _, _, _ => none
 | k + 1, x35, x293000, x293001, x293002, x314000, x314001, x314002 => if x35 = true then (none) else ((laws_toRegister.f k x293000 x293001 x293002).bind fun bt320 => ((laws_eqRegister.f k x314000 x314001 x314002 bt320.1 bt320.2.1 bt320.2.2).bind fun t327 => (if t327 = true then (some true) else (none))))
def laws_FnExactNewestOf.f (k : Nat) (a0_0 : Int) (l0_1 : List (S109)) (l0_2 : List (S112)) : Option (Bool) := (laws_szRegister.f k a0_0 l0_1 l0_2 1048576).bind fun t293 => (if t293 < 0 then (some true) else ((laws_toRegister.f k a0_0 l0_1 l0_2).bind fun bt294 => ((spec_NewestOf.f k bt294.1 bt294.2.1 bt294.2.2).bind fun bt301 => ((laws_toRegister.f k a0_0 l0_1 l0_2).bind fun bt306 => ((impl_NewestOf.f k bt306.1 bt306.2.1 bt306.2.2).bind fun bt314 => ((laws_eqCopy.f bt314.1 bt314.2.1 bt314.2.2.1 bt301.1 bt301.2.1 bt301.2.2.1).bind fun t319 => (if t319 = true then (laws_FnExactNewestOf.j0 k (bt314.2.2.2 != bt301.2.2.2) a0_0 l0_1 l0_2 bt306.1 bt306.2.1 bt306.2.2) else (none))))))))
theorem laws_FnExactNewestOf.mono_l : ∀ k, (∀ y0 y1 y2 y3 y4 y5 y6, LeO (laws_FnExactNewestOf.j0 k y0 y1 y2 y3 y4 y5 y6) (laws_FnExactNewestOf.j0 (k + 1) y0 y1 y2 y3 y4 y5 y6))
 | 0 => fun _ _ _ _ _ _ _ r h => by simp [laws_FnExactNewestOf.j0] at h
 | k + 1 => by
  have ih0 := laws_FnExactNewestOf.mono_l k
  ·intro y0 y1 y2 y3 y4 y5 y6
   unfold laws_FnExactNewestOf.j0
   repeat' first
   | (with_reducible exact ih0 _ _ _ _ _ _ _)
   | (with_reducible exact impl_NewestOf.mono _ _ _ _)
   | (with_reducible exact laws_eqRegister.mono _ _ _ _ _ _ _)
   | (with_reducible exact laws_szRegister.mono _ _ _ _ _)
   | (with_reducible exact laws_toRegister.mono _ _ _ _)
   | (with_reducible exact spec_NewestOf.mono _ _ _ _)
   | (with_reducible exact LeO.refl _)
   | (with_reducible exact LeO.none _)
   | (with_reducible refine LeO.ite ?_ ?_)
   | (with_reducible refine LeO.bind ?_ (fun _ => ?_))
   | exact ih0 _ _ _ _ _ _ _
   | exact impl_NewestOf.mono _ _ _ _
   | exact laws_eqRegister.mono _ _ _ _ _ _ _
   | exact laws_szRegister.mono _ _ _ _ _
   | exact laws_toRegister.mono _ _ _ _
   | exact spec_NewestOf.mono _ _ _ _
   | exact LeO.none _
   | refine LeO.ite ?_ ?_
   | refine LeO.bind ?_ (fun _ => ?_)
theorem laws_FnExactNewestOf.mono : ∀ a0 a1 a2 k, LeO (laws_FnExactNewestOf.f k a0 a1 a2) (laws_FnExactNewestOf.f (k + 1) a0 a1 a2) := by
 intro a0 a1 a2 k
 have ih0 := laws_FnExactNewestOf.mono_l k
 unfold laws_FnExactNewestOf.f
 repeat' first
   | (with_reducible exact ih0 _ _ _ _ _ _ _)
   | (with_reducible exact impl_NewestOf.mono _ _ _ _)
   | (with_reducible exact laws_eqRegister.mono _ _ _ _ _ _ _)
   | (with_reducible exact laws_szRegister.mono _ _ _ _ _)
   | (with_reducible exact laws_toRegister.mono _ _ _ _)
   | (with_reducible exact spec_NewestOf.mono _ _ _ _)
   | (with_reducible exact LeO.refl _)
   | (with_reducible exact LeO.none _)
   | (with_reducible refine LeO.ite ?_ ?_)
   | (with_reducible refine LeO.bind ?_ (fun _ => ?_))
   | exact ih0 _ _ _ _ _ _ _
   | exact impl_NewestOf.mono _ _ _ _
   | exact laws_eqRegister.mono _ _ _ _ _ _ _
   | exact laws_szRegister.mono _ _ _ _ _
   | exact laws_toRegister.mono _ _ _ _
   | exact spec_NewestOf.mono _ _ _ _
   | exact LeO.none _
   | refine LeO.ite ?_ ?_
   | refine LeO.bind ?_ (fun _ => ?_)
set_option maxHeartbeats 8000000 in
set_option maxRecDepth 100000 in
theorem laws_FnExactNewestOf.calls (k : Nat) (a0_0 : Int) (A0_1 : Option Addr) (c0_1 : Nat) (l0_1 : List (S109)) (A0_2 : Option Addr) (c0_2 : Nat) (l0_2 : List (S112)) (r : Bool) (w : World) (hr0_1 : Kd.C k109 w A0_1 l0_1.length l0_1) (hc0_1 : l0_1.length ≤ c0_1) (hr0_2 : Kd.C k112 w A0_2 l0_2.length l0_2) (hc0_2 : l0_2.length ≤ c0_2) (h : laws_FnExactNewestOf.f k a0_0 l0_1 l0_2 = some r) :
  Calls Try.prog 5 #[.agg #[.int .i64 a0_0, .slice A0_1 l0_1.length c0_1, .slice A0_2 l0_2.length c0_2]] w fun e w' => e = .returned (.bool r) ∧ Below w.heap.size w w' := by
 have hu34 := Try.underlying34
 have hu40 := Try.underlying40
 have hu25 := Try.underlying25
 have HR0_1 := Aside0.mk hr0_1
 have HC0_1 := Aside0.mk hc0_1
 clear hr0_1 hc0_1
 have HR0_2 := Aside0.mk hr0_2
 have HC0_2 := Aside0.mk hc0_2
 clear hr0_2 hc0_2
 have HB := Aside0.mk (Below.refl w.heap.size w)
 have H : ((laws_szRegister.f k a0_0 l0_1 l0_2 1048576).bind fun t293 => (if t293 < 0 then (some true) else ((laws_toRegister.f k a0_0 l0_1 l0_2).bind fun bt294 => ((spec_NewestOf.f k bt294.1 bt294.2.1 bt294.2.2).bind fun bt301 => ((laws_toRegister.f k a0_0 l0_1 l0_2).bind fun bt306 => ((impl_NewestOf.f k bt306.1 bt306.2.1 bt306.2.2).bind fun bt314 => ((laws_eqCopy.f bt314.1 bt314.2.1 bt314.2.2.1 bt301.1 bt301.2.1 bt301.2.2.1).bind fun t319 => (if t319 = true then (laws_FnExactNewestOf.j0 k (bt314.2.2.2 != bt301.2.2.2) a0_0 l0_1 l0_2 bt306.1 bt306.2.1 bt306.2.2) else (none))))))))) = some r := h
 clear h
 replace H := Option.bind_eq_some_iff.mp H
 obtain ⟨t293, A20, H⟩ := H
 replace H : (if t293 < 0 then (some true) else ((laws_toRegister.f k a0_0 l0_1 l0_2).bind fun bt294 => ((spec_NewestOf.f k bt294.1 bt294.2.1 bt294.2.2).bind fun bt301 => ((laws_toRegister.f k a0_0 l0_1 l0_2).bind fun bt306 => ((impl_NewestOf.f k bt306.1 bt306.2.1 bt306.2.2).bind fun bt314 => ((laws_eqCopy.f bt314.1 bt314.2.1 bt314.2.2.1 bt301.1 bt301.2.1 bt301.2.2.1).bind fun t319 => (if t319 = true then (laws_FnExactNewestOf.j0 k (bt314.2.2.2 != bt301.2.2.2) a0_0 l0_1 l0_2 bt306.1 bt306.2.1 bt306.2.2) else (none)))))))) = some r := H
 have A2 := Aside0.mk A20
 clear A20
 by_cases c3 : t293 < 0
 ·rw [if_pos c3] at H
  have c3b0 : decide (t293 < 0) = true := decide_eq_true c3
  clear c3
  obtain rfl := Option.some.inj H
  go_enter Try.func5, Try.ntmps5
  go_wp2_with (first | ((with_reducible refine gate_dst (N := 1) rfl ?_); refine box_event rfl (N := 1) rfl (cs := #[.int .i64 a0_0, .slice A0_1 l0_1.length c0_1, .slice A0_2 l0_2.length c0_2]) (t := 34) gs_ ?_; intro gb292 hg w4 hbox hb; have BK292 := Aside0.mk (hbox); have GW292 := Aside0.mk ((by rw [hg]; exact bz_ : w.heap.size ≤ gb292)); have GE292 := GW292; replace HB := Aside0.mk (below_step bl_ hb); clear hb hbox hg; have hcz5_0 : w4.cell? ⟨gb292, 0, none⟩ = some (.int .i64 a0_0) := bc_ BK292.out 0; have hcz5_1 : w4.cell? ⟨gb292, 1, none⟩ = some (.slice A0_1 l0_1.length c0_1) := bc_ BK292.out 1; have hcz5_2 : w4.cell? ⟨gb292, 2, none⟩ = some (.slice A0_2 l0_2.length c0_2) := bc_ BK292.out 2; have hfz5_0 := blk_frozen BK292.out 0; have hfz5_1 := blk_frozen BK292.out 1; have hfz5_2 := blk_frozen BK292.out 2) | ((with_reducible refine gate_callee (f := 16) rfl ?_); refine goesL_ (some 11) rfl rfl Try.func16 (by kernel_rfl) rfl #[.agg #[.int .i64 a0_0, .slice A0_1 l0_1.length c0_1, .slice A0_2 l0_2.length c0_2], .int .i64 1048576] rfl nc_ ?_; (with_reducible refine (laws_szRegister.calls k a0_0 _ _ l0_1 _ _ l0_2 1048576 t293 _ ?side1 ?side2 ?side3 ?side4 A2.out).mono ?_); (case side1 => exact kc_ (Kd.C_below HR0_1.out HB.out)); (case side2 => exact HC0_1.out); (case side3 => exact kc_ (Kd.C_below HR0_2.out HB.out)); (case side4 => exact HC0_2.out); rintro e w6 ⟨rfl, hb⟩; refine ⟨_, rfl, ?_⟩; replace BK292 := bb_ BK292 hb; replace HB := Aside0.mk (below_step bl_ hb); clear hb))
  go_ret
  exact ⟨ng_, bl_⟩
 rw [if_neg c3] at H
 have c3b0 : decide (t293 < 0) = false := decide_eq_false c3
 clear c3
 replace H := Option.bind_eq_some_iff.mp H
 obtain ⟨⟨t294, t295, t298⟩, A70, H⟩ := H
 replace H : ((spec_NewestOf.f k t294 t295 t298).bind fun bt301 => ((laws_toRegister.f k a0_0 l0_1 l0_2).bind fun bt306 => ((impl_NewestOf.f k bt306.1 bt306.2.1 bt306.2.2).bind fun bt314 => ((laws_eqCopy.f bt314.1 bt314.2.1 bt314.2.2.1 bt301.1 bt301.2.1 bt301.2.2.1).bind fun t319 => (if t319 = true then (laws_FnExactNewestOf.j0 k (bt314.2.2.2 != bt301.2.2.2) a0_0 l0_1 l0_2 bt306.1 bt306.2.1 bt306.2.2) else (none)))))) = some r := H
 have A7 := Aside0.mk A70
 clear A70
 replace H := Option.bind_eq_some_iff.mp H
 obtain ⟨⟨t301, t302, t303, t304⟩, A80, H⟩ := H
 replace H : ((laws_toRegister.f k a0_0 l0_1 l0_2).bind fun bt306 => ((impl_NewestOf.f k bt306.1 bt306.2.1 bt306.2.2).bind fun bt314 => ((laws_eqCopy.f bt314.1 bt314.2.1 bt314.2.2.1 t301 t302 t303).bind fun t319 => (if t319 = true then (laws_FnExactNewestOf.j0 k (bt314.2.2.2 != t304) a0_0 l0_1 l0_2 bt306.1 bt306.2.1 bt306.2.2) else (none))))) = some r := H
 have A8 := Aside0.mk A80
 clear A80
 replace H := Option.bind_eq_some_iff.mp H
 obtain ⟨⟨t306, t307, t310⟩, A90, H⟩ := H
 replace H : ((impl_NewestOf.f k t306 t307 t310).bind fun bt314 => ((laws_eqCopy.f bt314.1 bt314.2.1 bt314.2.2.1 t301 t302 t303).bind fun t319 => (if t319 = true then (laws_FnExactNewestOf.j0 k (bt314.2.2.2 != t304) a0_0 l0_1 l0_2 t306 t307 t310) else (none)))) = some r := H
 have A9 := Aside0.mk A90
 clear A90
 replace H := Option.bind_eq_some_iff.mp H
 obtain ⟨⟨t314, t315, t316, t317⟩, A100, H⟩ := H
 replace H : ((laws_eqCopy.f t314 t315 t316 t301 t302 t303).bind fun t319 => (if t319 = true then (laws_FnExactNewestOf.j0 k (t317 != t304) a0_0 l0_1 l0_2 t306 t307 t310) else (none))) = some r := H
 have A10 := Aside0.mk A100
 clear A100
 have HC11 := Aside0.mk H
 clear H
 go_enter Try.func5, Try.ntmps5
 go_upto_region 8 with (first | ((with_reducible refine gate_dst (N := 1) rfl ?_); refine box_event rfl (N := 1) rfl (cs := #[.int .i64 a0_0, .slice A0_1 l0_1.length c0_1, .slice A0_2 l0_2.length c0_2]) (t := 34) gs_ ?_; intro gb292 hg w12 hbox hb; have BK292 := Aside0.mk (hbox); have GW292 := Aside0.mk ((by rw [hg]; exact bz_ : w.heap.size ≤ gb292)); have GE292 := GW292; replace HB := Aside0.mk (below_step bl_ hb); clear hb hbox hg; have hcz13_0 : w12.cell? ⟨gb292, 0, none⟩ = some (.int .i64 a0_0) := bc_ BK292.out 0; have hcz13_1 : w12.cell? ⟨gb292, 1, none⟩ = some (.slice A0_1 l0_1.length c0_1) := bc_ BK292.out 1; have hcz13_2 : w12.cell? ⟨gb292, 2, none⟩ = some (.slice A0_2 l0_2.length c0_2) := bc_ BK292.out 2; have hfz13_0 := blk_frozen BK292.out 0; have hfz13_1 := blk_frozen BK292.out 1; have hfz13_2 := blk_frozen BK292.out 2) | ((with_reducible refine gate_callee (f := 16) rfl ?_); refine goesL_ (some 11) rfl rfl Try.func16 (by kernel_rfl) rfl #[.agg #[.int .i64 a0_0, .slice A0_1 l0_1.length c0_1, .slice A0_2 l0_2.length c0_2], .int .i64 1048576] rfl nc_ ?_; (with_reducible refine (laws_szRegister.calls k a0_0 _ _ l0_1 _ _ l0_2 1048576 t293 _ ?side1 ?side2 ?side3 ?side4 A2.out).mono ?_); (case side1 => exact kc_ (Kd.C_below HR0_1.out HB.out)); (case side2 => exact HC0_1.out); (case side3 => exact kc_ (Kd.C_below HR0_2.out HB.out)); (case side4 => exact HC0_2.out); rintro e w14 ⟨rfl, hb⟩; refine ⟨_, rfl, ?_⟩; replace BK292 := bb_ BK292 hb; replace HB := Aside0.mk (below_step bl_ hb); clear hb; have hcz15_0 : w14.cell? ⟨gb292, 0, none⟩ = some (.int .i64 a0_0) := bc_ BK292.out 0; have hcz15_1 : w14.cell? ⟨gb292, 1, none⟩ = some (.slice A0_1 l0_1.length c0_1) := bc_ BK292.out 1; have hcz15_2 : w14.cell? ⟨gb292, 2, none⟩ = some (.slice A0_2 l0_2.length c0_2) := bc_ BK292.out 2; have hfz15_0 := blk_frozen BK292.out 0; have hfz15_1 := blk_frozen BK292.out 1; have hfz15_2 := blk_frozen BK292.out 2) | ((with_reducible refine gate_callee (f := 18) rfl ?_); refine goesL_ (some 16) rfl rfl Try.func18 (by kernel_rfl) rfl #[.agg #[.int .i64 a0_0, .slice A0_1 l0_1.length c0_1, .slice A0_2 l0_2.length c0_2]] rfl nc_ ?_; (with_reducible refine (laws_toRegister.calls k a0_0 _ _ l0_1 _ _ l0_2 t294 t295 t298 _ ?side1 ?side2 ?side3 ?side4 A7.out).mono ?_); (case side1 => exact kc_ (Kd.C_below HR0_1.out HB.out)); (case side2 => exact HC0_1.out); (case side3 => exact kc_ (Kd.C_below HR0_2.out HB.out)); (case side4 => exact HC0_2.out); rintro e w16 ⟨v296, v299, rfl, ho0, ho1, hb⟩; refine ⟨_, rfl, ?_⟩; have HO297 := Aside0.mk (Kd.R_lower ho0 bz_); have HO300 := Aside0.mk (Kd.S_lower ho1 bz_); replace BK292 := bb_ BK292 hb; replace HB := Aside0.mk (below_step bl_ hb); clear hb ho0 ho1; obtain ⟨Ao17, co17, eo17⟩ := Kd.R_slice HO297.out; subst eo17; obtain ⟨Ao18, co18, eo18⟩ := Kd.S_slice HO300.out; subst eo18) | ((with_reducible refine gate_callee (f := 20) rfl ?_); refine goesL_ (some 17) rfl rfl Try.func20 (by kernel_rfl) rfl #[.agg #[.int .i64 t294, .slice Ao17 t295.length co17, .slice Ao18 t298.length co18]] rfl nc_ ?_; (with_reducible refine (spec_NewestOf.calls k t294 _ _ t295 _ _ t298 t301 t302 t303 t304 _ ?side1 ?side2 ?side3 ?side4 A8.out).mono ?_); (case side1 => exact kc_ (Kd.R_reads' HO297.out).2.2); (case side2 => exact (Kd.R_reads' HO297.out).2.1); (case side3 => exact kc_ (Kd.S_reads' HO300.out).2.2); (case side4 => exact (Kd.S_reads' HO300.out).2.1); rintro e w19 ⟨rfl, hb⟩; refine ⟨_, rfl, ?_⟩; replace HO297 := rb_ HO297 hb; replace HO300 := Aside0.mk (Kd.S_below (by (with_reducible repeat (first | apply Kd.S_alloc | apply Kd.S_drewN | apply Kd.S_drew)); exact HO300.out) hb); replace BK292 := bb_ BK292 hb; replace HB := Aside0.mk (below_step bl_ hb); clear hb) | ((with_reducible refine gate_dst (N := 4) rfl ?_); refine box_event rfl (N := 4) rfl (cs := #[.int .i64 0, .int .i64 0, .string (⟨#[]⟩ : ByteArray)]) (t := 40) gs_ ?_; intro gb305 hg w20 hbox hb; replace HO297 := Aside0.mk (Kd.R_below (Kd.R_elderB (kr_ HO297.out) gb305 (Nat.le_of_eq hg.symm)) hb); replace HO300 := Aside0.mk (Kd.S_below (by (with_reducible repeat (first | apply Kd.S_alloc | apply Kd.S_drewN | apply Kd.S_drew)); exact HO300.out) hb); have BK305 := Aside0.mk (hbox); have GW305 := Aside0.mk ((by rw [hg]; exact bz_ : w.heap.size ≤ gb305)); have GE305 := GW305; replace HB := Aside0.mk (below_step bl_ hb); have NB292_305 := nl_ hg BK292; have NB305_292 := nm_ hg BK292; replace BK292 := bb_ BK292 hb; clear hb hbox hg; have hnb21 := NB305_292.out; have hnc21 := NB292_305.out; have hcz22_0 : w20.cell? ⟨gb305, 0, none⟩ = some (.int .i64 0) := bc_ BK305.out 0; have hcz22_1 : w20.cell? ⟨gb305, 1, none⟩ = some (.int .i64 0) := bc_ BK305.out 1; have hcz22_2 : w20.cell? ⟨gb305, 2, none⟩ = some (.string (⟨#[]⟩ : ByteArray)) := bc_ BK305.out 2; have hfz22_0 := blk_frozen BK305.out 0; have hfz22_1 := blk_frozen BK305.out 1; have hfz22_2 := blk_frozen BK305.out 2; have hcz23_0 : w20.cell? ⟨gb292, 0, none⟩ = some (.int .i64 a0_0) := bc_ BK292.out 0; have hcz23_1 : w20.cell? ⟨gb292, 1, none⟩ = some (.slice A0_1 l0_1.length c0_1) := bc_ BK292.out 1; have hcz23_2 : w20.cell? ⟨gb292, 2, none⟩ = some (.slice A0_2 l0_2.length c0_2) := bc_ BK292.out 2; have hfz23_0 := blk_frozen BK292.out 0; have hfz23_1 := blk_frozen BK292.out 1; have hfz23_2 := blk_frozen BK292.out 2) | ((with_reducible refine gate_callee (f := 18) rfl ?_); refine goesL_ (some 21) rfl rfl Try.func18 (by kernel_rfl) rfl #[.agg #[.int .i64 a0_0, .slice A0_1 l0_1.length c0_1, .slice A0_2 l0_2.length c0_2]] rfl nc_ ?_; (with_reducible refine (laws_toRegister.calls k a0_0 _ _ l0_1 _ _ l0_2 t306 t307 t310 _ ?side1 ?side2 ?side3 ?side4 A9.out).mono ?_); (case side1 => exact Kd.C_below HR0_1.out bl_); (case side2 => exact HC0_1.out); (case side3 => exact Kd.C_below HR0_2.out bl_); (case side4 => exact HC0_2.out); rintro e w24 ⟨v308, v311, rfl, ho0, ho1, hb⟩; refine ⟨_, rfl, ?_⟩; have HO309 := Aside0.mk (Kd.R_lower (Kd.R_newB (Kd.R_new' ho0 (Kd.R_lt (by exact kr_ ((Kd.R_mono (Kd.R_far (p := ⟨gb305, 2, none⟩) (Kd.R_far (p := ⟨gb305, 1, none⟩) (Kd.R_far (p := ⟨gb305, 0, none⟩) (Kd.R_mono HO297.out (fun k_ hk => (⟨hk, hk.2⟩ : _ ∧ k_ ≠ gb305))) (fun _ hk => hk.2) (.int .i64 t301)) (fun _ hk => hk.2) (.int .i64 t302)) (fun _ hk => hk.2) (.string t303)) (fun _ h_ => h_.1)))))) (g := gb305) (o := .cells #[.int .i64 t301, .int .i64 t302, .string t303] 40 (0, 0)) (by (with_reducible repeat (first | refine blk_drewN ?_ _ | refine blk_drew ?_ | refine blk_alloc ?_ _)); refine blk_put (cs := #[.int .i64 t301, .int .i64 t302, .string (⟨#[]⟩ : ByteArray)]) ?_ 2 _ rfl; (with_reducible repeat (first | refine blk_drewN ?_ _ | refine blk_drew ?_ | refine blk_alloc ?_ _)); refine blk_put (cs := #[.int .i64 t301, .int .i64 0, .string (⟨#[]⟩ : ByteArray)]) ?_ 1 _ rfl; (with_reducible repeat (first | refine blk_drewN ?_ _ | refine blk_drew ?_ | refine blk_alloc ?_ _)); refine blk_put (cs := #[.int .i64 0, .int .i64 0, .string (⟨#[]⟩ : ByteArray)]) ?_ 0 _ rfl; exact kb_ BK305.out)) bz_); replace HO297 := Aside0.mk (Kd.R_elder' (by exact kr_ ((Kd.R_mono (Kd.R_far (p := ⟨gb305, 2, none⟩) (Kd.R_far (p := ⟨gb305, 1, none⟩) (Kd.R_far (p := ⟨gb305, 0, none⟩) (Kd.R_mono HO297.out (fun k_ hk => (⟨hk, hk.2⟩ : _ ∧ k_ ≠ gb305))) (fun _ hk => hk.2) (.int .i64 t301)) (fun _ hk => hk.2) (.int .i64 t302)) (fun _ hk => hk.2) (.string t303)) (fun _ h_ => h_.1)))) (Kd.R_base ho0) hb); have HO312 := Aside0.mk (Kd.S_lower (Kd.S_new' ho1 (Kd.S_lt (by (with_reducible repeat (first | apply Kd.S_alloc | apply Kd.S_drewN | apply Kd.S_drew)); exact (Kd.S_mono (Kd.S_far (p := ⟨gb305, 2, none⟩) (Kd.S_far (p := ⟨gb305, 1, none⟩) (Kd.S_far (p := ⟨gb305, 0, none⟩) (Kd.S_types HO300.out BK305.out (by decide)) (fun _ hk => hk.2) (.int .i64 t301)) (fun _ hk => hk.2) (.int .i64 t302)) (fun _ hk => hk.2) (.string t303)) (fun _ h_ => h_.1))))) bz_); replace HO300 := Aside0.mk (Kd.S_elder' (by (with_reducible repeat (first | apply Kd.S_alloc | apply Kd.S_drewN | apply Kd.S_drew)); exact (Kd.S_mono (Kd.S_far (p := ⟨gb305, 2, none⟩) (Kd.S_far (p := ⟨gb305, 1, none⟩) (Kd.S_far (p := ⟨gb305, 0, none⟩) (Kd.S_types HO300.out BK305.out (by decide)) (fun _ hk => hk.2) (.int .i64 t301)) (fun _ hk => hk.2) (.int .i64 t302)) (fun _ hk => hk.2) (.string t303)) (fun _ h_ => h_.1))) (Kd.S_base ho1) hb); replace BK292 := Aside0.mk (blk_below (g := gb292) (o := .cells #[.int .i64 a0_0, .slice A0_1 l0_1.length c0_1, .slice A0_2 l0_2.length c0_2] 34 (0, 0)) kz_ hb); replace BK305 := Aside0.mk (blk_below (g := gb305) (o := .cells #[.int .i64 t301, .int .i64 t302, .string t303] 40 (0, 0)) (by (with_reducible repeat (first | refine blk_drewN ?_ _ | refine blk_drew ?_ | refine blk_alloc ?_ _)); refine blk_put (cs := #[.int .i64 t301, .int .i64 t302, .string (⟨#[]⟩ : ByteArray)]) ?_ 2 _ rfl; (with_reducible repeat (first | refine blk_drewN ?_ _ | refine blk_drew ?_ | refine blk_alloc ?_ _)); refine blk_put (cs := #[.int .i64 t301, .int .i64 0, .string (⟨#[]⟩ : ByteArray)]) ?_ 1 _ rfl; (with_reducible repeat (first | refine blk_drewN ?_ _ | refine blk_drew ?_ | refine blk_alloc ?_ _)); refine blk_put (cs := #[.int .i64 0, .int .i64 0, .string (⟨#[]⟩ : ByteArray)]) ?_ 0 _ rfl; exact kb_ BK305.out) hb); replace HB := Aside0.mk (below_step bl_ hb); clear hb ho0 ho1) | ((with_reducible refine gate_dst (N := 6) rfl ?_); refine box_event rfl (N := 6) rfl (cs := #[.int .i64 0, .slice none 0 0, .slice none 0 0]) (t := 25) gs_ ?_; intro gb313 hg w25 hbox hb; replace HO297 := rb_ HO297 hb; replace HO300 := Aside0.mk (Kd.S_below (by (with_reducible repeat (first | apply Kd.S_alloc | apply Kd.S_drewN | apply Kd.S_drew)); exact HO300.out) hb); replace HO309 := rb_ HO309 hb; replace HO312 := Aside0.mk (Kd.S_below (by (with_reducible repeat (first | apply Kd.S_alloc | apply Kd.S_drewN | apply Kd.S_drew)); exact HO312.out) hb); have BK313 := Aside0.mk (hbox); have GW313 := Aside0.mk ((by rw [hg]; exact bz_ : w.heap.size ≤ gb313)); have GE313 := GW313; replace HB := Aside0.mk (below_step bl_ hb); have NB292_313 := nl_ hg BK292; have NB313_292 := nm_ hg BK292; replace BK292 := bb_ BK292 hb; have NB305_313 := nl_ hg BK305; have NB313_305 := nm_ hg BK305; replace BK305 := bb_ BK305 hb; clear hb hbox hg; have hnb26 := NB313_292.out; have hnc26 := NB292_313.out; have hnb27 := NB313_305.out; have hnc27 := NB305_313.out; have hcz28_0 : w25.cell? ⟨gb313, 0, none⟩ = some (.int .i64 0) := bc_ BK313.out 0; have hcz28_1 : w25.cell? ⟨gb313, 1, none⟩ = some (.slice none 0 0) := bc_ BK313.out 1; have hcz28_2 : w25.cell? ⟨gb313, 2, none⟩ = some (.slice none 0 0) := bc_ BK313.out 2; have hfz28_0 := blk_frozen BK313.out 0; have hfz28_1 := blk_frozen BK313.out 1; have hfz28_2 := blk_frozen BK313.out 2; obtain ⟨Ao29, co29, eo29⟩ := Kd.R_slice HO309.out; subst eo29; obtain ⟨Ao30, co30, eo30⟩ := Kd.S_slice HO312.out; subst eo30) | ((with_reducible refine gate_callee (f := 21) rfl ?_); refine goesL_ (some 24) rfl rfl Try.func21 (by kernel_rfl) rfl #[.agg #[.int .i64 t306, .slice Ao29 t307.length co29, .slice Ao30 t310.length co30]] rfl nc_ ?_; (with_reducible refine (impl_NewestOf.calls k t306 _ _ t307 _ _ t310 t314 t315 t316 t317 _ ?side1 ?side2 ?side3 ?side4 A10.out).mono ?_); (case side1 => refine (Kd.R_reads' (e := 40) (base := w.heap.size) (ok := fun k_ => ((True ∧ some k_ ≠ (.slice Ao17 t295.length co17 : Value).ownBlock) ∧ k_ ≠ gb305)) (n := t307.length) (c := co29) ?_).2.2; exact (by exact kr_ ((Kd.R_mono (Kd.R_far (p := ⟨gb313, 2, none⟩) (Kd.R_far (p := ⟨gb313, 1, none⟩) (Kd.R_far (p := ⟨gb313, 0, none⟩) (Kd.R_types HO309.out BK313.out (by decide)) (fun _ hk => hk.2) (.int .i64 t306)) (fun _ hk => hk.2) (.slice Ao29 t307.length co29)) (fun _ hk => hk.2) (.slice Ao30 t310.length co30)) (fun _ h_ => h_.1))))); (case side2 => exact (Kd.R_reads' HO309.out).2.1); (case side3 => refine (Kd.S_reads' (e := 83) (base := w.heap.size) (ok := fun k_ => (True ∧ some k_ ≠ (.slice Ao18 t298.length co18 : Value).ownBlock)) (n := t310.length) (c := co30) ?_).2.2; exact (by (with_reducible repeat (first | apply Kd.S_alloc | apply Kd.S_drewN | apply Kd.S_drew)); exact (Kd.S_mono (Kd.S_far (p := ⟨gb313, 2, none⟩) (Kd.S_far (p := ⟨gb313, 1, none⟩) (Kd.S_far (p := ⟨gb313, 0, none⟩) (Kd.S_types HO312.out BK313.out (by decide)) (fun _ hk => hk.2) (.int .i64 t306)) (fun _ hk => hk.2) (.slice Ao29 t307.length co29)) (fun _ hk => hk.2) (.slice Ao30 t310.length co30)) (fun _ h_ => h_.1)))); (case side4 => exact (Kd.S_reads' HO312.out).2.1); rintro e w31 ⟨rfl, hb⟩; refine ⟨_, rfl, ?_⟩; replace HO297 := Aside0.mk (Kd.R_below (by exact kr_ ((Kd.R_mono (Kd.R_far (p := ⟨gb313, 2, none⟩) (Kd.R_far (p := ⟨gb313, 1, none⟩) (Kd.R_far (p := ⟨gb313, 0, none⟩) (Kd.R_types HO297.out BK313.out (by decide)) (fun _ hk => hk.2) (.int .i64 t306)) (fun _ hk => hk.2) (.slice Ao29 t307.length co29)) (fun _ hk => hk.2) (.slice Ao30 t310.length co30)) (fun _ h_ => h_.1)))) hb); replace HO300 := Aside0.mk (Kd.S_below (by (with_reducible repeat (first | apply Kd.S_alloc | apply Kd.S_drewN | apply Kd.S_drew)); exact (Kd.S_mono (Kd.S_far (p := ⟨gb313, 2, none⟩) (Kd.S_far (p := ⟨gb313, 1, none⟩) (Kd.S_far (p := ⟨gb313, 0, none⟩) (Kd.S_types HO300.out BK313.out (by decide)) (fun _ hk => hk.2) (.int .i64 t306)) (fun _ hk => hk.2) (.slice Ao29 t307.length co29)) (fun _ hk => hk.2) (.slice Ao30 t310.length co30)) (fun _ h_ => h_.1))) hb); replace HO309 := Aside0.mk (Kd.R_below (by exact kr_ ((Kd.R_mono (Kd.R_far (p := ⟨gb313, 2, none⟩) (Kd.R_far (p := ⟨gb313, 1, none⟩) (Kd.R_far (p := ⟨gb313, 0, none⟩) (Kd.R_types HO309.out BK313.out (by decide)) (fun _ hk => hk.2) (.int .i64 t306)) (fun _ hk => hk.2) (.slice Ao29 t307.length co29)) (fun _ hk => hk.2) (.slice Ao30 t310.length co30)) (fun _ h_ => h_.1)))) hb); replace HO312 := Aside0.mk (Kd.S_below (by (with_reducible repeat (first | apply Kd.S_alloc | apply Kd.S_drewN | apply Kd.S_drew)); exact (Kd.S_mono (Kd.S_far (p := ⟨gb313, 2, none⟩) (Kd.S_far (p := ⟨gb313, 1, none⟩) (Kd.S_far (p := ⟨gb313, 0, none⟩) (Kd.S_types HO312.out BK313.out (by decide)) (fun _ hk => hk.2) (.int .i64 t306)) (fun _ hk => hk.2) (.slice Ao29 t307.length co29)) (fun _ hk => hk.2) (.slice Ao30 t310.length co30)) (fun _ h_ => h_.1))) hb); replace BK292 := Aside0.mk (blk_below (g := gb292) (o := .cells #[.int .i64 a0_0, .slice A0_1 l0_1.length c0_1, .slice A0_2 l0_2.length c0_2] 34 (0, 0)) kz_ hb); replace BK305 := Aside0.mk (blk_below (g := gb305) (o := .cells #[.int .i64 t301, .int .i64 t302, .string t303] 40 (0, 0)) kz_ hb); replace BK313 := Aside0.mk (blk_below (g := gb313) (o := .cells #[.int .i64 t306, .slice Ao29 t307.length co29, .slice Ao30 t310.length co30] 25 (0, 0)) (by (with_reducible repeat (first | refine blk_drewN ?_ _ | refine blk_drew ?_ | refine blk_alloc ?_ _)); refine blk_put (cs := #[.int .i64 t306, .slice Ao29 t307.length co29, .slice none 0 0]) ?_ 2 _ rfl; (with_reducible repeat (first | refine blk_drewN ?_ _ | refine blk_drew ?_ | refine blk_alloc ?_ _)); refine blk_put (cs := #[.int .i64 t306, .slice none 0 0, .slice none 0 0]) ?_ 1 _ rfl; (with_reducible repeat (first | refine blk_drewN ?_ _ | refine blk_drew ?_ | refine blk_alloc ?_ _)); refine blk_put (cs := #[.int .i64 0, .slice none 0 0, .slice none 0 0]) ?_ 0 _ rfl; exact kb_ BK313.out) hb); replace HB := Aside0.mk (below_step bl_ hb); clear hb) | ((with_reducible refine gate_dst (N := 7) rfl ?_); refine box_event rfl (N := 7) rfl (cs := #[.int .i64 0, .int .i64 0, .string (⟨#[]⟩ : ByteArray)]) (t := 40) gs_ ?_; intro gb318 hg w32 hbox hb; replace HO297 := Aside0.mk (Kd.R_below (Kd.R_elderB (kr_ HO297.out) gb318 (Nat.le_of_eq hg.symm)) hb); replace HO300 := Aside0.mk (Kd.S_below (by (with_reducible repeat (first | apply Kd.S_alloc | apply Kd.S_drewN | apply Kd.S_drew)); exact HO300.out) hb); replace HO309 := Aside0.mk (Kd.R_below (Kd.R_elderB (kr_ HO309.out) gb318 (Nat.le_of_eq hg.symm)) hb); replace HO312 := Aside0.mk (Kd.S_below (by (with_reducible repeat (first | apply Kd.S_alloc | apply Kd.S_drewN | apply Kd.S_drew)); exact HO312.out) hb); have BK318 := Aside0.mk (hbox); have GW318 := Aside0.mk ((by rw [hg]; exact bz_ : w.heap.size ≤ gb318)); have GE318 := GW318; replace HB := Aside0.mk (below_step bl_ hb); have NB292_318 := nl_ hg BK292; have NB318_292 := nm_ hg BK292; replace BK292 := bb_ BK292 hb; have NB305_318 := nl_ hg BK305; have NB318_305 := nm_ hg BK305; replace BK305 := bb_ BK305 hb; have NB313_318 := nl_ hg BK313; have NB318_313 := nm_ hg BK313; replace BK313 := bb_ BK313 hb; clear hb hbox hg; have hnb33 := NB318_292.out; have hnc33 := NB292_318.out; have hnb34 := NB318_305.out; have hnc34 := NB305_318.out; have hnb35 := NB318_313.out; have hnc35 := NB313_318.out; have hcz36_0 : w32.cell? ⟨gb318, 0, none⟩ = some (.int .i64 0) := bc_ BK318.out 0; have hcz36_1 : w32.cell? ⟨gb318, 1, none⟩ = some (.int .i64 0) := bc_ BK318.out 1; have hcz36_2 : w32.cell? ⟨gb318, 2, none⟩ = some (.string (⟨#[]⟩ : ByteArray)) := bc_ BK318.out 2; have hfz36_0 := blk_frozen BK318.out 0; have hfz36_1 := blk_frozen BK318.out 1; have hfz36_2 := blk_frozen BK318.out 2))
 (try simp only [Act.put, List.setIfInBounds_toArray, List.set_cons_zero, List.set_cons_succ])
 go_cut [35] (fun v35 wc => ∃ (kq : Nat) (x35_10 : Bool), v35 = .bool x35_10 ∧ Aside0 (laws_FnExactNewestOf.j0 kq x35_10 a0_0 l0_1 l0_2 t306 t307 t310 = some r) ∧ Aside0 (kq ≤ k) ∧ Aside0 (Kd.R k40 40 wc w.heap.size (fun k_ => k_ ≠ gb305 ∧ k_ ≠ gb318) (.slice Ao29 t307.length co29) t307) ∧ Aside0 (Kd.S k83 83 wc w.heap.size (fun _ => True) (.slice Ao30 t310.length co30) t310) ∧ Aside0 (wc.heap[gb292]? = some (.cells #[.int .i64 a0_0, (.slice A0_1 l0_1.length c0_1), (.slice A0_2 l0_2.length c0_2)] 34 (0, 0))) ∧ Aside0 (wc.heap[gb305]? = some (.cells #[.int .i64 t301, .int .i64 t302, .string t303] 40 (0, 0))) ∧ Aside0 (wc.heap[gb313]? = some (.cells #[.int .i64 t306, (.slice Ao29 t307.length co29), (.slice Ao30 t310.length co30)] 25 (0, 0))) ∧ Aside0 (wc.heap[gb318]? = some (.cells #[.int .i64 t314, .int .i64 t315, .string t316] 40 (0, 0))) ∧ Aside0 (Below w.heap.size w wc))
 case first =>
  have H := HC11.out
  clear HC11
  replace H := Option.bind_eq_some_iff.mp H
  obtain ⟨t319, A370, H⟩ := H
  replace H : (if t319 = true then (laws_FnExactNewestOf.j0 k (t317 != t304) a0_0 l0_1 l0_2 t306 t307 t310) else (none)) = some r := H
  have A37 := Aside0.mk A370
  clear A370
  by_cases c38 : t319 = true
  rotate_left
  ·replace c38 := Bool.eq_false_iff.mpr c38
   subst c38
   have H1 : (none) = some r := by rw [if_neg (show ¬ (false = true) by decide)] at H; exact H
   clear H
   have H := H1
   clear H1
   exact absurd H (by simp)
  subst c38
  have H1 : (laws_FnExactNewestOf.j0 k (t317 != t304) a0_0 l0_1 l0_2 t306 t307 t310) = some r := by rw [if_pos rfl] at H; exact H
  clear H
  have H := H1
  clear H1
  have H' := Aside0.mk H
  clear H
  have hnb39 := NB318_292.out
  have hnc39 := NB292_318.out
  have hnb40 := NB318_305.out
  have hnc40 := NB305_318.out
  have hnb41 := NB318_313.out
  have hnc41 := NB313_318.out
  have hcz42_0 : w32.cell? ⟨gb318, 0, none⟩ = some (.int .i64 0) := bc_ BK318.out 0
  have hcz42_1 : w32.cell? ⟨gb318, 1, none⟩ = some (.int .i64 0) := bc_ BK318.out 1
  have hcz42_2 : w32.cell? ⟨gb318, 2, none⟩ = some (.string (⟨#[]⟩ : ByteArray)) := bc_ BK318.out 2
  have hfz42_0 := blk_frozen BK318.out 0
  have hfz42_1 := blk_frozen BK318.out 1
  have hfz42_2 := blk_frozen BK318.out 2
  have hnb43 := NB305_292.out
  have hnc43 := NB292_305.out
  have hnb44 := NB305_313.out
  have hnc44 := NB313_305.out
  have hcz45_0 : w32.cell? ⟨gb305, 0, none⟩ = some (.int .i64 t301) := bc_ BK305.out 0
  have hcz45_1 : w32.cell? ⟨gb305, 1, none⟩ = some (.int .i64 t302) := bc_ BK305.out 1
  have hcz45_2 : w32.cell? ⟨gb305, 2, none⟩ = some (.string t303) := bc_ BK305.out 2
  have hfz45_0 := blk_frozen BK305.out 0
  have hfz45_1 := blk_frozen BK305.out 1
  have hfz45_2 := blk_frozen BK305.out 2
  go_wp2_with (first | ((with_reducible refine gate_callee (f := 22) rfl ?_); refine goesL_ (some 29) rfl rfl Try.func22 (by kernel_rfl) rfl #[.agg #[.int .i64 t314, .int .i64 t315, .string t316], .agg #[.int .i64 t301, .int .i64 t302, .string t303]] rfl nc_ ?_; (with_reducible refine (laws_eqCopy.calls t314 t315 t316 t301 t302 t303 true _ A37.out).mono ?_); rintro e w46 ⟨rfl, hb⟩; refine ⟨_, rfl, ?_⟩; replace HO297 := Aside0.mk (Kd.R_below (by exact kr_ ((Kd.R_mono (Kd.R_far (p := ⟨gb318, 2, none⟩) (Kd.R_far (p := ⟨gb318, 1, none⟩) (Kd.R_far (p := ⟨gb318, 0, none⟩) (Kd.R_mono HO297.out (fun k_ hk => (⟨hk, hk.2⟩ : _ ∧ k_ ≠ gb318))) (fun _ hk => hk.2) (.int .i64 t314)) (fun _ hk => hk.2) (.int .i64 t315)) (fun _ hk => hk.2) (.string t316)) (fun _ h_ => h_.1)))) hb); replace HO300 := Aside0.mk (Kd.S_below (by (with_reducible repeat (first | apply Kd.S_alloc | apply Kd.S_drewN | apply Kd.S_drew)); exact (Kd.S_mono (Kd.S_far (p := ⟨gb318, 2, none⟩) (Kd.S_far (p := ⟨gb318, 1, none⟩) (Kd.S_far (p := ⟨gb318, 0, none⟩) (Kd.S_types HO300.out BK318.out (by decide)) (fun _ hk => hk.2) (.int .i64 t314)) (fun _ hk => hk.2) (.int .i64 t315)) (fun _ hk => hk.2) (.string t316)) (fun _ h_ => h_.1))) hb); replace HO309 := Aside0.mk (Kd.R_below (by exact kr_ ((Kd.R_mono (Kd.R_far (p := ⟨gb318, 2, none⟩) (Kd.R_far (p := ⟨gb318, 1, none⟩) (Kd.R_far (p := ⟨gb318, 0, none⟩) (Kd.R_mono HO309.out (fun k_ hk => (⟨hk, hk.2⟩ : _ ∧ k_ ≠ gb318))) (fun _ hk => hk.2) (.int .i64 t314)) (fun _ hk => hk.2) (.int .i64 t315)) (fun _ hk => hk.2) (.string t316)) (fun _ h_ => h_.1)))) hb); replace HO312 := Aside0.mk (Kd.S_below (by (with_reducible repeat (first | apply Kd.S_alloc | apply Kd.S_drewN | apply Kd.S_drew)); exact (Kd.S_mono (Kd.S_far (p := ⟨gb318, 2, none⟩) (Kd.S_far (p := ⟨gb318, 1, none⟩) (Kd.S_far (p := ⟨gb318, 0, none⟩) (Kd.S_types HO312.out BK318.out (by decide)) (fun _ hk => hk.2) (.int .i64 t314)) (fun _ hk => hk.2) (.int .i64 t315)) (fun _ hk => hk.2) (.string t316)) (fun _ h_ => h_.1))) hb); replace BK292 := Aside0.mk (blk_below (g := gb292) (o := .cells #[.int .i64 a0_0, .slice A0_1 l0_1.length c0_1, .slice A0_2 l0_2.length c0_2] 34 (0, 0)) kz_ hb); replace BK305 := Aside0.mk (blk_below (g := gb305) (o := .cells #[.int .i64 t301, .int .i64 t302, .string t303] 40 (0, 0)) kz_ hb); replace BK313 := Aside0.mk (blk_below (g := gb313) (o := .cells #[.int .i64 t306, .slice Ao29 t307.length co29, .slice Ao30 t310.length co30] 25 (0, 0)) kz_ hb); replace BK318 := Aside0.mk (blk_below (g := gb318) (o := .cells #[.int .i64 t314, .int .i64 t315, .string t316] 40 (0, 0)) (by (with_reducible repeat (first | refine blk_drewN ?_ _ | refine blk_drew ?_ | refine blk_alloc ?_ _)); refine blk_put (cs := #[.int .i64 t314, .int .i64 t315, .string (⟨#[]⟩ : ByteArray)]) ?_ 2 _ rfl; (with_reducible repeat (first | refine blk_drewN ?_ _ | refine blk_drew ?_ | refine blk_alloc ?_ _)); refine blk_put (cs := #[.int .i64 t314, .int .i64 0, .string (⟨#[]⟩ : ByteArray)]) ?_ 1 _ rfl; (with_reducible repeat (first | refine blk_drewN ?_ _ | refine blk_drew ?_ | refine blk_alloc ?_ _)); refine blk_put (cs := #[.int .i64 0, .int .i64 0, .string (⟨#[]⟩ : ByteArray)]) ?_ 0 _ rfl; exact kb_ BK318.out) hb); replace HB := Aside0.mk (below_step bl_ hb); clear hb))
  go_meet
  case rel => exact ⟨_, ((t317 != t304)), (by first | rfl | (simp; done) | (simp [*]; done)), H', ⟨by first | omega | exact Nat.le_refl _⟩, ⟨kp_ HO309.out⟩, ⟨by (with_reducible repeat (first | apply Kd.S_alloc | apply Kd.S_drewN | apply Kd.S_drew)); exact Kd.S_mono HO312.out (fun _ hk => trivial)⟩, ⟨by exact kb_ BK292.out⟩, ⟨by exact kb_ BK305.out⟩, ⟨by exact kb_ BK313.out⟩, ⟨by exact kb_ BK318.out⟩, ⟨bl_⟩⟩
 clear HC11
 try clear c1
 try clear c2
 try clear p2
 try clear c3
 try clear c3b0
 try clear c4
 try clear c5
 try clear c16
 try clear c18
 try clear c20
 try clear c21
 try clear c22
 try clear c26
 try clear c27
 try clear c33
 try clear c34
 try clear c35
 try clear c38
 try clear c39
 try clear c40
 try clear c41
 try clear c43
 try clear c44
 try clear hcz13_0
 try clear hcz13_1
 try clear hcz13_2
 try clear hcz15_0
 try clear hcz15_1
 try clear hcz15_2
 try clear hcz22_0
 try clear hcz22_1
 try clear hcz22_2
 try clear hcz23_0
 try clear hcz23_1
 try clear hcz23_2
 try clear hcz28_0
 try clear hcz28_1
 try clear hcz28_2
 try clear hcz36_0
 try clear hcz36_1
 try clear hcz36_2
 try clear hcz42_0
 try clear hcz42_1
 try clear hcz42_2
 try clear hcz45_0
 try clear hcz45_1
 try clear hcz45_2
 try clear hcz5_0
 try clear hcz5_1
 try clear hcz5_2
 try clear hfz13_0
 try clear hfz13_1
 try clear hfz13_2
 try clear hfz15_0
 try clear hfz15_1
 try clear hfz15_2
 try clear hfz22_0
 try clear hfz22_1
 try clear hfz22_2
 try clear hfz23_0
 try clear hfz23_1
 try clear hfz23_2
 try clear hfz28_0
 try clear hfz28_1
 try clear hfz28_2
 try clear hfz36_0
 try clear hfz36_1
 try clear hfz36_2
 try clear hfz42_0
 try clear hfz42_1
 try clear hfz42_2
 try clear hfz45_0
 try clear hfz45_1
 try clear hfz45_2
 try clear hfz5_0
 try clear hfz5_1
 try clear hfz5_2
 obtain ⟨kq, x35_10, rfl, HA, HJ10, HO_314001, HO_314002, BK292, BK305, BK313, BK318, HB⟩ := hcut
 cases kq with
 | zero => exact absurd HA.out (by simp [laws_FnExactNewestOf.j0])
 | succ kj10 => ?_
 have H := HA.out
 clear HA
 simp only [laws_FnExactNewestOf.j0] at H
 by_cases c47 : x35_10 = true
 ·subst c47
  have H1 : (none) = some r := by rw [if_pos rfl] at H; exact H
  clear H
  have H := H1
  clear H1
  exact absurd H (by simp)
 replace c47 := Bool.eq_false_iff.mpr c47
 subst c47
 have H1 : ((laws_toRegister.f kj10 a0_0 l0_1 l0_2).bind fun bt320 => ((laws_eqRegister.f kj10 t306 t307 t310 bt320.1 bt320.2.1 bt320.2.2).bind fun t327 => (if t327 = true then (some true) else (none)))) = some r := by rw [if_neg (show ¬ (false = true) by decide)] at H; exact H
 clear H
 have H := H1
 clear H1
 replace H := Option.bind_eq_some_iff.mp H
 obtain ⟨⟨t320, t321, t324⟩, A480, H⟩ := H
 replace H : ((laws_eqRegister.f kj10 t306 t307 t310 t320 t321 t324).bind fun t327 => (if t327 = true then (some true) else (none))) = some r := H
 have A48 := Aside0.mk A480
 clear A480
 replace H := Option.bind_eq_some_iff.mp H
 obtain ⟨t327, A490, H⟩ := H
 replace H : (if t327 = true then (some true) else (none)) = some r := H
 have A49 := Aside0.mk A490
 clear A490
 by_cases c50 : t327 = true
 rotate_left
 ·replace c50 := Bool.eq_false_iff.mpr c50
  subst c50
  have H1 : (none) = some r := by rw [if_neg (show ¬ (false = true) by decide)] at H; exact H
  clear H
  have H := H1
  clear H1
  exact absurd H (by simp)
 subst c50
 have H1 : (some true) = some r := by rw [if_pos rfl] at H; exact H
 clear H
 have H := H1
 clear H1
 obtain rfl := Option.some.inj H
 try go_wp2
 replace HO_314001 := Aside0.mk (Kd.R_drew HO_314001.out)
 replace HO_314002 := Aside0.mk (Kd.S_drew HO_314002.out)
 replace BK292 := Aside0.mk (blk_drew BK292.out)
 replace BK305 := Aside0.mk (blk_drew BK305.out)
 replace BK313 := Aside0.mk (blk_drew BK313.out)
 replace BK318 := Aside0.mk (blk_drew BK318.out)
 replace HB := Aside0.mk (below_drew1 HB.out)
 refine start_ (n := 5) (S := fun w' => w'.cell? ⟨gb313, 0, none⟩ = some (.int .i64 t306) ∧ w'.cell? ⟨gb313, 1, none⟩ = some (.slice Ao29 t307.length co29) ∧ w'.cell? ⟨gb313, 2, none⟩ = some (.slice Ao30 t310.length co30) ∧ w'.cell? ⟨gb292, 0, none⟩ = some (.int .i64 a0_0) ∧ w'.cell? ⟨gb292, 1, none⟩ = some (.slice A0_1 l0_1.length c0_1) ∧ w'.cell? ⟨gb292, 2, none⟩ = some (.slice A0_2 l0_2.length c0_2)) (ds := []) #[false, false, false, false, false] (by kernel_rfl) rfl rfl ⟨bc_ BK313.out 0, bc_ BK313.out 1, bc_ BK313.out 2, bc_ BK292.out 0, bc_ BK292.out 1, bc_ BK292.out 2⟩ (fun hHeld => ?_)
 generalize wc.drew = w51 at HO_314001 HO_314002 BK292 BK305 BK313 BK318 HB hHeld ⊢
 refine tk6_ 0 (some 36) (h := ?_)
 refine tk6_ 1 (some 37) (h := ?_)
 refine on_ 2 (some 38) (h := fun K hK => ?_)
 refine goes_ Try.func18 (by kernel_rfl) rfl #[.agg #[.int .i64 a0_0, .slice A0_1 l0_1.length c0_1, .slice A0_2 l0_2.length c0_2]] (by rfl) rfl rfl nc_ ?_
 with_reducible refine (laws_toRegister.calls kj10 a0_0 _ _ l0_1 _ _ l0_2 t320 t321 t324 _ ?side1 ?side2 ?side3 ?side4 A48.out).mono ?_
 (case side1 => exact kc_ (Kd.C_below HR0_1.out HB.out))
 (case side2 => exact HC0_1.out)
 (case side3 => exact kc_ (Kd.C_below HR0_2.out HB.out))
 (case side4 => exact HC0_2.out)
 rintro e w52 ⟨v322, v325, rfl, ho0, ho1, hb⟩
 refine ⟨_, rfl, ?_⟩
 have HO323 := Aside0.mk (Kd.R_lower (Kd.R_newB (Kd.R_newB (rn_ ho0 HO_314001.out) (kb_ BK305.out)) (kb_ BK318.out)) bz_)
 replace HO_314001 := Aside0.mk (Kd.R_elder' (kr_ HO_314001.out) (Kd.R_base ho0) hb)
 have HO326 := Aside0.mk (Kd.S_lower (Kd.S_new' ho1 (Kd.S_lt (by (with_reducible repeat (first | apply Kd.S_alloc | apply Kd.S_drewN | apply Kd.S_drew)); exact HO_314002.out))) bz_)
 replace HO_314002 := Aside0.mk (Kd.S_elder' (by (with_reducible repeat (first | apply Kd.S_alloc | apply Kd.S_drewN | apply Kd.S_drew)); exact HO_314002.out) (Kd.S_base ho1) hb)
 replace BK292 := bb_ BK292 hb
 replace BK305 := bb_ BK305 hb
 replace BK313 := bb_ BK313 hb
 replace BK318 := bb_ BK318 hb
 replace HB := Aside0.mk (below_step bl_ hb)
 clear hb ho0 ho1
 obtain ⟨Ao53, co53, eo53⟩ := Kd.R_slice HO323.out
 (first | subst eo53 | (injection eo53 with f1_ f2_ f3_; have f4_ := f1_.symm; have f5_ := f3_.symm; clear f1_ f2_ f3_; subst f4_; subst f5_))
 obtain ⟨Ao54, co54, eo54⟩ := Kd.S_slice HO326.out
 (first | subst eo54 | (injection eo54 with f1_ f2_ f3_; have f4_ := f1_.symm; have f5_ := f3_.symm; clear f1_ f2_ f3_; subst f4_; subst f5_))
 refine hK.out _ _ ⟨bc_ BK313.out 0, bc_ BK313.out 1, bc_ BK313.out 2, bc_ BK292.out 0, bc_ BK292.out 1, bc_ BK292.out 2⟩ (fun hHeld => ?_)
 clear hK K
 refine norm_ nn_ ?_
 refine on_ 3 (some 39) (h := fun K hK => ?_)
 refine goes_ Try.func13 (by kernel_rfl) rfl #[.agg #[.int .i64 t306, .slice Ao29 t307.length co29, .slice Ao30 t310.length co30], .agg #[.int .i64 t320, .slice Ao53 t321.length co53, .slice Ao54 t324.length co54]] (by rfl) rfl rfl nc_ ?_
 with_reducible refine (laws_eqRegister.calls kj10 t306 _ _ t307 _ _ t310 t320 _ _ t321 _ _ t324 true _ ?side1 ?side2 ?side3 ?side4 ?side5 ?side6 ?side7 ?side8 A49.out).mono ?_
 (case side1 => exact kc_ (Kd.R_reads' HO_314001.out).2.2)
 (case side2 => exact (Kd.R_reads' HO_314001.out).2.1)
 (case side3 => exact kc_ (Kd.S_reads' HO_314002.out).2.2)
 (case side4 => exact (Kd.S_reads' HO_314002.out).2.1)
 (case side5 => exact kc_ (Kd.R_reads' HO323.out).2.2)
 (case side6 => exact (Kd.R_reads' HO323.out).2.1)
 (case side7 => exact kc_ (Kd.S_reads' HO326.out).2.2)
 (case side8 => exact (Kd.S_reads' HO326.out).2.1)
 rintro e w55 ⟨rfl, hb⟩
 refine ⟨_, rfl, ?_⟩
 replace HO_314001 := rb_ HO_314001 hb
 replace HO_314002 := Aside0.mk (Kd.S_below (by (with_reducible repeat (first | apply Kd.S_alloc | apply Kd.S_drewN | apply Kd.S_drew)); exact HO_314002.out) hb)
 replace HO323 := rb_ HO323 hb
 replace HO326 := Aside0.mk (Kd.S_below (by (with_reducible repeat (first | apply Kd.S_alloc | apply Kd.S_drewN | apply Kd.S_drew)); exact HO326.out) hb)
 replace BK292 := bb_ BK292 hb
 replace BK305 := bb_ BK305 hb
 replace BK313 := bb_ BK313 hb
 replace BK318 := bb_ BK318 hb
 replace HB := Aside0.mk (below_step bl_ hb)
 clear hb
 refine hK.out _ _ ⟨bc_ BK313.out 0, bc_ BK313.out 1, bc_ BK313.out 2, bc_ BK292.out 0, bc_ BK292.out 1, bc_ BK292.out 2⟩ (fun hHeld => ?_)
 clear hK K
 refine norm_ nn_ ?_
 refine pu_ 4 (some 40) (h := ?_)
 refine done_ (by kernel_rfl) ?_
 try go_wp2
 go_ret
 exact ⟨ng_, bl_⟩

/-! ### laws_markText: function 63 -/
def laws_markText.l0 : Nat → Int → ByteArray → Option (ByteArray)
 | 0, _, _ => none
 | k + 1, x0, x3 => if x0 > 0 then ((some (([(wrap64 (48 + (Int.tmod x0 10))) % 256] : List Int) : List Int)).bind fun y328 => (if (strOfNums y328).size + x3.size ≤ 9223372036854775807 then (laws_markText.l0 k (wrap64 (Int.tdiv x0 10)) ((strOfNums y328) ++ x3)) else (none))) else (if 1 + x3.size ≤ 9223372036854775807 then (some ((⟨#[109]⟩ : ByteArray) ++ x3)) else (none))
def laws_markText.f (k : Nat) (a0 : Int) : Option (ByteArray) := if a0 ≤ 0 then (some (⟨#[109, 48]⟩ : ByteArray)) else (laws_markText.l0 k a0 (⟨#[]⟩ : ByteArray))
theorem laws_markText.mono_l : ∀ k, (∀ y0 y1, LeO (laws_markText.l0 k y0 y1) (laws_markText.l0 (k + 1) y0 y1))
 | 0 => fun _ _ r h => by simp [laws_markText.l0] at h
 | k + 1 => by
  have ih0 := laws_markText.mono_l k
  ·intro y0 y1
   unfold laws_markText.l0
   repeat' first
   | (with_reducible exact ih0 _ _)
   | (with_reducible exact LeO.refl _)
   | (with_reducible exact LeO.none _)
   | (with_reducible refine LeO.ite ?_ ?_)
   | (with_reducible refine LeO.bind ?_ (fun _ => ?_))
   | exact ih0 _ _
   | exact LeO.none _
   | refine LeO.ite ?_ ?_
   | refine LeO.bind ?_ (fun _ => ?_)
theorem laws_markText.mono : ∀ a0 k, LeO (laws_markText.f k a0) (laws_markText.f (k + 1) a0) := by
 intro a0 k
 have ih0 := laws_markText.mono_l k
 unfold laws_markText.f
 repeat' first
   | (with_reducible exact ih0 _ _)
   | (with_reducible exact LeO.refl _)
   | (with_reducible exact LeO.none _)
   | (with_reducible refine LeO.ite ?_ ?_)
   | (with_reducible refine LeO.bind ?_ (fun _ => ?_))
   | exact ih0 _ _
   | exact LeO.none _
   | refine LeO.ite ?_ ?_
   | refine LeO.bind ?_ (fun _ => ?_)
set_option maxHeartbeats 8000000 in
set_option maxRecDepth 100000 in
theorem laws_markText.calls (k : Nat) (a0 : Int) (r : ByteArray) (w : World) (h : laws_markText.f k a0 = some r) :
  Calls Try.prog 63 #[.int .i64 a0] w fun e w' => e = .returned (.string r) ∧ Below w.heap.size w w' := by
 have HB := Aside0.mk (Below.refl w.heap.size w)
 have H : (if a0 ≤ 0 then (some (⟨#[109, 48]⟩ : ByteArray)) else (laws_markText.l0 k a0 (⟨#[]⟩ : ByteArray))) = some r := h
 clear h
 by_cases c2 : a0 ≤ 0
 ·rw [if_pos c2] at H
  have c2b0 : decide (a0 ≤ 0) = true := decide_eq_true c2
  clear c2
  obtain rfl := Option.some.inj H
  go_enter Try.func63, Try.ntmps63
  go_wp2
  go_ret
  exact ⟨ng_, bl_⟩
 rw [if_neg c2] at H
 have c2b0 : decide (a0 ≤ 0) = false := decide_eq_false c2
 clear c2
 have H' := Aside0.mk H
 clear H
 go_enter Try.func63, Try.ntmps63
 go_wp2
 go_loopg [0, 3] k (fun kq v0 v3 w' => ∃ (x0_1 : Int) (x3_1 : ByteArray), v0 = .int .i64 x0_1 ∧ v3 = .string x3_1 ∧ Aside0 (laws_markText.l0 kq x0_1 x3_1 = some r) ∧ Aside0 (kq ≤ k) ∧ Aside0 (Below w.heap.size w w'))
 case atStart => exact ⟨(a0), ((⟨#[]⟩ : ByteArray)), (by first | rfl | (simp; done) | (simp [*]; done)), (by first | rfl | (simp; done) | (simp [*]; done)), H', ⟨Nat.le_refl _⟩, ⟨bl_⟩⟩
 clear H'
 try clear c2
 try clear c2b0
 try clear p2
 obtain ⟨x0_1, x3_1, rfl, rfl, HA, HK1, HB⟩ := hrel
 cases gk with
 | zero => exact absurd HA.out (by simp [laws_markText.l0])
 | succ k1 => ?_
 have H := HA.out
 clear HA
 simp only [laws_markText.l0] at H
 by_cases c3 : x0_1 > 0
 rotate_left
 ·rw [if_neg c3] at H
  have c3b0 : decide (0 < x0_1) = false := decide_eq_false c3
  clear c3
  by_cases c8 : 1 + x3_1.size ≤ 9223372036854775807
  rotate_left
  ·rw [if_neg c8] at H
   exact absurd H (by simp)
  rw [if_pos c8] at H
  have c8b0 := eq_true c8
  have c8b1 : decide (1 + x3_1.size ≤ 9223372036854775807) = true := decide_eq_true c8
  try have c8b2 : (9223372036854775807 < 1 + x3_1.size) = False := eq_false (Nat.not_lt.2 c8)
  obtain rfl := Option.some.inj H
  go_wp2
  go_ret
  exact ⟨ng_, bl_⟩
 rw [if_pos c3] at H
 have c3b0 : decide (0 < x0_1) = true := decide_eq_true c3
 clear c3
 obtain ⟨y328, hy328⟩ : ∃ y_ : List Int, y_ = (([(wrap64 (48 + (Int.tmod x0_1 10))) % 256] : List Int)) := ⟨_, rfl⟩
 replace H : (if (strOfNums y328).size + x3_1.size ≤ 9223372036854775807 then (laws_markText.l0 k1 (wrap64 (Int.tdiv x0_1 10)) ((strOfNums y328) ++ x3_1)) else (none)) = some r := by first | (rw [hy328]; with_reducible exact H) | (have H2_ := (Option.bind_some _ _).symm.trans H; rw [hy328]; with_reducible exact H2_) | (have H2_ := (Option.bind_some _ _).symm.trans H; with_reducible exact H2_) | with_reducible exact H | (rw [hy328]; exact H) | exact H
 have Ny328 := Aside0.mk hy328
 clear hy328
 by_cases c4 : (strOfNums y328).size + x3_1.size ≤ 9223372036854775807
 rotate_left
 ·rw [if_neg c4] at H
  exact absurd H (by simp)
 rw [if_pos c4] at H
 have c4b0 := eq_true c4
 have c4b1 : decide ((strOfNums y328).size + x3_1.size ≤ 9223372036854775807) = true := decide_eq_true c4
 try have c4b2 : (9223372036854775807 < (strOfNums y328).size + x3_1.size) = False := eq_false (Nat.not_lt.2 c4)
 have H' := Aside0.mk H
 clear H
 go_wp2_with (first | ((with_reducible refine gate_dst (N := 12) rfl ?_); refine Kd.R_lit (Kd.int .u8) _ 5 rfl (N := 12) rfl (xs := ([(wrap64 (48 + (Int.tmod x0_1 10))) % 256] : List Int)) (inner := [.int .u8 ((wrap64 (48 + (Int.tmod x0_1 10))) % 256)]) (ok := fun _ => True) (okp := fun _ => True) gs_ ?hp (fun _ hk => hk) trivial (Below.refl _ _) (Nat.le_refl _) (by simp) ?_; (case hp => exact (Reps.one (show Kd.M (Kd.int .u8) _ _ _ ((wrap64 (48 + (Int.tmod x0_1 10))) % 256) [.int .u8 ((wrap64 (48 + (Int.tmod x0_1 10))) % 256)] from rfl) (Reps.none _ _))); intro v329 w5 ho6 hb hg_ hnew_; clear hg_ hnew_; (first | rw [← Ny328.out] at ho6 | (simp only [Int.reduceToNat] at ho6; rw [← Ny328.out] at ho6)); have HO330 := Aside0.mk (Kd.R_lower ho6 bz_); replace HB := Aside0.mk (below_step bl_ hb); clear hb ho6; have hcv7 := own_string (P := Try.prog) Try.underlying118 Try.underlying5 Try.underlying9 (Kd.own_of_R HO330.out)))
 go_roundg k1
 case measure => have := HK1.out; omega
 case rel => exact ⟨(wrap64 (Int.tdiv x0_1 10)), ((strOfNums y328) ++ x3_1), (by first | rfl | (simp; done) | (simp [*]; done)), (by first | rfl | (simp; done) | (simp [*]; done)), H', ⟨by have := HK1.out; omega⟩, ⟨bl_⟩⟩

/-! ### laws_markCopyS: function 48 -/
def laws_markCopyS.l0 : Nat → List (S40) → Int → Int → Option (Int × (List (S40)))
 | 0, _, _, _ => none
 | k + 1, x0, x1, x5 => if x5 < (x0.length : Int) then (if 0 ≤ x5 then ((some (x0.set (x5 : Int).toNat (⟨x1, (rd_T40 x0 x5).f1, (rd_T40 x0 x5).f2⟩ : S40) : List (S40))).bind fun y331 => ((some (y331.set (x5 : Int).toNat (⟨(rd_T40 y331 x5).f0, wrap64 (x1 + 1), (rd_T40 y331 x5).f2⟩ : S40) : List (S40))).bind fun y332 => ((laws_markText.f k (wrap64 ((wrap64 (x1 + 1)) + 1))).bind fun t333 => (laws_markCopyS.l0 k (y332.set (x5 : Int).toNat (⟨(rd_T40 y332 x5).f0, (rd_T40 y332 x5).f1, t333⟩ : S40)) (wrap64 ((wrap64 ((wrap64 (x1 + 1)) + 1)) + 1)) (wrap64 (x5 + 1)))))) else (none)) else (some (x1, x0))
def laws_markCopyS.f (k : Nat) (l0 : List (S40)) (a1 : Int) : Option (Int × (List (S40))) := laws_markCopyS.l0 k l0 a1 0
theorem laws_markCopyS.mono_l : ∀ k, (∀ y0 y1 y2, LeO (laws_markCopyS.l0 k y0 y1 y2) (laws_markCopyS.l0 (k + 1) y0 y1 y2))
 | 0 => fun _ _ _ r h => by simp [laws_markCopyS.l0] at h
 | k + 1 => by
  have ih0 := laws_markCopyS.mono_l k
  ·intro y0 y1 y2
   unfold laws_markCopyS.l0
   repeat' first
   | (with_reducible exact ih0 _ _ _)
   | (with_reducible exact laws_markText.mono _ _)
   | (with_reducible exact LeO.refl _)
   | (with_reducible exact LeO.none _)
   | (with_reducible refine LeO.ite ?_ ?_)
   | (with_reducible refine LeO.bind ?_ (fun _ => ?_))
   | exact ih0 _ _ _
   | exact laws_markText.mono _ _
   | exact LeO.none _
   | refine LeO.ite ?_ ?_
   | refine LeO.bind ?_ (fun _ => ?_)
theorem laws_markCopyS.mono : ∀ a0 a1 k, LeO (laws_markCopyS.f k a0 a1) (laws_markCopyS.f (k + 1) a0 a1) := by
 intro a0 a1 k
 have ih0 := laws_markCopyS.mono_l k
 unfold laws_markCopyS.f
 repeat' first
   | (with_reducible exact ih0 _ _ _)
   | (with_reducible exact laws_markText.mono _ _)
   | (with_reducible exact LeO.refl _)
   | (with_reducible exact LeO.none _)
   | (with_reducible refine LeO.ite ?_ ?_)
   | (with_reducible refine LeO.bind ?_ (fun _ => ?_))
   | exact ih0 _ _ _
   | exact laws_markText.mono _ _
   | exact LeO.none _
   | refine LeO.ite ?_ ?_
   | refine LeO.bind ?_ (fun _ => ?_)
set_option maxHeartbeats 8000000 in
set_option maxRecDepth 100000 in
theorem laws_markCopyS.calls (k : Nat) (P0_ : Nat → Prop) (u9000_ : Value) (l0 : List (S40)) (a1 : Int) (r1 : Int) (r2 : List (S40)) (w0 w : World) (hB : Below w0.heap.size w0 w) (ho0 : Kd.R k40 40 w w0.heap.size P0_ u9000_ l0) (h : laws_markCopyS.f k l0 a1 = some (r1, r2)) :
  Calls Try.prog 48 #[u9000_, .int .i64 a1] w fun e w' => e = .returned (.int .i64 r1) ∧ Kd.R k40 40 w' w0.heap.size (fun k_ => (P0_ k_ ∨ w.heap.size ≤ k_)) u9000_ r2 ∧ Below w0.heap.size w0 w' ∧ Kept w w' (fun k_ => P0_ k_) := by
 have HO0 := Aside0.mk (show Kd.R k40 40 w w0.heap.size (fun k_ => (P0_ k_ ∨ w.heap.size ≤ k_)) u9000_ l0 from Kd.R_mono ho0 (fun k_ hk => (.inl hk)))
 have HK := Aside0.mk (Kept.refl w (fun k_ => P0_ k_))
 have HW0 := Aside0.mk hB.size
 have HB := Aside0.mk hB
 clear hB
 have H : (laws_markCopyS.l0 k l0 a1 0) = some (r1, r2) := h
 clear h
 have H' := Aside0.mk H
 clear H
 go_enter Try.func48, Try.ntmps48
 go_wp2
 go_loopg [1, 5] k (fun kq v1 v5 w' => ∃ (x0_1 : List (S40)) (x1_1 : Int) (x5_1 : Int), v1 = .int .i64 x1_1 ∧ v5 = .int .i64 x5_1 ∧ Aside0 (laws_markCopyS.l0 kq x0_1 x1_1 x5_1 = some (r1, r2)) ∧ Aside0 (kq ≤ k) ∧ Aside0 (Kd.R k40 40 w' w0.heap.size (fun k_ => (P0_ k_ ∨ w.heap.size ≤ k_)) u9000_ x0_1) ∧ Aside0 (Kept w w' (fun k_ => P0_ k_)) ∧ Aside0 (Below w0.heap.size w0 w'))
 case atStart => exact ⟨(l0), (a1), (0), (by first | rfl | (simp; done) | (simp [*]; done)), (by first | rfl | (simp; done) | (simp [*]; done)), H', ⟨Nat.le_refl _⟩, ⟨by exact kr_ HO0.out⟩, ⟨by repeat (first | (with_reducible first | exact HK.out | apply Kept.alloc | apply Kept.drewN | apply Kept.drew) | exact HK.out)⟩, ⟨bl_⟩⟩
 clear H'
 try clear p2
 obtain ⟨x0_1, x1_1, x5_1, rfl, rfl, HA, HK1, HO_0, HK, HB⟩ := hrel
 cases gk with
 | zero => exact absurd HA.out (by simp [laws_markCopyS.l0])
 | succ k1 => ?_
 have H := HA.out
 clear HA
 simp only [laws_markCopyS.l0] at H
 by_cases c3 : x5_1 < (x0_1.length : Int)
 rotate_left
 ·rw [if_neg c3] at H
  have c3b0 : decide (x5_1 < (x0_1.length : Int)) = false := decide_eq_false c3
  clear c3
  simp only [Option.some.injEq, Prod.mk.injEq] at H
  obtain ⟨rfl, rfl⟩ := H
  obtain ⟨Ao17, co17, eo17⟩ := Kd.R_slice HO_0.out
  subst eo17
  go_wp2
  go_ret
  exact ⟨ng_, by exact kr_ HO_0.out, bl_, by repeat (first | (with_reducible first | exact HK.out | apply Kept.alloc | apply Kept.drewN | apply Kept.drew) | exact HK.out)⟩
 rw [if_pos c3] at H
 have c3b0 : decide (x5_1 < (x0_1.length : Int)) = true := decide_eq_true c3
 clear c3
 by_cases c4 : 0 ≤ x5_1
 rotate_left
 ·rw [if_neg c4] at H
  exact absurd H (by simp)
 rw [if_pos c4] at H
 have c4b0 : decide (0 ≤ x5_1) = true := decide_eq_true c4
 clear c4
 obtain ⟨y331, hy331⟩ : ∃ y_ : List (S40), y_ = (x0_1.set (x5_1 : Int).toNat (⟨x1_1, (rd_T40 x0_1 x5_1).f1, (rd_T40 x0_1 x5_1).f2⟩ : S40)) := ⟨_, rfl⟩
 replace H : ((some (y331.set (x5_1 : Int).toNat (⟨(rd_T40 y331 x5_1).f0, wrap64 (x1_1 + 1), (rd_T40 y331 x5_1).f2⟩ : S40) : List (S40))).bind fun y332 => ((laws_markText.f k1 (wrap64 ((wrap64 (x1_1 + 1)) + 1))).bind fun t333 => (laws_markCopyS.l0 k1 (y332.set (x5_1 : Int).toNat (⟨(rd_T40 y332 x5_1).f0, (rd_T40 y332 x5_1).f1, t333⟩ : S40)) (wrap64 ((wrap64 ((wrap64 (x1_1 + 1)) + 1)) + 1)) (wrap64 (x5_1 + 1))))) = some (r1, r2) := by first | (rw [hy331]; with_reducible exact H) | (have H2_ := (Option.bind_some _ _).symm.trans H; rw [hy331]; with_reducible exact H2_) | (have H2_ := (Option.bind_some _ _).symm.trans H; with_reducible exact H2_) | with_reducible exact H | (rw [hy331]; exact H) | exact H
 have Ny331 := Aside0.mk hy331
 clear hy331
 obtain ⟨y332, hy332⟩ : ∃ y_ : List (S40), y_ = (y331.set (x5_1 : Int).toNat (⟨(rd_T40 y331 x5_1).f0, wrap64 (x1_1 + 1), (rd_T40 y331 x5_1).f2⟩ : S40)) := ⟨_, rfl⟩
 replace H : ((laws_markText.f k1 (wrap64 ((wrap64 (x1_1 + 1)) + 1))).bind fun t333 => (laws_markCopyS.l0 k1 (y332.set (x5_1 : Int).toNat (⟨(rd_T40 y332 x5_1).f0, (rd_T40 y332 x5_1).f1, t333⟩ : S40)) (wrap64 ((wrap64 ((wrap64 (x1_1 + 1)) + 1)) + 1)) (wrap64 (x5_1 + 1)))) = some (r1, r2) := by first | (rw [hy332]; with_reducible exact H) | (have H2_ := (Option.bind_some _ _).symm.trans H; rw [hy332]; with_reducible exact H2_) | (have H2_ := (Option.bind_some _ _).symm.trans H; with_reducible exact H2_) | with_reducible exact H | (rw [hy332]; exact H) | exact H
 have Ny332 := Aside0.mk hy332
 clear hy332
 replace H := Option.bind_eq_some_iff.mp H
 obtain ⟨t333, A70, H⟩ := H
 replace H : (laws_markCopyS.l0 k1 (y332.set (x5_1 : Int).toNat (⟨(rd_T40 y332 x5_1).f0, (rd_T40 y332 x5_1).f1, t333⟩ : S40)) (wrap64 ((wrap64 ((wrap64 (x1_1 + 1)) + 1)) + 1)) (wrap64 (x5_1 + 1))) = some (r1, r2) := H
 have A7 := Aside0.mk A70
 clear A70
 obtain ⟨y334, hy334⟩ : ∃ y_ : List (S40), y_ = (y332.set (x5_1 : Int).toNat (⟨(rd_T40 y332 x5_1).f0, (rd_T40 y332 x5_1).f1, t333⟩ : S40)) := ⟨_, rfl⟩
 replace H : (laws_markCopyS.l0 k1 y334 (wrap64 ((wrap64 ((wrap64 (x1_1 + 1)) + 1)) + 1)) (wrap64 (x5_1 + 1))) = some (r1, r2) := by first | (rw [hy334]; with_reducible exact H) | (have H2_ := (Option.bind_some _ _).symm.trans H; rw [hy334]; with_reducible exact H2_) | (have H2_ := (Option.bind_some _ _).symm.trans H; with_reducible exact H2_) | with_reducible exact H | (rw [hy334]; exact H) | exact H
 have Ny334 := Aside0.mk hy334
 clear hy334
 have H' := Aside0.mk H
 clear H
 obtain ⟨Ao9, co9, eo9⟩ := Kd.R_slice HO_0.out
 subst eo9
 have p5 : 0 ≤ (x5_1 : Int) := of_decide_eq_true (by first | (with_reducible assumption) | assumption)
 have q5 : (x5_1 : Int) < ((x0_1.length : Int) : Int) := of_decide_eq_true (by first | (with_reducible assumption) | assumption)
 obtain ⟨go5, co5, eo5, gb5, gl5, cl5, HG5⟩ := Kd.R_form HO_0.out (by omega)
 (first | cases eo5 | (injection eo5 with ea_ en_ ec_; (first | subst ea_ | (injection ea_ with ea_; subst ea_)); subst ec_; clear en_))
 have GB5 := Aside0.mk gb5
 have GG5 := Aside0.mk HG5
 clear gb5 gl5 HG5
 have HMgo5 := Aside0.mk (show (P0_ go5 ∨ w.heap.size ≤ go5) from (HO_0.out.1 _ rfl))
 obtain ⟨ce5, hcl5, hM5, hcc5, hfr5⟩ := Kd.R_elem HO_0.out z40 (x5_1 : Int) p5 q5
 obtain rfl := k40_openM hM5
 have hx5_0 : wr.cell? ⟨go5, (x5_1 : Int).toNat * 3, none⟩ = some (.int .i64 ((rd_T40 x0_1 x5_1).f0)) := hcc5 0 _ rfl
 have hx5_1 : wr.cell? ⟨go5, (x5_1 : Int).toNat * 3 + 1, none⟩ = some (.int .i64 ((rd_T40 x0_1 x5_1).f1)) := hcc5 1 _ rfl
 have hx5_2 : wr.cell? ⟨go5, (x5_1 : Int).toNat * 3 + 2, none⟩ = some (.string ((rd_T40 x0_1 x5_1).f2)) := hcc5 2 _ rfl
 have hf5_0 : wr.frozen? ⟨go5, (x5_1 : Int).toNat * 3, none⟩ = false := hfr5 0
 have hf5_1 : wr.frozen? ⟨go5, (x5_1 : Int).toNat * 3 + 1, none⟩ = false := hfr5 1
 have hf5_2 : wr.frozen? ⟨go5, (x5_1 : Int).toNat * 3 + 2, none⟩ = false := hfr5 2
 clear hcl5 hcc5 hfr5 hM5
 replace p5 := eq_true p5
 replace q5 := eq_true q5
 have HX10 := Aside0.mk (show Kd.R k40 40 wr w0.heap.size (fun k_ => (P0_ k_ ∨ w.heap.size ≤ k_)) (.slice (some ⟨go5, 0, none⟩) x0_1.length co9) x0_1 from (kr_ HO_0.out))
 obtain ⟨ce10, hcl10, hM10, hcc10, hfr10⟩ := Kd.R_elem HX10.out z40 (x5_1 : Int) (of_decide_eq_true (by first | (with_reducible assumption) | assumption)) (by have h_ : (x5_1 : Int) < ((x0_1.length : Int) : Int) := of_decide_eq_true (by first | (with_reducible assumption) | assumption); first | exact h_ | (have e_ := (Kd.R_reads' HO_0.out).1; omega) | simpa using h_)
 obtain rfl := k40_openM hM10
 have HP10 := Kd.R_seg HX10.out (x5_1 : Int) (of_decide_eq_true (by first | (with_reducible assumption) | assumption)) (by have h_ : (x5_1 : Int) < ((x0_1.length : Int) : Int) := of_decide_eq_true (by first | (with_reducible assumption) | assumption); first | exact h_ | (have e_ := (Kd.R_reads' HO_0.out).1; omega) | simpa using h_) (seg := [.int .i64 x1_1]) (j := 0) hcl10 hcc10 (show 1 ≤ 3 from by decide) (x' := (⟨x1_1, (rd_T40 x0_1 x5_1).f1, (rd_T40 x0_1 x5_1).f2⟩ : S40)) (k40_mkM _ _ _ (⟨x1_1, (rd_T40 x0_1 x5_1).f1, (rd_T40 x0_1 x5_1).f2⟩ : S40) ) (fun _ hk => hk)
 have hx10_0 := hcc10 0 _ rfl
 (try simp only [show (k40).sz = 3 from rfl, Nat.mul_one, Nat.add_zero] at hx10_0)
 have hf10_0 := hfr10 0
 (try simp only [show (k40).sz = 3 from rfl, Nat.mul_one, Nat.add_zero] at hf10_0)
 clear hcl10 hcc10 hfr10 hM10
 go_wp2_with (first | ((with_reducible refine gate_store (t := 3) (p := 16) rfl ?_); refine store_event (t := 3) (p := 16) (v := ?vo_w11) (w1 := (wr.setCell ⟨go5, (x5_1 : Int).toNat * 3, none⟩ (.int .i64 x1_1))) ?hg ?ho ?hn ?hr ?_; (case ho => rfl); (case hg => rfl); (case hn => rfl); (case hr => first | (go_simp; done) | (go_simp; rfl)); intro w11 hw; have hg : wr.grownBy w11 (some go5) := (by rw [hw]; exact HP10.2); have hp_ : Kd.R k40 40 w11 w0.heap.size (fun k_ => (P0_ k_ ∨ w.heap.size ≤ k_)) (.slice (some ⟨go5, 0, none⟩) x0_1.length co9) y331 := (by rw [hw, Ny331.out]; exact HP10.1); clear HP10; replace HB := Aside0.mk ((by rw [hw]; exact below_set (HB.out) GB5.out : Below w0.heap.size w0 w11)); replace HK := Aside0.mk (Kept.of_grown (S := (fun k_ => P0_ k_)) hg (by repeat (first | (with_reducible first | exact HK.out | apply Kept.alloc | apply Kept.drewN | apply Kept.drew) | exact HK.out)) (fun k_ e_ => (HO_0.out.1 k_ e_))); replace HO_0 := Aside0.mk (hp_); clear hg hw hp_; have p6 : 0 ≤ (x5_1 : Int) := of_decide_eq_true (by first | (with_reducible assumption) | assumption); have q6 : (x5_1 : Int) < ((x0_1.length : Int) : Int) := of_decide_eq_true (by first | (with_reducible assumption) | assumption); obtain ⟨ce6, hcl6, hM6, hcc6, hfr6⟩ := Kd.R_elem HO_0.out z40 (x5_1 : Int) p6 q6; obtain rfl := k40_openM hM6; have hx6_0 : w11.cell? ⟨go5, (x5_1 : Int).toNat * 3, none⟩ = some (.int .i64 ((rd_T40 y331 x5_1).f0)) := hcc6 0 _ rfl; have hx6_1 : w11.cell? ⟨go5, (x5_1 : Int).toNat * 3 + 1, none⟩ = some (.int .i64 ((rd_T40 y331 x5_1).f1)) := hcc6 1 _ rfl; have hx6_2 : w11.cell? ⟨go5, (x5_1 : Int).toNat * 3 + 2, none⟩ = some (.string ((rd_T40 y331 x5_1).f2)) := hcc6 2 _ rfl; have hf6_0 : w11.frozen? ⟨go5, (x5_1 : Int).toNat * 3, none⟩ = false := hfr6 0; have hf6_1 : w11.frozen? ⟨go5, (x5_1 : Int).toNat * 3 + 1, none⟩ = false := hfr6 1; have hf6_2 : w11.frozen? ⟨go5, (x5_1 : Int).toNat * 3 + 2, none⟩ = false := hfr6 2; clear hcl6 hcc6 hfr6 hM6; replace p6 := eq_true p6; replace q6 := eq_true q6; have HX12 := Aside0.mk (show Kd.R k40 40 w11 w0.heap.size (fun k_ => (P0_ k_ ∨ w.heap.size ≤ k_)) (.slice (some ⟨go5, 0, none⟩) x0_1.length co9) y331 from (kr_ HO_0.out)); obtain ⟨ce12, hcl12, hM12, hcc12, hfr12⟩ := Kd.R_elem HX12.out z40 (x5_1 : Int) (of_decide_eq_true (by first | (with_reducible assumption) | assumption)) (by have h_ : (x5_1 : Int) < ((x0_1.length : Int) : Int) := of_decide_eq_true (by first | (with_reducible assumption) | assumption); first | exact h_ | (have e_ := (Kd.R_reads' HO_0.out).1; omega) | simpa using h_); obtain rfl := k40_openM hM12; have HP12 := Kd.R_seg HX12.out (x5_1 : Int) (of_decide_eq_true (by first | (with_reducible assumption) | assumption)) (by have h_ : (x5_1 : Int) < ((x0_1.length : Int) : Int) := of_decide_eq_true (by first | (with_reducible assumption) | assumption); first | exact h_ | (have e_ := (Kd.R_reads' HO_0.out).1; omega) | simpa using h_) (seg := [.int .i64 (wrap64 (x1_1 + 1))]) (j := 1) hcl12 hcc12 (show 2 ≤ 3 from by decide) (x' := (⟨(rd_T40 y331 x5_1).f0, wrap64 (x1_1 + 1), (rd_T40 y331 x5_1).f2⟩ : S40)) (k40_mkM _ _ _ (⟨(rd_T40 y331 x5_1).f0, wrap64 (x1_1 + 1), (rd_T40 y331 x5_1).f2⟩ : S40) ) (fun _ hk => hk); have hx12_1 := hcc12 1 _ rfl; (try simp only [show (k40).sz = 3 from rfl, Nat.mul_one, Nat.add_zero] at hx12_1); have hf12_1 := hfr12 1; (try simp only [show (k40).sz = 3 from rfl, Nat.mul_one, Nat.add_zero] at hf12_1); clear hcl12 hcc12 hfr12 hM12) | ((with_reducible refine gate_store (t := 3) (p := 23) rfl ?_); refine store_event (t := 3) (p := 23) (v := ?vo_w13) (w1 := (w11.setCell ⟨go5, (x5_1 : Int).toNat * 3 + 1, none⟩ (.int .i64 (wrap64 (x1_1 + 1))))) ?hg ?ho ?hn ?hr ?_; (case ho => rfl); (case hg => rfl); (case hn => rfl); (case hr => first | (go_simp; done) | (go_simp; rfl)); intro w13 hw; have hg : w11.grownBy w13 (some go5) := (by rw [hw]; exact HP12.2); have hp_ : Kd.R k40 40 w13 w0.heap.size (fun k_ => (P0_ k_ ∨ w.heap.size ≤ k_)) (.slice (some ⟨go5, 0, none⟩) x0_1.length co9) y332 := (by rw [hw, Ny332.out]; exact HP12.1); clear HP12; replace HB := Aside0.mk ((by rw [hw]; exact below_set (HB.out) GB5.out : Below w0.heap.size w0 w13)); replace HK := Aside0.mk (Kept.of_grown (S := (fun k_ => P0_ k_)) hg (by repeat (first | (with_reducible first | exact HK.out | apply Kept.alloc | apply Kept.drewN | apply Kept.drew) | exact HK.out)) (fun k_ e_ => (HO_0.out.1 k_ e_))); replace HO_0 := Aside0.mk (hp_); clear hg hw hp_) | ((with_reducible refine gate_callee (f := 63) rfl ?_); refine goesL_ (some 29) rfl rfl Try.func63 (by kernel_rfl) rfl #[.int .i64 (wrap64 ((wrap64 (x1_1 + 1)) + 1))] rfl nc_ ?_; (with_reducible refine (laws_markText.calls k1 (wrap64 ((wrap64 (x1_1 + 1)) + 1)) t333 _ A7.out).mono ?_); rintro e w14 ⟨rfl, hb⟩; refine ⟨_, rfl, ?_⟩; replace HO_0 := rb_ HO_0 hb; replace HK := Aside0.mk (Kept.below (S := (fun k_ => P0_ k_)) (by repeat (first | (with_reducible first | exact HK.out | apply Kept.alloc | apply Kept.drewN | apply Kept.drew) | exact HK.out)) hb); replace HB := Aside0.mk (below_step bl_ hb); clear hb; have p8 : 0 ≤ (x5_1 : Int) := of_decide_eq_true (by first | (with_reducible assumption) | assumption); have q8 : (x5_1 : Int) < ((x0_1.length : Int) : Int) := of_decide_eq_true (by first | (with_reducible assumption) | assumption); obtain ⟨ce8, hcl8, hM8, hcc8, hfr8⟩ := Kd.R_elem HO_0.out z40 (x5_1 : Int) p8 q8; obtain rfl := k40_openM hM8; have hx8_0 : w14.cell? ⟨go5, (x5_1 : Int).toNat * 3, none⟩ = some (.int .i64 ((rd_T40 y332 x5_1).f0)) := hcc8 0 _ rfl; have hx8_1 : w14.cell? ⟨go5, (x5_1 : Int).toNat * 3 + 1, none⟩ = some (.int .i64 ((rd_T40 y332 x5_1).f1)) := hcc8 1 _ rfl; have hx8_2 : w14.cell? ⟨go5, (x5_1 : Int).toNat * 3 + 2, none⟩ = some (.string ((rd_T40 y332 x5_1).f2)) := hcc8 2 _ rfl; have hf8_0 : w14.frozen? ⟨go5, (x5_1 : Int).toNat * 3, none⟩ = false := hfr8 0; have hf8_1 : w14.frozen? ⟨go5, (x5_1 : Int).toNat * 3 + 1, none⟩ = false := hfr8 1; have hf8_2 : w14.frozen? ⟨go5, (x5_1 : Int).toNat * 3 + 2, none⟩ = false := hfr8 2; clear hcl8 hcc8 hfr8 hM8; replace p8 := eq_true p8; replace q8 := eq_true q8; have HX15 := Aside0.mk (show Kd.R k40 40 w14 w0.heap.size (fun k_ => (P0_ k_ ∨ w.heap.size ≤ k_)) (.slice (some ⟨go5, 0, none⟩) x0_1.length co9) y332 from (kr_ HO_0.out)); obtain ⟨ce15, hcl15, hM15, hcc15, hfr15⟩ := Kd.R_elem HX15.out z40 (x5_1 : Int) (of_decide_eq_true (by first | (with_reducible assumption) | assumption)) (by have h_ : (x5_1 : Int) < ((x0_1.length : Int) : Int) := of_decide_eq_true (by first | (with_reducible assumption) | assumption); first | exact h_ | (have e_ := (Kd.R_reads' HO_0.out).1; omega) | simpa using h_); obtain rfl := k40_openM hM15; have HP15 := Kd.R_seg HX15.out (x5_1 : Int) (of_decide_eq_true (by first | (with_reducible assumption) | assumption)) (by have h_ : (x5_1 : Int) < ((x0_1.length : Int) : Int) := of_decide_eq_true (by first | (with_reducible assumption) | assumption); first | exact h_ | (have e_ := (Kd.R_reads' HO_0.out).1; omega) | simpa using h_) (seg := [.string t333]) (j := 2) hcl15 hcc15 (show 3 ≤ 3 from by decide) (x' := (⟨(rd_T40 y332 x5_1).f0, (rd_T40 y332 x5_1).f1, t333⟩ : S40)) (k40_mkM _ _ _ (⟨(rd_T40 y332 x5_1).f0, (rd_T40 y332 x5_1).f1, t333⟩ : S40) ) (fun _ hk => hk); have hx15_2 := hcc15 2 _ rfl; (try simp only [show (k40).sz = 3 from rfl, Nat.mul_one, Nat.add_zero] at hx15_2); have hf15_2 := hfr15 2; (try simp only [show (k40).sz = 3 from rfl, Nat.mul_one, Nat.add_zero] at hf15_2); clear hcl15 hcc15 hfr15 hM15) | ((with_reducible refine gate_store (t := 9) (p := 31) rfl ?_); refine store_event (t := 9) (p := 31) (v := ?vo_w16) (w1 := (w14.setCell ⟨go5, (x5_1 : Int).toNat * 3 + 2, none⟩ (.string t333))) ?hg ?ho ?hn ?hr ?_; (case ho => rfl); (case hg => rfl); (case hn => rfl); (case hr => first | (go_simp; done) | (go_simp; rfl)); intro w16 hw; have hg : w14.grownBy w16 (some go5) := (by rw [hw]; exact HP15.2); have hp_ : Kd.R k40 40 w16 w0.heap.size (fun k_ => (P0_ k_ ∨ w.heap.size ≤ k_)) (.slice (some ⟨go5, 0, none⟩) x0_1.length co9) y334 := (by rw [hw, Ny334.out]; exact HP15.1); clear HP15; replace HB := Aside0.mk ((by rw [hw]; exact below_set (HB.out) GB5.out : Below w0.heap.size w0 w16)); replace HK := Aside0.mk (Kept.of_grown (S := (fun k_ => P0_ k_)) hg (by repeat (first | (with_reducible first | exact HK.out | apply Kept.alloc | apply Kept.drewN | apply Kept.drew) | exact HK.out)) (fun k_ e_ => (HO_0.out.1 k_ e_))); replace HO_0 := Aside0.mk (hp_); clear hg hw hp_))
 go_roundg k1
 case measure => have := HK1.out; omega
 case rel => exact ⟨(y334), (wrap64 ((wrap64 ((wrap64 (x1_1 + 1)) + 1)) + 1)), (wrap64 (x5_1 + 1)), (by first | rfl | (simp; done) | (simp [*]; done)), (by first | rfl | (simp; done) | (simp [*]; done)), H', ⟨by have := HK1.out; omega⟩, ⟨by exact kr_ HO_0.out⟩, ⟨by repeat (first | (with_reducible first | exact HK.out | apply Kept.alloc | apply Kept.drewN | apply Kept.drew) | exact HK.out)⟩, ⟨bl_⟩⟩

/-! ### laws_markIntS: function 33 -/
def laws_markIntS.l0 : Nat → List Int → Int → Int → Option (Int × List Int)
 | 0, _, _, _ => none
 | k + 1, x0, x1, x5 => if x5 < (x0.length : Int) then (if 0 ≤ x5 then (laws_markIntS.l0 k (x0.set (x5 : Int).toNat x1) (wrap64 (x1 + 1)) (wrap64 (x5 + 1))) else (none)) else (some (x1, x0))
def laws_markIntS.f (k : Nat) (l0 : List Int) (a1 : Int) : Option (Int × List Int) := laws_markIntS.l0 k l0 a1 0
theorem laws_markIntS.mono_l : ∀ k, (∀ y0 y1 y2, LeO (laws_markIntS.l0 k y0 y1 y2) (laws_markIntS.l0 (k + 1) y0 y1 y2))
 | 0 => fun _ _ _ r h => by simp [laws_markIntS.l0] at h
 | k + 1 => by
  have ih0 := laws_markIntS.mono_l k
  ·intro y0 y1 y2
   unfold laws_markIntS.l0
   repeat' first
   | (with_reducible exact ih0 _ _ _)
   | (with_reducible exact LeO.refl _)
   | (with_reducible exact LeO.none _)
   | (with_reducible refine LeO.ite ?_ ?_)
   | (with_reducible refine LeO.bind ?_ (fun _ => ?_))
   | exact ih0 _ _ _
   | exact LeO.none _
   | refine LeO.ite ?_ ?_
   | refine LeO.bind ?_ (fun _ => ?_)
theorem laws_markIntS.mono : ∀ a0 a1 k, LeO (laws_markIntS.f k a0 a1) (laws_markIntS.f (k + 1) a0 a1) := by
 intro a0 a1 k
 have ih0 := laws_markIntS.mono_l k
 unfold laws_markIntS.f
 repeat' first
   | (with_reducible exact ih0 _ _ _)
   | (with_reducible exact LeO.refl _)
   | (with_reducible exact LeO.none _)
   | (with_reducible refine LeO.ite ?_ ?_)
   | (with_reducible refine LeO.bind ?_ (fun _ => ?_))
   | exact ih0 _ _ _
   | exact LeO.none _
   | refine LeO.ite ?_ ?_
   | refine LeO.bind ?_ (fun _ => ?_)
set_option maxHeartbeats 8000000 in
set_option maxRecDepth 100000 in
theorem laws_markIntS.calls (k : Nat) (P0_ : Nat → Prop) (u9000_ : Value) (l0 : List Int) (a1 : Int) (r1 : Int) (r2 : List Int) (w0 w : World) (hB : Below w0.heap.size w0 w) (ho0 : Kd.R (Kd.int .i64) 3 w w0.heap.size P0_ u9000_ l0) (h : laws_markIntS.f k l0 a1 = some (r1, r2)) :
  Calls Try.prog 33 #[u9000_, .int .i64 a1] w fun e w' => e = .returned (.int .i64 r1) ∧ Kd.R (Kd.int .i64) 3 w' w0.heap.size (fun k_ => (P0_ k_ ∨ w.heap.size ≤ k_)) u9000_ r2 ∧ Below w0.heap.size w0 w' ∧ Kept w w' (fun k_ => P0_ k_) := by
 have HO0 := Aside0.mk (show Kd.R (Kd.int .i64) 3 w w0.heap.size (fun k_ => (P0_ k_ ∨ w.heap.size ≤ k_)) u9000_ l0 from Kd.R_mono ho0 (fun k_ hk => (.inl hk)))
 have HK := Aside0.mk (Kept.refl w (fun k_ => P0_ k_))
 have HW0 := Aside0.mk hB.size
 have HB := Aside0.mk hB
 clear hB
 have H : (laws_markIntS.l0 k l0 a1 0) = some (r1, r2) := h
 clear h
 have H' := Aside0.mk H
 clear H
 go_enter Try.func33, Try.ntmps33
 go_wp2
 go_loopg [1, 5] k (fun kq v1 v5 w' => ∃ (x0_1 : List Int) (x1_1 : Int) (x5_1 : Int), v1 = .int .i64 x1_1 ∧ v5 = .int .i64 x5_1 ∧ Aside0 (laws_markIntS.l0 kq x0_1 x1_1 x5_1 = some (r1, r2)) ∧ Aside0 (kq ≤ k) ∧ Aside0 (Kd.R (Kd.int .i64) 3 w' w0.heap.size (fun k_ => (P0_ k_ ∨ w.heap.size ≤ k_)) u9000_ x0_1) ∧ Aside0 (Kept w w' (fun k_ => P0_ k_)) ∧ Aside0 (Below w0.heap.size w0 w'))
 case atStart => exact ⟨(l0), (a1), (0), (by first | rfl | (simp; done) | (simp [*]; done)), (by first | rfl | (simp; done) | (simp [*]; done)), H', ⟨Nat.le_refl _⟩, ⟨by exact kr_ HO0.out⟩, ⟨by repeat (first | (with_reducible first | exact HK.out | apply Kept.alloc | apply Kept.drewN | apply Kept.drew) | exact HK.out)⟩, ⟨bl_⟩⟩
 clear H'
 try clear p2
 obtain ⟨x0_1, x1_1, x5_1, rfl, rfl, HA, HK1, HO_0, HK, HB⟩ := hrel
 cases gk with
 | zero => exact absurd HA.out (by simp [laws_markIntS.l0])
 | succ k1 => ?_
 have H := HA.out
 clear HA
 simp only [laws_markIntS.l0] at H
 by_cases c3 : x5_1 < (x0_1.length : Int)
 rotate_left
 ·rw [if_neg c3] at H
  have c3b0 : decide (x5_1 < (x0_1.length : Int)) = false := decide_eq_false c3
  clear c3
  simp only [Option.some.injEq, Prod.mk.injEq] at H
  obtain ⟨rfl, rfl⟩ := H
  obtain ⟨Ao9, co9, eo9⟩ := Kd.R_slice HO_0.out
  subst eo9
  go_wp2
  go_ret
  exact ⟨ng_, by exact kr_ HO_0.out, bl_, by repeat (first | (with_reducible first | exact HK.out | apply Kept.alloc | apply Kept.drewN | apply Kept.drew) | exact HK.out)⟩
 rw [if_pos c3] at H
 have c3b0 : decide (x5_1 < (x0_1.length : Int)) = true := decide_eq_true c3
 clear c3
 by_cases c4 : 0 ≤ x5_1
 rotate_left
 ·rw [if_neg c4] at H
  exact absurd H (by simp)
 rw [if_pos c4] at H
 have c4b0 : decide (0 ≤ x5_1) = true := decide_eq_true c4
 clear c4
 obtain ⟨y335, hy335⟩ : ∃ y_ : List Int, y_ = (x0_1.set (x5_1 : Int).toNat x1_1) := ⟨_, rfl⟩
 replace H : (laws_markIntS.l0 k1 y335 (wrap64 (x1_1 + 1)) (wrap64 (x5_1 + 1))) = some (r1, r2) := by first | (rw [hy335]; with_reducible exact H) | (have H2_ := (Option.bind_some _ _).symm.trans H; rw [hy335]; with_reducible exact H2_) | (have H2_ := (Option.bind_some _ _).symm.trans H; with_reducible exact H2_) | with_reducible exact H | (rw [hy335]; exact H) | exact H
 have Ny335 := Aside0.mk hy335
 clear hy335
 have H' := Aside0.mk H
 clear H
 obtain ⟨Ao6, co6, eo6⟩ := Kd.R_slice HO_0.out
 subst eo6
 have p5 : 0 ≤ (x5_1 : Int) := of_decide_eq_true (by first | (with_reducible assumption) | assumption)
 have q5 : (x5_1 : Int) < ((x0_1.length : Int) : Int) := of_decide_eq_true (by first | (with_reducible assumption) | assumption)
 obtain ⟨go5, co5, eo5, gb5, gl5, cl5, HG5⟩ := Kd.R_form HO_0.out (by omega)
 (first | cases eo5 | (injection eo5 with ea_ en_ ec_; (first | subst ea_ | (injection ea_ with ea_; subst ea_)); subst ec_; clear en_))
 have GB5 := Aside0.mk gb5
 have GG5 := Aside0.mk HG5
 clear gb5 gl5 HG5
 have HMgo5 := Aside0.mk (show (P0_ go5 ∨ w.heap.size ≤ go5) from (HO_0.out.1 _ rfl))
 obtain ⟨hx5_0, hf5_0⟩ := Kd.R_celln 0 HO_0.out (x5_1 : Int) p5 q5
 replace p5 := eq_true p5
 replace q5 := eq_true q5
 have HP7 := Kd.R_putg HO_0.out (x5_1 : Int) x1_1
 go_wp2_with (first | ((with_reducible refine gate_store (t := 3) (p := 15) rfl ?_); refine store_event (t := 3) (p := 15) (v := ?vo_w8) (w1 := (wr.setCell ⟨go5, (x5_1 : Int).toNat, none⟩ (.int .i64 x1_1))) ?hg ?ho ?hn ?hr ?_; (case ho => rfl); (case hg => rfl); (case hn => rfl); (case hr => first | (go_simp; done) | (go_simp; rfl)); intro w8 hw; have hg : wr.grownBy w8 (some go5) := (by rw [hw]; exact HP7.2); have hp_ : Kd.R (Kd.int .i64) 3 w8 w0.heap.size (fun k_ => (P0_ k_ ∨ w.heap.size ≤ k_)) (.slice (some ⟨go5, 0, none⟩) x0_1.length co6) y335 := (by rw [hw, Ny335.out]; exact HP7.1); clear HP7; replace HB := Aside0.mk ((by rw [hw]; exact below_set (HB.out) GB5.out : Below w0.heap.size w0 w8)); replace HK := Aside0.mk (Kept.of_grown (S := (fun k_ => P0_ k_)) hg (by repeat (first | (with_reducible first | exact HK.out | apply Kept.alloc | apply Kept.drewN | apply Kept.drew) | exact HK.out)) (fun k_ e_ => (HO_0.out.1 k_ e_))); replace HO_0 := Aside0.mk (hp_); clear hg hw hp_))
 go_roundg k1
 case measure => have := HK1.out; omega
 case rel => exact ⟨(y335), (wrap64 (x1_1 + 1)), (wrap64 (x5_1 + 1)), (by first | rfl | (simp; done) | (simp [*]; done)), (by first | rfl | (simp; done) | (simp [*]; done)), H', ⟨by have := HK1.out; omega⟩, ⟨by exact kr_ HO_0.out⟩, ⟨by repeat (first | (with_reducible first | exact HK.out | apply Kept.alloc | apply Kept.drewN | apply Kept.drew) | exact HK.out)⟩, ⟨bl_⟩⟩

-- NOT PRINTED: function 49 (laws_markRegOpS)

-- NOT PRINTED: function 14 (laws_markRegister)

end Go.Proofs.Ytipfikmbldgliaa.PRG
