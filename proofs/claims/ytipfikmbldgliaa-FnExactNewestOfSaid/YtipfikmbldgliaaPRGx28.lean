/- What this text proves: the machine calls of these functions return what the plain functions say. Conditions: as each theorem says. Printed by a program of this session out of the translation. -/
import Derived.Test.YtipfikmbldgliaaPRGx0
import Derived.Test.YtipfikmbldgliaaPRGx2
import Derived.Test.YtipfikmbldgliaaPRGx3
import Derived.Test.YtipfikmbldgliaaPRGx22
import Derived.Test.YtipfikmbldgliaaPRGx5
import Derived.Test.YtipfikmbldgliaaPRGx21
namespace Go.Proofs.Ytipfikmbldgliaa.PRG
open Go.RowKit Go.Proofs.YtipfikmbldgliaaW.PrintWords Go.Proofs.YtipfikmbldgliaaW.PrintLast Go.Proofs.YtipfikmbldgliaaW.PrintMore
attribute [local go_sem] max2_int min2_int max_two min_two max_three min_three max_four min_four   -- for this text's walks alone
set_option linter.unusedVariables false
set_option linter.unusedSimpArgs false

/-! ### impl_GoodRegister: function 19 -/
def impl_GoodRegister.f (k : Nat) (a0_0 : Int) (l0_1 : List (S40)) (l0_2 : List (S83)) : Option (Bool) := (impl_isRegister.f k a0_0 l0_1 l0_2).bind fun t244 => (some t244)
theorem impl_GoodRegister.mono : ∀ a0 a1 a2 k, LeO (impl_GoodRegister.f k a0 a1 a2) (impl_GoodRegister.f (k + 1) a0 a1 a2) := by
 intro a0 a1 a2 k
 unfold impl_GoodRegister.f
 repeat' first
   | (with_reducible exact impl_isRegister.mono _ _ _ _)
   | (with_reducible exact LeO.refl _)
   | (with_reducible exact LeO.none _)
   | (with_reducible refine LeO.ite ?_ ?_)
   | (with_reducible refine LeO.bind ?_ (fun _ => ?_))
   | exact impl_isRegister.mono _ _ _ _
   | exact LeO.none _
   | refine LeO.ite ?_ ?_
   | refine LeO.bind ?_ (fun _ => ?_)
set_option maxHeartbeats 8000000 in
set_option maxRecDepth 100000 in
theorem impl_GoodRegister.calls (k : Nat) (a0_0 : Int) (A0_1 : Option Addr) (c0_1 : Nat) (l0_1 : List (S40)) (A0_2 : Option Addr) (c0_2 : Nat) (l0_2 : List (S83)) (r : Bool) (w : World) (hr0_1 : Kd.C k40 w A0_1 l0_1.length l0_1) (hc0_1 : l0_1.length ≤ c0_1) (hr0_2 : Kd.C k83 w A0_2 l0_2.length l0_2) (hc0_2 : l0_2.length ≤ c0_2) (h : impl_GoodRegister.f k a0_0 l0_1 l0_2 = some r) :
  Calls Try.prog 19 #[.agg #[.int .i64 a0_0, .slice A0_1 l0_1.length c0_1, .slice A0_2 l0_2.length c0_2]] w fun e w' => e = .returned (.bool r) ∧ Below w.heap.size w w' := by
 have hu25 := Try.underlying25
 have HR0_1 := Aside0.mk hr0_1
 have HC0_1 := Aside0.mk hc0_1
 clear hr0_1 hc0_1
 have HR0_2 := Aside0.mk hr0_2
 have HC0_2 := Aside0.mk hc0_2
 clear hr0_2 hc0_2
 have HB := Aside0.mk (Below.refl w.heap.size w)
 have H : ((impl_isRegister.f k a0_0 l0_1 l0_2).bind fun t244 => (some t244)) = some r := h
 clear h
 replace H := Option.bind_eq_some_iff.mp H
 obtain ⟨t244, A20, H⟩ := H
 replace H : (some t244) = some r := H
 have A2 := Aside0.mk A20
 clear A20
 obtain rfl := Option.some.inj H
 go_enter Try.func19, Try.ntmps19
 go_wp2_with (first | ((with_reducible refine gate_dst (N := 1) rfl ?_); refine box_event rfl (N := 1) rfl (cs := #[.int .i64 a0_0, .slice A0_1 l0_1.length c0_1, .slice A0_2 l0_2.length c0_2]) (t := 25) gs_ ?_; intro gb243 hg w3 hbox hb; have BK243 := Aside0.mk (hbox); have GW243 := Aside0.mk ((by rw [hg]; exact bz_ : w.heap.size ≤ gb243)); have GE243 := GW243; replace HB := Aside0.mk (below_step bl_ hb); clear hb hbox hg; have hcz4_0 : w3.cell? ⟨gb243, 0, none⟩ = some (.int .i64 a0_0) := bc_ BK243.out 0; have hcz4_1 : w3.cell? ⟨gb243, 1, none⟩ = some (.slice A0_1 l0_1.length c0_1) := bc_ BK243.out 1; have hcz4_2 : w3.cell? ⟨gb243, 2, none⟩ = some (.slice A0_2 l0_2.length c0_2) := bc_ BK243.out 2; have hfz4_0 := blk_frozen BK243.out 0; have hfz4_1 := blk_frozen BK243.out 1; have hfz4_2 := blk_frozen BK243.out 2) | ((with_reducible refine gate_callee (f := 59) rfl ?_); refine goesL_ (some 4) rfl rfl Try.func59 (by kernel_rfl) rfl #[.agg #[.int .i64 a0_0, .slice A0_1 l0_1.length c0_1, .slice A0_2 l0_2.length c0_2]] rfl nc_ ?_; (with_reducible refine (impl_isRegister.calls k a0_0 _ _ l0_1 _ _ l0_2 t244 _ ?side1 ?side2 ?side3 ?side4 A2.out).mono ?_); (case side1 => exact kc_ (Kd.C_below HR0_1.out HB.out)); (case side2 => exact HC0_1.out); (case side3 => exact kc_ (Kd.C_below HR0_2.out HB.out)); (case side4 => exact HC0_2.out); rintro e w5 ⟨rfl, hb⟩; refine ⟨_, rfl, ?_⟩; replace BK243 := bb_ BK243 hb; replace HB := Aside0.mk (below_step bl_ hb); clear hb))
 go_ret
 exact ⟨ng_, bl_⟩

/-! ### laws_FnExactGoodRegister: function 4 -/
def laws_FnExactGoodRegister.f (k : Nat) (a0_0 : Int) (l0_1 : List (S109)) (l0_2 : List (S112)) : Option (Bool) := (laws_szRegister.f k a0_0 l0_1 l0_2 1048576).bind fun t246 => (if t246 < 0 then (some true) else ((laws_toRegister.f k a0_0 l0_1 l0_2).bind fun bt247 => ((spec_GoodRegister.f k bt247.1 bt247.2.1 bt247.2.2).bind fun t254 => ((laws_toRegister.f k a0_0 l0_1 l0_2).bind fun bt255 => ((impl_GoodRegister.f k bt255.1 bt255.2.1 bt255.2.2).bind fun t263 => (if (t263 != t254) = true then (none) else ((laws_toRegister.f k a0_0 l0_1 l0_2).bind fun bt264 => ((laws_eqRegister.f k bt255.1 bt255.2.1 bt255.2.2 bt264.1 bt264.2.1 bt264.2.2).bind fun t271 => (if t271 = true then (some true) else (none))))))))))
theorem laws_FnExactGoodRegister.mono : ∀ a0 a1 a2 k, LeO (laws_FnExactGoodRegister.f k a0 a1 a2) (laws_FnExactGoodRegister.f (k + 1) a0 a1 a2) := by
 intro a0 a1 a2 k
 unfold laws_FnExactGoodRegister.f
 repeat' first
   | (with_reducible exact impl_GoodRegister.mono _ _ _ _)
   | (with_reducible exact laws_eqRegister.mono _ _ _ _ _ _ _)
   | (with_reducible exact laws_szRegister.mono _ _ _ _ _)
   | (with_reducible exact laws_toRegister.mono _ _ _ _)
   | (with_reducible exact spec_GoodRegister.mono _ _ _ _)
   | (with_reducible exact LeO.refl _)
   | (with_reducible exact LeO.none _)
   | (with_reducible refine LeO.ite ?_ ?_)
   | (with_reducible refine LeO.bind ?_ (fun _ => ?_))
   | exact impl_GoodRegister.mono _ _ _ _
   | exact laws_eqRegister.mono _ _ _ _ _ _ _
   | exact laws_szRegister.mono _ _ _ _ _
   | exact laws_toRegister.mono _ _ _ _
   | exact spec_GoodRegister.mono _ _ _ _
   | exact LeO.none _
   | refine LeO.ite ?_ ?_
   | refine LeO.bind ?_ (fun _ => ?_)
set_option maxHeartbeats 8000000 in
set_option maxRecDepth 100000 in
theorem laws_FnExactGoodRegister.calls (k : Nat) (a0_0 : Int) (A0_1 : Option Addr) (c0_1 : Nat) (l0_1 : List (S109)) (A0_2 : Option Addr) (c0_2 : Nat) (l0_2 : List (S112)) (r : Bool) (w : World) (hr0_1 : Kd.C k109 w A0_1 l0_1.length l0_1) (hc0_1 : l0_1.length ≤ c0_1) (hr0_2 : Kd.C k112 w A0_2 l0_2.length l0_2) (hc0_2 : l0_2.length ≤ c0_2) (h : laws_FnExactGoodRegister.f k a0_0 l0_1 l0_2 = some r) :
  Calls Try.prog 4 #[.agg #[.int .i64 a0_0, .slice A0_1 l0_1.length c0_1, .slice A0_2 l0_2.length c0_2]] w fun e w' => e = .returned (.bool r) ∧ Below w.heap.size w w' := by
 have hu34 := Try.underlying34
 have hu25 := Try.underlying25
 have HR0_1 := Aside0.mk hr0_1
 have HC0_1 := Aside0.mk hc0_1
 clear hr0_1 hc0_1
 have HR0_2 := Aside0.mk hr0_2
 have HC0_2 := Aside0.mk hc0_2
 clear hr0_2 hc0_2
 have HB := Aside0.mk (Below.refl w.heap.size w)
 have H : ((laws_szRegister.f k a0_0 l0_1 l0_2 1048576).bind fun t246 => (if t246 < 0 then (some true) else ((laws_toRegister.f k a0_0 l0_1 l0_2).bind fun bt247 => ((spec_GoodRegister.f k bt247.1 bt247.2.1 bt247.2.2).bind fun t254 => ((laws_toRegister.f k a0_0 l0_1 l0_2).bind fun bt255 => ((impl_GoodRegister.f k bt255.1 bt255.2.1 bt255.2.2).bind fun t263 => (if (t263 != t254) = true then (none) else ((laws_toRegister.f k a0_0 l0_1 l0_2).bind fun bt264 => ((laws_eqRegister.f k bt255.1 bt255.2.1 bt255.2.2 bt264.1 bt264.2.1 bt264.2.2).bind fun t271 => (if t271 = true then (some true) else (none))))))))))) = some r := h
 clear h
 replace H := Option.bind_eq_some_iff.mp H
 obtain ⟨t246, A20, H⟩ := H
 replace H : (if t246 < 0 then (some true) else ((laws_toRegister.f k a0_0 l0_1 l0_2).bind fun bt247 => ((spec_GoodRegister.f k bt247.1 bt247.2.1 bt247.2.2).bind fun t254 => ((laws_toRegister.f k a0_0 l0_1 l0_2).bind fun bt255 => ((impl_GoodRegister.f k bt255.1 bt255.2.1 bt255.2.2).bind fun t263 => (if (t263 != t254) = true then (none) else ((laws_toRegister.f k a0_0 l0_1 l0_2).bind fun bt264 => ((laws_eqRegister.f k bt255.1 bt255.2.1 bt255.2.2 bt264.1 bt264.2.1 bt264.2.2).bind fun t271 => (if t271 = true then (some true) else (none)))))))))) = some r := H
 have A2 := Aside0.mk A20
 clear A20
 by_cases c3 : t246 < 0
 ·rw [if_pos c3] at H
  have c3b0 : decide (t246 < 0) = true := decide_eq_true c3
  clear c3
  obtain rfl := Option.some.inj H
  go_enter Try.func4, Try.ntmps4
  go_wp2_with (first | ((with_reducible refine gate_dst (N := 1) rfl ?_); refine box_event rfl (N := 1) rfl (cs := #[.int .i64 a0_0, .slice A0_1 l0_1.length c0_1, .slice A0_2 l0_2.length c0_2]) (t := 34) gs_ ?_; intro gb245 hg w4 hbox hb; have BK245 := Aside0.mk (hbox); have GW245 := Aside0.mk ((by rw [hg]; exact bz_ : w.heap.size ≤ gb245)); have GE245 := GW245; replace HB := Aside0.mk (below_step bl_ hb); clear hb hbox hg; have hcz5_0 : w4.cell? ⟨gb245, 0, none⟩ = some (.int .i64 a0_0) := bc_ BK245.out 0; have hcz5_1 : w4.cell? ⟨gb245, 1, none⟩ = some (.slice A0_1 l0_1.length c0_1) := bc_ BK245.out 1; have hcz5_2 : w4.cell? ⟨gb245, 2, none⟩ = some (.slice A0_2 l0_2.length c0_2) := bc_ BK245.out 2; have hfz5_0 := blk_frozen BK245.out 0; have hfz5_1 := blk_frozen BK245.out 1; have hfz5_2 := blk_frozen BK245.out 2) | ((with_reducible refine gate_callee (f := 16) rfl ?_); refine goesL_ (some 9) rfl rfl Try.func16 (by kernel_rfl) rfl #[.agg #[.int .i64 a0_0, .slice A0_1 l0_1.length c0_1, .slice A0_2 l0_2.length c0_2], .int .i64 1048576] rfl nc_ ?_; (with_reducible refine (laws_szRegister.calls k a0_0 _ _ l0_1 _ _ l0_2 1048576 t246 _ ?side1 ?side2 ?side3 ?side4 A2.out).mono ?_); (case side1 => exact kc_ (Kd.C_below HR0_1.out HB.out)); (case side2 => exact HC0_1.out); (case side3 => exact kc_ (Kd.C_below HR0_2.out HB.out)); (case side4 => exact HC0_2.out); rintro e w6 ⟨rfl, hb⟩; refine ⟨_, rfl, ?_⟩; replace BK245 := bb_ BK245 hb; replace HB := Aside0.mk (below_step bl_ hb); clear hb))
  go_ret
  exact ⟨ng_, bl_⟩
 rw [if_neg c3] at H
 have c3b0 : decide (t246 < 0) = false := decide_eq_false c3
 clear c3
 replace H := Option.bind_eq_some_iff.mp H
 obtain ⟨⟨t247, t248, t251⟩, A70, H⟩ := H
 replace H : ((spec_GoodRegister.f k t247 t248 t251).bind fun t254 => ((laws_toRegister.f k a0_0 l0_1 l0_2).bind fun bt255 => ((impl_GoodRegister.f k bt255.1 bt255.2.1 bt255.2.2).bind fun t263 => (if (t263 != t254) = true then (none) else ((laws_toRegister.f k a0_0 l0_1 l0_2).bind fun bt264 => ((laws_eqRegister.f k bt255.1 bt255.2.1 bt255.2.2 bt264.1 bt264.2.1 bt264.2.2).bind fun t271 => (if t271 = true then (some true) else (none)))))))) = some r := H
 have A7 := Aside0.mk A70
 clear A70
 replace H := Option.bind_eq_some_iff.mp H
 obtain ⟨t254, A80, H⟩ := H
 replace H : ((laws_toRegister.f k a0_0 l0_1 l0_2).bind fun bt255 => ((impl_GoodRegister.f k bt255.1 bt255.2.1 bt255.2.2).bind fun t263 => (if (t263 != t254) = true then (none) else ((laws_toRegister.f k a0_0 l0_1 l0_2).bind fun bt264 => ((laws_eqRegister.f k bt255.1 bt255.2.1 bt255.2.2 bt264.1 bt264.2.1 bt264.2.2).bind fun t271 => (if t271 = true then (some true) else (none))))))) = some r := H
 have A8 := Aside0.mk A80
 clear A80
 replace H := Option.bind_eq_some_iff.mp H
 obtain ⟨⟨t255, t256, t259⟩, A90, H⟩ := H
 replace H : ((impl_GoodRegister.f k t255 t256 t259).bind fun t263 => (if (t263 != t254) = true then (none) else ((laws_toRegister.f k a0_0 l0_1 l0_2).bind fun bt264 => ((laws_eqRegister.f k t255 t256 t259 bt264.1 bt264.2.1 bt264.2.2).bind fun t271 => (if t271 = true then (some true) else (none)))))) = some r := H
 have A9 := Aside0.mk A90
 clear A90
 replace H := Option.bind_eq_some_iff.mp H
 obtain ⟨t263, A100, H⟩ := H
 replace H : (if (t263 != t254) = true then (none) else ((laws_toRegister.f k a0_0 l0_1 l0_2).bind fun bt264 => ((laws_eqRegister.f k t255 t256 t259 bt264.1 bt264.2.1 bt264.2.2).bind fun t271 => (if t271 = true then (some true) else (none))))) = some r := H
 have A10 := Aside0.mk A100
 clear A100
 by_cases c11 : (t263 != t254) = true
 ·rw [if_pos c11] at H
  exact absurd H (by simp)
 rw [if_neg c11] at H
 have c11b0 : (t263 != t254) = false := by simpa using c11
 (try (have c11b1 : decide (t263 = t254) = true := by simpa using c11))
 (try (have c11b2 : (t263 == t254) = true := by simpa using c11))
 clear c11
 replace H := Option.bind_eq_some_iff.mp H
 obtain ⟨⟨t264, t265, t268⟩, A120, H⟩ := H
 replace H : ((laws_eqRegister.f k t255 t256 t259 t264 t265 t268).bind fun t271 => (if t271 = true then (some true) else (none))) = some r := H
 have A12 := Aside0.mk A120
 clear A120
 replace H := Option.bind_eq_some_iff.mp H
 obtain ⟨t271, A130, H⟩ := H
 replace H : (if t271 = true then (some true) else (none)) = some r := H
 have A13 := Aside0.mk A130
 clear A130
 by_cases c14 : t271 = true
 rotate_left
 ·replace c14 := Bool.eq_false_iff.mpr c14
  subst c14
  have H1 : (none) = some r := by rw [if_neg (show ¬ (false = true) by decide)] at H; exact H
  clear H
  have H := H1
  clear H1
  exact absurd H (by simp)
 subst c14
 have H1 : (some true) = some r := by rw [if_pos rfl] at H; exact H
 clear H
 have H := H1
 clear H1
 obtain rfl := Option.some.inj H
 go_enter Try.func4, Try.ntmps4
 try go_wp2_with (first | ((with_reducible refine gate_dst (N := 1) rfl ?_); refine box_event rfl (N := 1) rfl (cs := #[.int .i64 a0_0, .slice A0_1 l0_1.length c0_1, .slice A0_2 l0_2.length c0_2]) (t := 34) gs_ ?_; intro gb245 hg w15 hbox hb; have BK245 := Aside0.mk (hbox); have GW245 := Aside0.mk ((by rw [hg]; exact bz_ : w.heap.size ≤ gb245)); have GE245 := GW245; replace HB := Aside0.mk (below_step bl_ hb); clear hb hbox hg; have hcz16_0 : w15.cell? ⟨gb245, 0, none⟩ = some (.int .i64 a0_0) := bc_ BK245.out 0; have hcz16_1 : w15.cell? ⟨gb245, 1, none⟩ = some (.slice A0_1 l0_1.length c0_1) := bc_ BK245.out 1; have hcz16_2 : w15.cell? ⟨gb245, 2, none⟩ = some (.slice A0_2 l0_2.length c0_2) := bc_ BK245.out 2; have hfz16_0 := blk_frozen BK245.out 0; have hfz16_1 := blk_frozen BK245.out 1; have hfz16_2 := blk_frozen BK245.out 2) | ((with_reducible refine gate_callee (f := 16) rfl ?_); refine goesL_ (some 9) rfl rfl Try.func16 (by kernel_rfl) rfl #[.agg #[.int .i64 a0_0, .slice A0_1 l0_1.length c0_1, .slice A0_2 l0_2.length c0_2], .int .i64 1048576] rfl nc_ ?_; (with_reducible refine (laws_szRegister.calls k a0_0 _ _ l0_1 _ _ l0_2 1048576 t246 _ ?side1 ?side2 ?side3 ?side4 A2.out).mono ?_); (case side1 => exact kc_ (Kd.C_below HR0_1.out HB.out)); (case side2 => exact HC0_1.out); (case side3 => exact kc_ (Kd.C_below HR0_2.out HB.out)); (case side4 => exact HC0_2.out); rintro e w17 ⟨rfl, hb⟩; refine ⟨_, rfl, ?_⟩; replace BK245 := bb_ BK245 hb; replace HB := Aside0.mk (below_step bl_ hb); clear hb; have hcz18_0 : w17.cell? ⟨gb245, 0, none⟩ = some (.int .i64 a0_0) := bc_ BK245.out 0; have hcz18_1 : w17.cell? ⟨gb245, 1, none⟩ = some (.slice A0_1 l0_1.length c0_1) := bc_ BK245.out 1; have hcz18_2 : w17.cell? ⟨gb245, 2, none⟩ = some (.slice A0_2 l0_2.length c0_2) := bc_ BK245.out 2; have hfz18_0 := blk_frozen BK245.out 0; have hfz18_1 := blk_frozen BK245.out 1; have hfz18_2 := blk_frozen BK245.out 2) | ((with_reducible refine gate_callee (f := 18) rfl ?_); refine goesL_ (some 13) rfl rfl Try.func18 (by kernel_rfl) rfl #[.agg #[.int .i64 a0_0, .slice A0_1 l0_1.length c0_1, .slice A0_2 l0_2.length c0_2]] rfl nc_ ?_; (with_reducible refine (laws_toRegister.calls k a0_0 _ _ l0_1 _ _ l0_2 t247 t248 t251 _ ?side1 ?side2 ?side3 ?side4 A7.out).mono ?_); (case side1 => exact kc_ (Kd.C_below HR0_1.out HB.out)); (case side2 => exact HC0_1.out); (case side3 => exact kc_ (Kd.C_below HR0_2.out HB.out)); (case side4 => exact HC0_2.out); rintro e w19 ⟨v249, v252, rfl, ho0, ho1, hb⟩; refine ⟨_, rfl, ?_⟩; have HO250 := Aside0.mk (Kd.R_lower ho0 bz_); have HO253 := Aside0.mk (Kd.S_lower ho1 bz_); replace BK245 := bb_ BK245 hb; replace HB := Aside0.mk (below_step bl_ hb); clear hb ho0 ho1; obtain ⟨Ao20, co20, eo20⟩ := Kd.R_slice HO250.out; subst eo20; obtain ⟨Ao21, co21, eo21⟩ := Kd.S_slice HO253.out; subst eo21) | ((with_reducible refine gate_callee (f := 17) rfl ?_); refine goesL_ (some 14) rfl rfl Try.func17 (by kernel_rfl) rfl #[.agg #[.int .i64 t247, .slice Ao20 t248.length co20, .slice Ao21 t251.length co21]] rfl nc_ ?_; (with_reducible refine (spec_GoodRegister.calls k t247 _ _ t248 _ _ t251 t254 _ ?side1 ?side2 ?side3 ?side4 A8.out).mono ?_); (case side1 => exact kc_ (Kd.R_reads' HO250.out).2.2); (case side2 => exact (Kd.R_reads' HO250.out).2.1); (case side3 => exact kc_ (Kd.S_reads' HO253.out).2.2); (case side4 => exact (Kd.S_reads' HO253.out).2.1); rintro e w22 ⟨rfl, hb⟩; refine ⟨_, rfl, ?_⟩; replace HO250 := rb_ HO250 hb; replace HO253 := Aside0.mk (Kd.S_below (by (with_reducible repeat (first | apply Kd.S_alloc | apply Kd.S_drewN | apply Kd.S_drew)); exact HO253.out) hb); replace BK245 := bb_ BK245 hb; replace HB := Aside0.mk (below_step bl_ hb); clear hb; have hcz23_0 : w22.cell? ⟨gb245, 0, none⟩ = some (.int .i64 a0_0) := bc_ BK245.out 0; have hcz23_1 : w22.cell? ⟨gb245, 1, none⟩ = some (.slice A0_1 l0_1.length c0_1) := bc_ BK245.out 1; have hcz23_2 : w22.cell? ⟨gb245, 2, none⟩ = some (.slice A0_2 l0_2.length c0_2) := bc_ BK245.out 2; have hfz23_0 := blk_frozen BK245.out 0; have hfz23_1 := blk_frozen BK245.out 1; have hfz23_2 := blk_frozen BK245.out 2) | ((with_reducible refine gate_callee (f := 18) rfl ?_); refine goesL_ (some 16) rfl rfl Try.func18 (by kernel_rfl) rfl #[.agg #[.int .i64 a0_0, .slice A0_1 l0_1.length c0_1, .slice A0_2 l0_2.length c0_2]] rfl nc_ ?_; (with_reducible refine (laws_toRegister.calls k a0_0 _ _ l0_1 _ _ l0_2 t255 t256 t259 _ ?side1 ?side2 ?side3 ?side4 A9.out).mono ?_); (case side1 => exact kc_ (Kd.C_below HR0_1.out HB.out)); (case side2 => exact HC0_1.out); (case side3 => exact kc_ (Kd.C_below HR0_2.out HB.out)); (case side4 => exact HC0_2.out); rintro e w24 ⟨v257, v260, rfl, ho0, ho1, hb⟩; refine ⟨_, rfl, ?_⟩; have HO258 := Aside0.mk (Kd.R_lower (rn_ ho0 HO250.out) bz_); replace HO250 := Aside0.mk (Kd.R_elder' (kr_ HO250.out) (Kd.R_base ho0) hb); have HO261 := Aside0.mk (Kd.S_lower (Kd.S_new' ho1 (Kd.S_lt (by (with_reducible repeat (first | apply Kd.S_alloc | apply Kd.S_drewN | apply Kd.S_drew)); exact HO253.out))) bz_); replace HO253 := Aside0.mk (Kd.S_elder' (by (with_reducible repeat (first | apply Kd.S_alloc | apply Kd.S_drewN | apply Kd.S_drew)); exact HO253.out) (Kd.S_base ho1) hb); replace BK245 := bb_ BK245 hb; replace HB := Aside0.mk (below_step bl_ hb); clear hb ho0 ho1) | ((with_reducible refine gate_dst (N := 5) rfl ?_); refine box_event rfl (N := 5) rfl (cs := #[.int .i64 0, .slice none 0 0, .slice none 0 0]) (t := 25) gs_ ?_; intro gb262 hg w25 hbox hb; replace HO250 := rb_ HO250 hb; replace HO253 := Aside0.mk (Kd.S_below (by (with_reducible repeat (first | apply Kd.S_alloc | apply Kd.S_drewN | apply Kd.S_drew)); exact HO253.out) hb); replace HO258 := rb_ HO258 hb; replace HO261 := Aside0.mk (Kd.S_below (by (with_reducible repeat (first | apply Kd.S_alloc | apply Kd.S_drewN | apply Kd.S_drew)); exact HO261.out) hb); have BK262 := Aside0.mk (hbox); have GW262 := Aside0.mk ((by rw [hg]; exact bz_ : w.heap.size ≤ gb262)); have GE262 := GW262; replace HB := Aside0.mk (below_step bl_ hb); have NB245_262 := nl_ hg BK245; have NB262_245 := nm_ hg BK245; replace BK245 := bb_ BK245 hb; clear hb hbox hg; have hnb26 := NB262_245.out; have hnc26 := NB245_262.out; have hcz27_0 : w25.cell? ⟨gb262, 0, none⟩ = some (.int .i64 0) := bc_ BK262.out 0; have hcz27_1 : w25.cell? ⟨gb262, 1, none⟩ = some (.slice none 0 0) := bc_ BK262.out 1; have hcz27_2 : w25.cell? ⟨gb262, 2, none⟩ = some (.slice none 0 0) := bc_ BK262.out 2; have hfz27_0 := blk_frozen BK262.out 0; have hfz27_1 := blk_frozen BK262.out 1; have hfz27_2 := blk_frozen BK262.out 2; obtain ⟨Ao28, co28, eo28⟩ := Kd.R_slice HO258.out; subst eo28; obtain ⟨Ao29, co29, eo29⟩ := Kd.S_slice HO261.out; subst eo29) | ((with_reducible refine gate_callee (f := 19) rfl ?_); refine goesL_ (some 18) rfl rfl Try.func19 (by kernel_rfl) rfl #[.agg #[.int .i64 t255, .slice Ao28 t256.length co28, .slice Ao29 t259.length co29]] rfl nc_ ?_; (with_reducible refine (impl_GoodRegister.calls k t255 _ _ t256 _ _ t259 t263 _ ?side1 ?side2 ?side3 ?side4 A10.out).mono ?_); (case side1 => refine (Kd.R_reads' (e := 40) (base := w.heap.size) (ok := fun k_ => (True ∧ some k_ ≠ (.slice Ao20 t248.length co20 : Value).ownBlock)) (n := t256.length) (c := co28) ?_).2.2; exact (by exact kr_ ((Kd.R_mono (Kd.R_far (p := ⟨gb262, 2, none⟩) (Kd.R_far (p := ⟨gb262, 1, none⟩) (Kd.R_far (p := ⟨gb262, 0, none⟩) (Kd.R_types HO258.out BK262.out (by decide)) (fun _ hk => hk.2) (.int .i64 t255)) (fun _ hk => hk.2) (.slice Ao28 t256.length co28)) (fun _ hk => hk.2) (.slice Ao29 t259.length co29)) (fun _ h_ => h_.1))))); (case side2 => exact (Kd.R_reads' HO258.out).2.1); (case side3 => refine (Kd.S_reads' (e := 83) (base := w.heap.size) (ok := fun k_ => (True ∧ some k_ ≠ (.slice Ao21 t251.length co21 : Value).ownBlock)) (n := t259.length) (c := co29) ?_).2.2; exact (by (with_reducible repeat (first | apply Kd.S_alloc | apply Kd.S_drewN | apply Kd.S_drew)); exact (Kd.S_mono (Kd.S_far (p := ⟨gb262, 2, none⟩) (Kd.S_far (p := ⟨gb262, 1, none⟩) (Kd.S_far (p := ⟨gb262, 0, none⟩) (Kd.S_types HO261.out BK262.out (by decide)) (fun _ hk => hk.2) (.int .i64 t255)) (fun _ hk => hk.2) (.slice Ao28 t256.length co28)) (fun _ hk => hk.2) (.slice Ao29 t259.length co29)) (fun _ h_ => h_.1)))); (case side4 => exact (Kd.S_reads' HO261.out).2.1); rintro e w30 ⟨rfl, hb⟩; refine ⟨_, rfl, ?_⟩; replace HO250 := Aside0.mk (Kd.R_below (by exact kr_ ((Kd.R_mono (Kd.R_far (p := ⟨gb262, 2, none⟩) (Kd.R_far (p := ⟨gb262, 1, none⟩) (Kd.R_far (p := ⟨gb262, 0, none⟩) (Kd.R_types HO250.out BK262.out (by decide)) (fun _ hk => hk.2) (.int .i64 t255)) (fun _ hk => hk.2) (.slice Ao28 t256.length co28)) (fun _ hk => hk.2) (.slice Ao29 t259.length co29)) (fun _ h_ => h_.1)))) hb); replace HO253 := Aside0.mk (Kd.S_below (by (with_reducible repeat (first | apply Kd.S_alloc | apply Kd.S_drewN | apply Kd.S_drew)); exact (Kd.S_mono (Kd.S_far (p := ⟨gb262, 2, none⟩) (Kd.S_far (p := ⟨gb262, 1, none⟩) (Kd.S_far (p := ⟨gb262, 0, none⟩) (Kd.S_types HO253.out BK262.out (by decide)) (fun _ hk => hk.2) (.int .i64 t255)) (fun _ hk => hk.2) (.slice Ao28 t256.length co28)) (fun _ hk => hk.2) (.slice Ao29 t259.length co29)) (fun _ h_ => h_.1))) hb); replace HO258 := Aside0.mk (Kd.R_below (by exact kr_ ((Kd.R_mono (Kd.R_far (p := ⟨gb262, 2, none⟩) (Kd.R_far (p := ⟨gb262, 1, none⟩) (Kd.R_far (p := ⟨gb262, 0, none⟩) (Kd.R_types HO258.out BK262.out (by decide)) (fun _ hk => hk.2) (.int .i64 t255)) (fun _ hk => hk.2) (.slice Ao28 t256.length co28)) (fun _ hk => hk.2) (.slice Ao29 t259.length co29)) (fun _ h_ => h_.1)))) hb); replace HO261 := Aside0.mk (Kd.S_below (by (with_reducible repeat (first | apply Kd.S_alloc | apply Kd.S_drewN | apply Kd.S_drew)); exact (Kd.S_mono (Kd.S_far (p := ⟨gb262, 2, none⟩) (Kd.S_far (p := ⟨gb262, 1, none⟩) (Kd.S_far (p := ⟨gb262, 0, none⟩) (Kd.S_types HO261.out BK262.out (by decide)) (fun _ hk => hk.2) (.int .i64 t255)) (fun _ hk => hk.2) (.slice Ao28 t256.length co28)) (fun _ hk => hk.2) (.slice Ao29 t259.length co29)) (fun _ h_ => h_.1))) hb); replace BK245 := Aside0.mk (blk_below (g := gb245) (o := .cells #[.int .i64 a0_0, .slice A0_1 l0_1.length c0_1, .slice A0_2 l0_2.length c0_2] 34 (0, 0)) kz_ hb); replace BK262 := Aside0.mk (blk_below (g := gb262) (o := .cells #[.int .i64 t255, .slice Ao28 t256.length co28, .slice Ao29 t259.length co29] 25 (0, 0)) (by (with_reducible repeat (first | refine blk_drewN ?_ _ | refine blk_drew ?_ | refine blk_alloc ?_ _)); refine blk_put (cs := #[.int .i64 t255, .slice Ao28 t256.length co28, .slice none 0 0]) ?_ 2 _ rfl; (with_reducible repeat (first | refine blk_drewN ?_ _ | refine blk_drew ?_ | refine blk_alloc ?_ _)); refine blk_put (cs := #[.int .i64 t255, .slice none 0 0, .slice none 0 0]) ?_ 1 _ rfl; (with_reducible repeat (first | refine blk_drewN ?_ _ | refine blk_drew ?_ | refine blk_alloc ?_ _)); refine blk_put (cs := #[.int .i64 0, .slice none 0 0, .slice none 0 0]) ?_ 0 _ rfl; exact kb_ BK262.out) hb); replace HB := Aside0.mk (below_step bl_ hb); clear hb))
 replace HO250 := Aside0.mk (Kd.R_drew HO250.out)
 replace HO253 := Aside0.mk (Kd.S_drew HO253.out)
 replace HO258 := Aside0.mk (Kd.R_drew HO258.out)
 replace HO261 := Aside0.mk (Kd.S_drew HO261.out)
 replace BK245 := Aside0.mk (blk_drew BK245.out)
 replace BK262 := Aside0.mk (blk_drew BK262.out)
 replace HB := Aside0.mk (below_drew1 HB.out)
 refine start_ (n := 5) (S := fun w' => w'.cell? ⟨gb262, 0, none⟩ = some (.int .i64 t255) ∧ w'.cell? ⟨gb262, 1, none⟩ = some (.slice Ao28 t256.length co28) ∧ w'.cell? ⟨gb262, 2, none⟩ = some (.slice Ao29 t259.length co29) ∧ w'.cell? ⟨gb245, 0, none⟩ = some (.int .i64 a0_0) ∧ w'.cell? ⟨gb245, 1, none⟩ = some (.slice A0_1 l0_1.length c0_1) ∧ w'.cell? ⟨gb245, 2, none⟩ = some (.slice A0_2 l0_2.length c0_2)) (ds := []) #[false, false, false, false, false] (by kernel_rfl) rfl rfl ⟨bc_ BK262.out 0, bc_ BK262.out 1, bc_ BK262.out 2, bc_ BK245.out 0, bc_ BK245.out 1, bc_ BK245.out 2⟩ (fun hHeld => ?_)
 generalize w30.drew = w31 at HO250 HO253 HO258 HO261 BK245 BK262 HB hHeld ⊢
 refine tk6_ 0 (some 22) (h := ?_)
 refine tk6_ 1 (some 23) (h := ?_)
 refine on_ 2 (some 24) (h := fun K hK => ?_)
 refine goes_ Try.func18 (by kernel_rfl) rfl #[.agg #[.int .i64 a0_0, .slice A0_1 l0_1.length c0_1, .slice A0_2 l0_2.length c0_2]] (by rfl) rfl rfl nc_ ?_
 with_reducible refine (laws_toRegister.calls k a0_0 _ _ l0_1 _ _ l0_2 t264 t265 t268 _ ?side1 ?side2 ?side3 ?side4 A12.out).mono ?_
 (case side1 => exact kc_ (Kd.C_below HR0_1.out HB.out))
 (case side2 => exact HC0_1.out)
 (case side3 => exact kc_ (Kd.C_below HR0_2.out HB.out))
 (case side4 => exact HC0_2.out)
 rintro e w32 ⟨v266, v269, rfl, ho0, ho1, hb⟩
 refine ⟨_, rfl, ?_⟩
 have HO267 := Aside0.mk (Kd.R_lower (rn_ (rn_ ho0 HO250.out) HO258.out) bz_)
 replace HO250 := Aside0.mk (Kd.R_elder' (kr_ HO250.out) (Kd.R_base ho0) hb)
 replace HO258 := Aside0.mk (Kd.R_elder' (kr_ HO258.out) (Kd.R_base ho0) hb)
 have HO270 := Aside0.mk (Kd.S_lower (Kd.S_new' (Kd.S_new' ho1 (Kd.S_lt (by (with_reducible repeat (first | apply Kd.S_alloc | apply Kd.S_drewN | apply Kd.S_drew)); exact HO253.out))) (Kd.S_lt (by (with_reducible repeat (first | apply Kd.S_alloc | apply Kd.S_drewN | apply Kd.S_drew)); exact HO261.out))) bz_)
 replace HO253 := Aside0.mk (Kd.S_elder' (by (with_reducible repeat (first | apply Kd.S_alloc | apply Kd.S_drewN | apply Kd.S_drew)); exact HO253.out) (Kd.S_base ho1) hb)
 replace HO261 := Aside0.mk (Kd.S_elder' (by (with_reducible repeat (first | apply Kd.S_alloc | apply Kd.S_drewN | apply Kd.S_drew)); exact HO261.out) (Kd.S_base ho1) hb)
 replace BK245 := bb_ BK245 hb
 replace BK262 := bb_ BK262 hb
 replace HB := Aside0.mk (below_step bl_ hb)
 clear hb ho0 ho1
 obtain ⟨Ao33, co33, eo33⟩ := Kd.R_slice HO267.out
 (first | subst eo33 | (injection eo33 with f1_ f2_ f3_; have f4_ := f1_.symm; have f5_ := f3_.symm; clear f1_ f2_ f3_; subst f4_; subst f5_))
 obtain ⟨Ao34, co34, eo34⟩ := Kd.S_slice HO270.out
 (first | subst eo34 | (injection eo34 with f1_ f2_ f3_; have f4_ := f1_.symm; have f5_ := f3_.symm; clear f1_ f2_ f3_; subst f4_; subst f5_))
 refine hK.out _ _ ⟨bc_ BK262.out 0, bc_ BK262.out 1, bc_ BK262.out 2, bc_ BK245.out 0, bc_ BK245.out 1, bc_ BK245.out 2⟩ (fun hHeld => ?_)
 clear hK K
 refine norm_ nn_ ?_
 refine on_ 3 (some 25) (h := fun K hK => ?_)
 refine goes_ Try.func13 (by kernel_rfl) rfl #[.agg #[.int .i64 t255, .slice Ao28 t256.length co28, .slice Ao29 t259.length co29], .agg #[.int .i64 t264, .slice Ao33 t265.length co33, .slice Ao34 t268.length co34]] (by rfl) rfl rfl nc_ ?_
 with_reducible refine (laws_eqRegister.calls k t255 _ _ t256 _ _ t259 t264 _ _ t265 _ _ t268 true _ ?side1 ?side2 ?side3 ?side4 ?side5 ?side6 ?side7 ?side8 A13.out).mono ?_
 (case side1 => exact kc_ (Kd.R_reads' HO258.out).2.2)
 (case side2 => exact (Kd.R_reads' HO258.out).2.1)
 (case side3 => exact kc_ (Kd.S_reads' HO261.out).2.2)
 (case side4 => exact (Kd.S_reads' HO261.out).2.1)
 (case side5 => exact kc_ (Kd.R_reads' HO267.out).2.2)
 (case side6 => exact (Kd.R_reads' HO267.out).2.1)
 (case side7 => exact kc_ (Kd.S_reads' HO270.out).2.2)
 (case side8 => exact (Kd.S_reads' HO270.out).2.1)
 rintro e w35 ⟨rfl, hb⟩
 refine ⟨_, rfl, ?_⟩
 replace HO250 := rb_ HO250 hb
 replace HO253 := Aside0.mk (Kd.S_below (by (with_reducible repeat (first | apply Kd.S_alloc | apply Kd.S_drewN | apply Kd.S_drew)); exact HO253.out) hb)
 replace HO258 := rb_ HO258 hb
 replace HO261 := Aside0.mk (Kd.S_below (by (with_reducible repeat (first | apply Kd.S_alloc | apply Kd.S_drewN | apply Kd.S_drew)); exact HO261.out) hb)
 replace HO267 := rb_ HO267 hb
 replace HO270 := Aside0.mk (Kd.S_below (by (with_reducible repeat (first | apply Kd.S_alloc | apply Kd.S_drewN | apply Kd.S_drew)); exact HO270.out) hb)
 replace BK245 := bb_ BK245 hb
 replace BK262 := bb_ BK262 hb
 replace HB := Aside0.mk (below_step bl_ hb)
 clear hb
 refine hK.out _ _ ⟨bc_ BK262.out 0, bc_ BK262.out 1, bc_ BK262.out 2, bc_ BK245.out 0, bc_ BK245.out 1, bc_ BK245.out 2⟩ (fun hHeld => ?_)
 clear hK K
 refine norm_ nn_ ?_
 refine pu_ 4 (some 26) (h := ?_)
 refine done_ (by kernel_rfl) ?_
 try go_wp2
 go_ret
 exact ⟨ng_, bl_⟩

/-! ### spec_l9Newer: function 60 -/
def spec_l9Newer.f (a0_0 : Int) (a0_1 : Int) (a0_2 : ByteArray) (a1_0 : Int) (a1_1 : Int) (a1_2 : ByteArray) : Option (Bool) := if a0_0 > a1_0 then (some true) else (if a0_0 = a1_0 then (some (decide (a0_1 > a1_1))) else (some false))
set_option maxHeartbeats 8000000 in
set_option maxRecDepth 100000 in
theorem spec_l9Newer.calls (a0_0 : Int) (a0_1 : Int) (a0_2 : ByteArray) (a1_0 : Int) (a1_1 : Int) (a1_2 : ByteArray) (r : Bool) (w : World) (h : spec_l9Newer.f a0_0 a0_1 a0_2 a1_0 a1_1 a1_2 = some r) :
  Calls Try.prog 60 #[.agg #[.int .i64 a0_0, .int .i64 a0_1, .string a0_2], .agg #[.int .i64 a1_0, .int .i64 a1_1, .string a1_2]] w fun e w' => e = .returned (.bool r) ∧ Below w.heap.size w w' := by
 have hu40 := Try.underlying40
 have HB := Aside0.mk (Below.refl w.heap.size w)
 have H : (if a0_0 > a1_0 then (some true) else (if a0_0 = a1_0 then (some (decide (a0_1 > a1_1))) else (some false))) = some r := h
 clear h
 by_cases c3 : a0_0 > a1_0
 ·rw [if_pos c3] at H
  have c3b0 : decide (a1_0 < a0_0) = true := decide_eq_true c3
  clear c3
  obtain rfl := Option.some.inj H
  go_enter Try.func60, Try.ntmps60
  go_wp2_with (first | ((with_reducible refine gate_dst (N := 2) rfl ?_); refine box_event rfl (N := 2) rfl (cs := #[.int .i64 a0_0, .int .i64 a0_1, .string a0_2]) (t := 40) gs_ ?_; intro gb272 hg w4 hbox hb; have BK272 := Aside0.mk (hbox); have GW272 := Aside0.mk ((by rw [hg]; exact bz_ : w.heap.size ≤ gb272)); have GE272 := GW272; replace HB := Aside0.mk (below_step bl_ hb); clear hb hbox hg) | ((with_reducible refine gate_dst (N := 3) rfl ?_); refine box_event rfl (N := 3) rfl (cs := #[.int .i64 a1_0, .int .i64 a1_1, .string a1_2]) (t := 40) gs_ ?_; intro gb273 hg w5 hbox hb; have BK273 := Aside0.mk (hbox); have GW273 := Aside0.mk ((by rw [hg]; exact bz_ : w.heap.size ≤ gb273)); have GE273 := GW273; replace HB := Aside0.mk (below_step bl_ hb); have NB272_273 := nl_ hg BK272; have NB273_272 := nm_ hg BK272; replace BK272 := bb_ BK272 hb; clear hb hbox hg; have hnb6 := NB272_273.out; have hnc6 := NB273_272.out; have hcz7_0 : w5.cell? ⟨gb272, 0, none⟩ = some (.int .i64 a0_0) := bc_ BK272.out 0; have hcz7_1 : w5.cell? ⟨gb272, 1, none⟩ = some (.int .i64 a0_1) := bc_ BK272.out 1; have hcz7_2 : w5.cell? ⟨gb272, 2, none⟩ = some (.string a0_2) := bc_ BK272.out 2; have hfz7_0 := blk_frozen BK272.out 0; have hfz7_1 := blk_frozen BK272.out 1; have hfz7_2 := blk_frozen BK272.out 2; have hcz8_0 : w5.cell? ⟨gb273, 0, none⟩ = some (.int .i64 a1_0) := bc_ BK273.out 0; have hcz8_1 : w5.cell? ⟨gb273, 1, none⟩ = some (.int .i64 a1_1) := bc_ BK273.out 1; have hcz8_2 : w5.cell? ⟨gb273, 2, none⟩ = some (.string a1_2) := bc_ BK273.out 2; have hfz8_0 := blk_frozen BK273.out 0; have hfz8_1 := blk_frozen BK273.out 1; have hfz8_2 := blk_frozen BK273.out 2))
  go_ret
  exact ⟨ng_, bl_⟩
 rw [if_neg c3] at H
 have c3b0 : decide (a1_0 < a0_0) = false := decide_eq_false c3
 clear c3
 by_cases c9 : a0_0 = a1_0
 rotate_left
 ·rw [if_neg c9] at H
  have c9b0 : (a0_0 == a1_0) = false := beq_eq_false_iff_ne.mpr c9
  have c9b1 : (a0_0 != a1_0) = true := bne_iff_ne.mpr c9
  obtain rfl := Option.some.inj H
  go_enter Try.func60, Try.ntmps60
  go_wp2_with (first | ((with_reducible refine gate_dst (N := 2) rfl ?_); refine box_event rfl (N := 2) rfl (cs := #[.int .i64 a0_0, .int .i64 a0_1, .string a0_2]) (t := 40) gs_ ?_; intro gb272 hg w15 hbox hb; have BK272 := Aside0.mk (hbox); have GW272 := Aside0.mk ((by rw [hg]; exact bz_ : w.heap.size ≤ gb272)); have GE272 := GW272; replace HB := Aside0.mk (below_step bl_ hb); clear hb hbox hg) | ((with_reducible refine gate_dst (N := 3) rfl ?_); refine box_event rfl (N := 3) rfl (cs := #[.int .i64 a1_0, .int .i64 a1_1, .string a1_2]) (t := 40) gs_ ?_; intro gb273 hg w16 hbox hb; have BK273 := Aside0.mk (hbox); have GW273 := Aside0.mk ((by rw [hg]; exact bz_ : w.heap.size ≤ gb273)); have GE273 := GW273; replace HB := Aside0.mk (below_step bl_ hb); have NB272_273 := nl_ hg BK272; have NB273_272 := nm_ hg BK272; replace BK272 := bb_ BK272 hb; clear hb hbox hg; have hnb17 := NB272_273.out; have hnc17 := NB273_272.out; have hcz18_0 : w16.cell? ⟨gb272, 0, none⟩ = some (.int .i64 a0_0) := bc_ BK272.out 0; have hcz18_1 : w16.cell? ⟨gb272, 1, none⟩ = some (.int .i64 a0_1) := bc_ BK272.out 1; have hcz18_2 : w16.cell? ⟨gb272, 2, none⟩ = some (.string a0_2) := bc_ BK272.out 2; have hfz18_0 := blk_frozen BK272.out 0; have hfz18_1 := blk_frozen BK272.out 1; have hfz18_2 := blk_frozen BK272.out 2; have hcz19_0 : w16.cell? ⟨gb273, 0, none⟩ = some (.int .i64 a1_0) := bc_ BK273.out 0; have hcz19_1 : w16.cell? ⟨gb273, 1, none⟩ = some (.int .i64 a1_1) := bc_ BK273.out 1; have hcz19_2 : w16.cell? ⟨gb273, 2, none⟩ = some (.string a1_2) := bc_ BK273.out 2; have hfz19_0 := blk_frozen BK273.out 0; have hfz19_1 := blk_frozen BK273.out 1; have hfz19_2 := blk_frozen BK273.out 2))
  go_ret
  exact ⟨ng_, bl_⟩
 rw [if_pos c9] at H
 have c9b0 : (a0_0 == a1_0) = true := beq_iff_eq.mpr c9
 have c9b1 : (a0_0 != a1_0) = false := bne_eq_false_iff_eq.mpr c9
 clear c9
 obtain rfl := Option.some.inj H
 go_enter Try.func60, Try.ntmps60
 go_wp2_with (first | ((with_reducible refine gate_dst (N := 2) rfl ?_); refine box_event rfl (N := 2) rfl (cs := #[.int .i64 a0_0, .int .i64 a0_1, .string a0_2]) (t := 40) gs_ ?_; intro gb272 hg w10 hbox hb; have BK272 := Aside0.mk (hbox); have GW272 := Aside0.mk ((by rw [hg]; exact bz_ : w.heap.size ≤ gb272)); have GE272 := GW272; replace HB := Aside0.mk (below_step bl_ hb); clear hb hbox hg) | ((with_reducible refine gate_dst (N := 3) rfl ?_); refine box_event rfl (N := 3) rfl (cs := #[.int .i64 a1_0, .int .i64 a1_1, .string a1_2]) (t := 40) gs_ ?_; intro gb273 hg w11 hbox hb; have BK273 := Aside0.mk (hbox); have GW273 := Aside0.mk ((by rw [hg]; exact bz_ : w.heap.size ≤ gb273)); have GE273 := GW273; replace HB := Aside0.mk (below_step bl_ hb); have NB272_273 := nl_ hg BK272; have NB273_272 := nm_ hg BK272; replace BK272 := bb_ BK272 hb; clear hb hbox hg; have hnb12 := NB272_273.out; have hnc12 := NB273_272.out; have hcz13_0 : w11.cell? ⟨gb272, 0, none⟩ = some (.int .i64 a0_0) := bc_ BK272.out 0; have hcz13_1 : w11.cell? ⟨gb272, 1, none⟩ = some (.int .i64 a0_1) := bc_ BK272.out 1; have hcz13_2 : w11.cell? ⟨gb272, 2, none⟩ = some (.string a0_2) := bc_ BK272.out 2; have hfz13_0 := blk_frozen BK272.out 0; have hfz13_1 := blk_frozen BK272.out 1; have hfz13_2 := blk_frozen BK272.out 2; have hcz14_0 : w11.cell? ⟨gb273, 0, none⟩ = some (.int .i64 a1_0) := bc_ BK273.out 0; have hcz14_1 : w11.cell? ⟨gb273, 1, none⟩ = some (.int .i64 a1_1) := bc_ BK273.out 1; have hcz14_2 : w11.cell? ⟨gb273, 2, none⟩ = some (.string a1_2) := bc_ BK273.out 2; have hfz14_0 := blk_frozen BK273.out 0; have hfz14_1 := blk_frozen BK273.out 1; have hfz14_2 := blk_frozen BK273.out 2))
 go_ret
 exact ⟨ng_, bl_⟩

/-! ### spec_NewestOf: function 20 -/
def spec_NewestOf.l0 : Nat → List (S40) → Int → Int → Int → Int → ByteArray → Option (Int × Int × ByteArray × Bool)
 | 0, _, _, _, _, _, _ => none
 | k + 1, x16, x17, x18, x279000, x279001, x279002 => if x18 < x17 then (if 0 ≤ x18 then (if x18 < (x16.length : Int) then ((spec_l9Newer.f ((rd_T40 x16 x18).f0) ((rd_T40 x16 x18).f1) ((rd_T40 x16 x18).f2) x279000 x279001 x279002).bind fun t281 => (if t281 = true then (spec_NewestOf.l0 k x16 x17 (wrap64 (x18 + 1)) ((rd_T40 x16 x18).f0) ((rd_T40 x16 x18).f1) ((rd_T40 x16 x18).f2)) else (spec_NewestOf.l0 k x16 x17 (wrap64 (x18 + 1)) x279000 x279001 x279002))) else (none)) else (none)) else (some (x279000, x279001, x279002, true))
def spec_NewestOf.f (k : Nat) (a0_0 : Int) (l0_1 : List (S40)) (l0_2 : List (S83)) : Option (Int × Int × ByteArray × Bool) := (spec_GoodRegister.f k a0_0 l0_1 l0_2).bind fun t276 => (if t276 = true then (if 0 < (l0_1.length : Int) then (spec_NewestOf.l0 k l0_1 (l0_1.length : Int) 0 ((rd_T40 l0_1 0).f0) ((rd_T40 l0_1 0).f1) ((rd_T40 l0_1 0).f2)) else (none)) else (some (0, 0, (⟨#[]⟩ : ByteArray), false)))
theorem spec_NewestOf.mono_l : ∀ k, (∀ y0 y1 y2 y3 y4 y5, LeO (spec_NewestOf.l0 k y0 y1 y2 y3 y4 y5) (spec_NewestOf.l0 (k + 1) y0 y1 y2 y3 y4 y5))
 | 0 => fun _ _ _ _ _ _ r h => by simp [spec_NewestOf.l0] at h
 | k + 1 => by
  have ih0 := spec_NewestOf.mono_l k
  ·intro y0 y1 y2 y3 y4 y5
   unfold spec_NewestOf.l0
   repeat' first
   | (with_reducible exact ih0 _ _ _ _ _ _)
   | (with_reducible exact spec_GoodRegister.mono _ _ _ _)
   | (with_reducible exact LeO.refl _)
   | (with_reducible exact LeO.none _)
   | (with_reducible refine LeO.ite ?_ ?_)
   | (with_reducible refine LeO.bind ?_ (fun _ => ?_))
   | exact ih0 _ _ _ _ _ _
   | exact spec_GoodRegister.mono _ _ _ _
   | exact LeO.none _
   | refine LeO.ite ?_ ?_
   | refine LeO.bind ?_ (fun _ => ?_)
theorem spec_NewestOf.mono : ∀ a0 a1 a2 k, LeO (spec_NewestOf.f k a0 a1 a2) (spec_NewestOf.f (k + 1) a0 a1 a2) := by
 intro a0 a1 a2 k
 have ih0 := spec_NewestOf.mono_l k
 unfold spec_NewestOf.f
 repeat' first
   | (with_reducible exact ih0 _ _ _ _ _ _)
   | (with_reducible exact spec_GoodRegister.mono _ _ _ _)
   | (with_reducible exact LeO.refl _)
   | (with_reducible exact LeO.none _)
   | (with_reducible refine LeO.ite ?_ ?_)
   | (with_reducible refine LeO.bind ?_ (fun _ => ?_))
   | exact ih0 _ _ _ _ _ _
   | exact spec_GoodRegister.mono _ _ _ _
   | exact LeO.none _
   | refine LeO.ite ?_ ?_
   | refine LeO.bind ?_ (fun _ => ?_)
set_option maxHeartbeats 8000000 in
set_option maxRecDepth 100000 in
theorem spec_NewestOf.calls (k : Nat) (a0_0 : Int) (A0_1 : Option Addr) (c0_1 : Nat) (l0_1 : List (S40)) (A0_2 : Option Addr) (c0_2 : Nat) (l0_2 : List (S83)) (r1 : Int) (r2 : Int) (r3 : ByteArray) (r4 : Bool) (w : World) (hr0_1 : Kd.C k40 w A0_1 l0_1.length l0_1) (hc0_1 : l0_1.length ≤ c0_1) (hr0_2 : Kd.C k83 w A0_2 l0_2.length l0_2) (hc0_2 : l0_2.length ≤ c0_2) (h : spec_NewestOf.f k a0_0 l0_1 l0_2 = some (r1, r2, r3, r4)) :
  Calls Try.prog 20 #[.agg #[.int .i64 a0_0, .slice A0_1 l0_1.length c0_1, .slice A0_2 l0_2.length c0_2]] w fun e w' => e = .returned (.tuple #[.agg #[.int .i64 r1, .int .i64 r2, .string r3], .bool r4]) ∧ Below w.heap.size w w' := by
 have hu25 := Try.underlying25
 have hu40 := Try.underlying40
 have HR0_1 := Aside0.mk hr0_1
 have HC0_1 := Aside0.mk hc0_1
 clear hr0_1 hc0_1
 have HR0_2 := Aside0.mk hr0_2
 have HC0_2 := Aside0.mk hc0_2
 clear hr0_2 hc0_2
 have HB := Aside0.mk (Below.refl w.heap.size w)
 have H : ((spec_GoodRegister.f k a0_0 l0_1 l0_2).bind fun t276 => (if t276 = true then (if 0 < (l0_1.length : Int) then (spec_NewestOf.l0 k l0_1 (l0_1.length : Int) 0 ((rd_T40 l0_1 0).f0) ((rd_T40 l0_1 0).f1) ((rd_T40 l0_1 0).f2)) else (none)) else (some (0, 0, (⟨#[]⟩ : ByteArray), false)))) = some (r1, r2, r3, r4) := h
 clear h
 replace H := Option.bind_eq_some_iff.mp H
 obtain ⟨t276, A20, H⟩ := H
 replace H : (if t276 = true then (if 0 < (l0_1.length : Int) then (spec_NewestOf.l0 k l0_1 (l0_1.length : Int) 0 ((rd_T40 l0_1 0).f0) ((rd_T40 l0_1 0).f1) ((rd_T40 l0_1 0).f2)) else (none)) else (some (0, 0, (⟨#[]⟩ : ByteArray), false))) = some (r1, r2, r3, r4) := H
 have A2 := Aside0.mk A20
 clear A20
 by_cases c3 : t276 = true
 rotate_left
 ·replace c3 := Bool.eq_false_iff.mpr c3
  subst c3
  have H1 : (some (0, 0, (⟨#[]⟩ : ByteArray), false)) = some (r1, r2, r3, r4) := by rw [if_neg (show ¬ (false = true) by decide)] at H; exact H
  clear H
  have H := H1
  clear H1
  simp only [Option.some.injEq, Prod.mk.injEq] at H
  obtain ⟨rfl, rfl, rfl, rfl⟩ := H
  go_enter Try.func20, Try.ntmps20
  go_wp2_with (first | ((with_reducible refine gate_dst (N := 1) rfl ?_); refine box_event rfl (N := 1) rfl (cs := #[.int .i64 a0_0, .slice A0_1 l0_1.length c0_1, .slice A0_2 l0_2.length c0_2]) (t := 25) gs_ ?_; intro gb274 hg w46 hbox hb; have BK274 := Aside0.mk (hbox); have GW274 := Aside0.mk ((by rw [hg]; exact bz_ : w.heap.size ≤ gb274)); have GE274 := GW274; replace HB := Aside0.mk (below_step bl_ hb); clear hb hbox hg) | ((with_reducible refine gate_dst (N := 2) rfl ?_); refine box_event rfl (N := 2) rfl (cs := #[.int .i64 0, .int .i64 0, .string (⟨#[]⟩ : ByteArray)]) (t := 40) gs_ ?_; intro gb275 hg w47 hbox hb; have BK275 := Aside0.mk (hbox); have GW275 := Aside0.mk ((by rw [hg]; exact bz_ : w.heap.size ≤ gb275)); have GE275 := GW275; replace HB := Aside0.mk (below_step bl_ hb); have NB274_275 := nl_ hg BK274; have NB275_274 := nm_ hg BK274; replace BK274 := bb_ BK274 hb; clear hb hbox hg; have hnb48 := NB274_275.out; have hnc48 := NB275_274.out; have hcz49_0 : w47.cell? ⟨gb274, 0, none⟩ = some (.int .i64 a0_0) := bc_ BK274.out 0; have hcz49_1 : w47.cell? ⟨gb274, 1, none⟩ = some (.slice A0_1 l0_1.length c0_1) := bc_ BK274.out 1; have hcz49_2 : w47.cell? ⟨gb274, 2, none⟩ = some (.slice A0_2 l0_2.length c0_2) := bc_ BK274.out 2; have hfz49_0 := blk_frozen BK274.out 0; have hfz49_1 := blk_frozen BK274.out 1; have hfz49_2 := blk_frozen BK274.out 2) | ((with_reducible refine gate_callee (f := 17) rfl ?_); refine goesL_ (some 8) rfl rfl Try.func17 (by kernel_rfl) rfl #[.agg #[.int .i64 a0_0, .slice A0_1 l0_1.length c0_1, .slice A0_2 l0_2.length c0_2]] rfl nc_ ?_; (with_reducible refine (spec_GoodRegister.calls k a0_0 _ _ l0_1 _ _ l0_2 false _ ?side1 ?side2 ?side3 ?side4 A2.out).mono ?_); (case side1 => exact kc_ (Kd.C_below HR0_1.out HB.out)); (case side2 => exact HC0_1.out); (case side3 => exact kc_ (Kd.C_below HR0_2.out HB.out)); (case side4 => exact HC0_2.out); rintro e w50 ⟨rfl, hb⟩; refine ⟨_, rfl, ?_⟩; replace BK274 := bb_ BK274 hb; replace BK275 := bb_ BK275 hb; replace HB := Aside0.mk (below_step bl_ hb); clear hb; have hcz51_0 : w50.cell? ⟨gb275, 0, none⟩ = some (.int .i64 0) := bc_ BK275.out 0; have hcz51_1 : w50.cell? ⟨gb275, 1, none⟩ = some (.int .i64 0) := bc_ BK275.out 1; have hcz51_2 : w50.cell? ⟨gb275, 2, none⟩ = some (.string (⟨#[]⟩ : ByteArray)) := bc_ BK275.out 2; have hfz51_0 := blk_frozen BK275.out 0; have hfz51_1 := blk_frozen BK275.out 1; have hfz51_2 := blk_frozen BK275.out 2))
  refine bodyPost_ret (results_ct rfl _ _ gb275 40 #[.int .i64 0, .int .i64 0, .string (⟨#[]⟩ : ByteArray)] (0, 0) _ rfl (by (with_reducible repeat (first | refine blk_drewN ?_ _ | refine blk_drew ?_ | refine blk_alloc ?_ _)); refine blk_put (cs := #[.int .i64 0, .int .i64 0, .string (⟨#[]⟩ : ByteArray)]) ?_ 2 _ rfl; (with_reducible repeat (first | refine blk_drewN ?_ _ | refine blk_drew ?_ | refine blk_alloc ?_ _)); refine blk_put (cs := #[.int .i64 0, .int .i64 0, .string (⟨#[]⟩ : ByteArray)]) ?_ 1 _ rfl; (with_reducible repeat (first | refine blk_drewN ?_ _ | refine blk_drew ?_ | refine blk_alloc ?_ _)); refine blk_put (cs := #[.int .i64 0, .int .i64 0, .string (⟨#[]⟩ : ByteArray)]) ?_ 0 _ rfl; exact kb_ BK275.out) Try.underlying40 rfl (by kernel_rfl)) rfl ?_
  exact ⟨ng_, bl_⟩
 subst c3
 have H1 : (if 0 < (l0_1.length : Int) then (spec_NewestOf.l0 k l0_1 (l0_1.length : Int) 0 ((rd_T40 l0_1 0).f0) ((rd_T40 l0_1 0).f1) ((rd_T40 l0_1 0).f2)) else (none)) = some (r1, r2, r3, r4) := by rw [if_pos rfl] at H; exact H
 clear H
 have H := H1
 clear H1
 by_cases c4 : 0 < (l0_1.length : Int)
 rotate_left
 ·rw [if_neg c4] at H
  exact absurd H (by simp)
 rw [if_pos c4] at H
 have c4b0 : decide (0 < (l0_1.length : Int)) = true := decide_eq_true c4
 have c4b1 : decide (0 < l0_1.length) = true := decide_eq_true (by omega)
 clear c4
 have H' := Aside0.mk H
 clear H
 go_enter Try.func20, Try.ntmps20
 go_wp2_with (first | ((with_reducible refine gate_dst (N := 1) rfl ?_); refine box_event rfl (N := 1) rfl (cs := #[.int .i64 a0_0, .slice A0_1 l0_1.length c0_1, .slice A0_2 l0_2.length c0_2]) (t := 25) gs_ ?_; intro gb274 hg w5 hbox hb; have BK274 := Aside0.mk (hbox); have GW274 := Aside0.mk ((by rw [hg]; exact bz_ : w.heap.size ≤ gb274)); have GE274 := GW274; replace HB := Aside0.mk (below_step bl_ hb); clear hb hbox hg) | ((with_reducible refine gate_dst (N := 2) rfl ?_); refine box_event rfl (N := 2) rfl (cs := #[.int .i64 0, .int .i64 0, .string (⟨#[]⟩ : ByteArray)]) (t := 40) gs_ ?_; intro gb275 hg w6 hbox hb; have BK275 := Aside0.mk (hbox); have GW275 := Aside0.mk ((by rw [hg]; exact bz_ : w.heap.size ≤ gb275)); have GE275 := GW275; replace HB := Aside0.mk (below_step bl_ hb); have NB274_275 := nl_ hg BK274; have NB275_274 := nm_ hg BK274; replace BK274 := bb_ BK274 hb; clear hb hbox hg; have hnb7 := NB274_275.out; have hnc7 := NB275_274.out; have hcz8_0 : w6.cell? ⟨gb274, 0, none⟩ = some (.int .i64 a0_0) := bc_ BK274.out 0; have hcz8_1 : w6.cell? ⟨gb274, 1, none⟩ = some (.slice A0_1 l0_1.length c0_1) := bc_ BK274.out 1; have hcz8_2 : w6.cell? ⟨gb274, 2, none⟩ = some (.slice A0_2 l0_2.length c0_2) := bc_ BK274.out 2; have hfz8_0 := blk_frozen BK274.out 0; have hfz8_1 := blk_frozen BK274.out 1; have hfz8_2 := blk_frozen BK274.out 2) | ((with_reducible refine gate_callee (f := 17) rfl ?_); refine goesL_ (some 8) rfl rfl Try.func17 (by kernel_rfl) rfl #[.agg #[.int .i64 a0_0, .slice A0_1 l0_1.length c0_1, .slice A0_2 l0_2.length c0_2]] rfl nc_ ?_; (with_reducible refine (spec_GoodRegister.calls k a0_0 _ _ l0_1 _ _ l0_2 true _ ?side1 ?side2 ?side3 ?side4 A2.out).mono ?_); (case side1 => exact kc_ (Kd.C_below HR0_1.out HB.out)); (case side2 => exact HC0_1.out); (case side3 => exact kc_ (Kd.C_below HR0_2.out HB.out)); (case side4 => exact HC0_2.out); rintro e w9 ⟨rfl, hb⟩; refine ⟨_, rfl, ?_⟩; replace BK274 := bb_ BK274 hb; replace BK275 := bb_ BK275 hb; replace HB := Aside0.mk (below_step bl_ hb); clear hb; have hcz10_0 : w9.cell? ⟨gb274, 0, none⟩ = some (.int .i64 a0_0) := bc_ BK274.out 0; have hcz10_1 : w9.cell? ⟨gb274, 1, none⟩ = some (.slice A0_1 l0_1.length c0_1) := bc_ BK274.out 1; have hcz10_2 : w9.cell? ⟨gb274, 2, none⟩ = some (.slice A0_2 l0_2.length c0_2) := bc_ BK274.out 2; have hfz10_0 := blk_frozen BK274.out 0; have hfz10_1 := blk_frozen BK274.out 1; have hfz10_2 := blk_frozen BK274.out 2; have p277 : 0 ≤ (0 : Int) := (by omega); have q277 : 0 < (l0_1.length : Int) := of_decide_eq_true (by first | (with_reducible assumption) | assumption); obtain ⟨ad277, e277, hx277_0, hx277_1, hx277_2⟩ := at_T40 HR0_1.out 0 p277 q277; cases e277; have qi277 : (0 < l0_1.length) = True := eq_true (by omega); (try rw [show ((0 : Int)).toNat = 0 from rfl] at hx277_0); (try rw [show 0 * 3 = 0 from rfl] at hx277_0); (try rw [Addr.add_zero'] at hx277_0); (try rw [show ((0 : Int)).toNat = 0 from rfl] at hx277_1); (try rw [show 0 * 3 = 0 from rfl] at hx277_1); (try rw [Addr.add_zero'] at hx277_1); (try rw [show ((0 : Int)).toNat = 0 from rfl] at hx277_2); (try rw [show 0 * 3 = 0 from rfl] at hx277_2); (try rw [Addr.add_zero'] at hx277_2); replace hx277_0 := (HB.out.cell (World.block_lt_of_cell? w _ hx277_0)).trans hx277_0; replace hx277_1 := (HB.out.cell (World.block_lt_of_cell? w _ hx277_1)).trans hx277_1; replace hx277_2 := (HB.out.cell (World.block_lt_of_cell? w _ hx277_2)).trans hx277_2; replace p277 := eq_true p277; replace q277 := eq_true q277) | ((with_reducible refine gate_dst (N := 4) rfl ?_); refine box_event rfl (N := 4) rfl (cs := #[.int .i64 0, .int .i64 0, .string (⟨#[]⟩ : ByteArray)]) (t := 40) gs_ ?_; intro gb278 hg w11 hbox hb; have BK278 := Aside0.mk (hbox); have GW278 := Aside0.mk ((by rw [hg]; exact bz_ : w.heap.size ≤ gb278)); have GE278 := GW278; replace HB := Aside0.mk (below_step bl_ hb); have NB274_278 := nl_ hg BK274; have NB278_274 := nm_ hg BK274; replace BK274 := bb_ BK274 hb; have NB275_278 := nl_ hg BK275; have NB278_275 := nm_ hg BK275; replace BK275 := bb_ BK275 hb; clear hb hbox hg; have hnb12 := NB278_274.out; have hnc12 := NB274_278.out; have hnb13 := NB278_275.out; have hnc13 := NB275_278.out; have hcz14_0 : w11.cell? ⟨gb278, 0, none⟩ = some (.int .i64 0) := bc_ BK278.out 0; have hcz14_1 : w11.cell? ⟨gb278, 1, none⟩ = some (.int .i64 0) := bc_ BK278.out 1; have hcz14_2 : w11.cell? ⟨gb278, 2, none⟩ = some (.string (⟨#[]⟩ : ByteArray)) := bc_ BK278.out 2; have hfz14_0 := blk_frozen BK278.out 0; have hfz14_1 := blk_frozen BK278.out 1; have hfz14_2 := blk_frozen BK278.out 2; have hcz15_0 : w11.cell? ⟨gb274, 0, none⟩ = some (.int .i64 a0_0) := bc_ BK274.out 0; have hcz15_1 : w11.cell? ⟨gb274, 1, none⟩ = some (.slice (some ad277) l0_1.length c0_1) := bc_ BK274.out 1; have hcz15_2 : w11.cell? ⟨gb274, 2, none⟩ = some (.slice A0_2 l0_2.length c0_2) := bc_ BK274.out 2; have hfz15_0 := blk_frozen BK274.out 0; have hfz15_1 := blk_frozen BK274.out 1; have hfz15_2 := blk_frozen BK274.out 2))
 go_loopg [18] k (fun kq v18 w' => ∃ (x18_1 : Int) (x279000_1 : Int) (x279001_1 : Int) (x279002_1 : ByteArray), v18 = .int .i64 x18_1 ∧ Aside0 (spec_NewestOf.l0 kq l0_1 (l0_1.length : Int) x18_1 x279000_1 x279001_1 x279002_1 = some (r1, r2, r3, r4)) ∧ Aside0 (kq ≤ k) ∧ Aside0 (w'.heap[gb274]? = some (.cells #[.int .i64 a0_0, (.slice (some ad277) l0_1.length c0_1), (.slice A0_2 l0_2.length c0_2)] 25 (0, 0))) ∧ Aside0 (w'.heap[gb275]? = some (.cells #[.int .i64 0, .int .i64 0, .string (⟨#[]⟩ : ByteArray)] 40 (0, 0))) ∧ Aside0 (w'.heap[gb278]? = some (.cells #[.int .i64 x279000_1, .int .i64 x279001_1, .string x279002_1] 40 (0, 0))) ∧ Aside0 (Below w.heap.size w w'))
 case atStart => exact ⟨(0), ((rd_T40 l0_1 0).f0), ((rd_T40 l0_1 0).f1), ((rd_T40 l0_1 0).f2), (by first | rfl | (simp; done) | (simp [*]; done)), H', ⟨Nat.le_refl _⟩, ⟨kz_⟩, ⟨kz_⟩, ⟨by (with_reducible repeat (first | refine blk_drewN ?_ _ | refine blk_drew ?_ | refine blk_alloc ?_ _)); refine blk_put (cs := #[.int .i64 ((rd_T40 l0_1 0).f0), .int .i64 ((rd_T40 l0_1 0).f1), .string (⟨#[]⟩ : ByteArray)]) ?_ 2 _ rfl; (with_reducible repeat (first | refine blk_drewN ?_ _ | refine blk_drew ?_ | refine blk_alloc ?_ _)); refine blk_put (cs := #[.int .i64 ((rd_T40 l0_1 0).f0), .int .i64 0, .string (⟨#[]⟩ : ByteArray)]) ?_ 1 _ rfl; (with_reducible repeat (first | refine blk_drewN ?_ _ | refine blk_drew ?_ | refine blk_alloc ?_ _)); refine blk_put (cs := #[.int .i64 0, .int .i64 0, .string (⟨#[]⟩ : ByteArray)]) ?_ 0 _ rfl; exact kb_ BK278.out⟩, ⟨bl_⟩⟩
 clear H'
 try clear c1
 try clear c2
 try clear p2
 try clear q2
 try clear hx2
 try clear qi2
 try clear c3
 try clear c4
 try clear c4b0
 try clear c4b1
 try clear c7
 try clear c12
 try clear c13
 try clear hcz10_0
 try clear hcz10_1
 try clear hcz10_2
 try clear hcz14_0
 try clear hcz14_1
 try clear hcz14_2
 try clear hcz15_0
 try clear hcz15_1
 try clear hcz15_2
 try clear hcz8_0
 try clear hcz8_1
 try clear hcz8_2
 try clear hfz10_0
 try clear hfz10_1
 try clear hfz10_2
 try clear hfz14_0
 try clear hfz14_1
 try clear hfz14_2
 try clear hfz15_0
 try clear hfz15_1
 try clear hfz15_2
 try clear hfz8_0
 try clear hfz8_1
 try clear hfz8_2
 try clear hx277_0
 try clear hx277_1
 try clear hx277_2
 try clear p277
 try clear q277
 obtain ⟨x18_1, x279000_1, x279001_1, x279002_1, rfl, HA, HK1, BK274, BK275, BK278, HB⟩ := hrel
 cases gk with
 | zero => exact absurd HA.out (by simp [spec_NewestOf.l0])
 | succ k1 => ?_
 have H := HA.out
 clear HA
 simp only [spec_NewestOf.l0] at H
 by_cases c16 : x18_1 < (l0_1.length : Int)
 rotate_left
 ·rw [if_neg c16] at H
  have c16b0 : decide (x18_1 < (l0_1.length : Int)) = false := decide_eq_false c16
  clear c16
  simp only [Option.some.injEq, Prod.mk.injEq] at H
  obtain ⟨rfl, rfl, rfl, rfl⟩ := H
  have hnb41 := NB278_274.out
  have hnc41 := NB274_278.out
  have hnb42 := NB278_275.out
  have hnc42 := NB275_278.out
  have hcz43_0 : wr.cell? ⟨gb278, 0, none⟩ = some (.int .i64 x279000_1) := bc_ BK278.out 0
  have hcz43_1 : wr.cell? ⟨gb278, 1, none⟩ = some (.int .i64 x279001_1) := bc_ BK278.out 1
  have hcz43_2 : wr.cell? ⟨gb278, 2, none⟩ = some (.string x279002_1) := bc_ BK278.out 2
  have hfz43_0 := blk_frozen BK278.out 0
  have hfz43_1 := blk_frozen BK278.out 1
  have hfz43_2 := blk_frozen BK278.out 2
  have hnb44 := NB275_274.out
  have hnc44 := NB274_275.out
  have hcz45_0 : wr.cell? ⟨gb275, 0, none⟩ = some (.int .i64 0) := bc_ BK275.out 0
  have hcz45_1 : wr.cell? ⟨gb275, 1, none⟩ = some (.int .i64 0) := bc_ BK275.out 1
  have hcz45_2 : wr.cell? ⟨gb275, 2, none⟩ = some (.string (⟨#[]⟩ : ByteArray)) := bc_ BK275.out 2
  have hfz45_0 := blk_frozen BK275.out 0
  have hfz45_1 := blk_frozen BK275.out 1
  have hfz45_2 := blk_frozen BK275.out 2
  go_wp2
  refine bodyPost_ret (results_ct rfl _ _ gb275 40 #[.int .i64 x279000_1, .int .i64 x279001_1, .string x279002_1] (0, 0) _ rfl (by (with_reducible repeat (first | refine blk_drewN ?_ _ | refine blk_drew ?_ | refine blk_alloc ?_ _)); refine blk_put (cs := #[.int .i64 x279000_1, .int .i64 x279001_1, .string (⟨#[]⟩ : ByteArray)]) ?_ 2 _ rfl; (with_reducible repeat (first | refine blk_drewN ?_ _ | refine blk_drew ?_ | refine blk_alloc ?_ _)); refine blk_put (cs := #[.int .i64 x279000_1, .int .i64 0, .string (⟨#[]⟩ : ByteArray)]) ?_ 1 _ rfl; (with_reducible repeat (first | refine blk_drewN ?_ _ | refine blk_drew ?_ | refine blk_alloc ?_ _)); refine blk_put (cs := #[.int .i64 0, .int .i64 0, .string (⟨#[]⟩ : ByteArray)]) ?_ 0 _ rfl; exact kb_ BK275.out) Try.underlying40 rfl (by kernel_rfl)) rfl ?_
  exact ⟨ng_, bl_⟩
 rw [if_pos c16] at H
 have c16b0 : decide (x18_1 < (l0_1.length : Int)) = true := decide_eq_true c16
 clear c16
 by_cases c17 : 0 ≤ x18_1
 rotate_left
 ·rw [if_neg c17] at H
  exact absurd H (by simp)
 rw [if_pos c17] at H
 have c17b0 : decide (0 ≤ x18_1) = true := decide_eq_true c17
 clear c17
 by_cases c18 : x18_1 < (l0_1.length : Int)
 rotate_left
 ·rw [if_neg c18] at H
  exact absurd H (by simp)
 rw [if_pos c18] at H
 have c18b0 : decide (x18_1 < (l0_1.length : Int)) = true := decide_eq_true c18
 clear c18
 replace H := Option.bind_eq_some_iff.mp H
 obtain ⟨t281, A190, H⟩ := H
 replace H : (if t281 = true then (spec_NewestOf.l0 k1 l0_1 (l0_1.length : Int) (wrap64 (x18_1 + 1)) ((rd_T40 l0_1 x18_1).f0) ((rd_T40 l0_1 x18_1).f1) ((rd_T40 l0_1 x18_1).f2)) else (spec_NewestOf.l0 k1 l0_1 (l0_1.length : Int) (wrap64 (x18_1 + 1)) x279000_1 x279001_1 x279002_1)) = some (r1, r2, r3, r4) := H
 have A19 := Aside0.mk A190
 clear A190
 by_cases c20 : t281 = true
 rotate_left
 ·replace c20 := Bool.eq_false_iff.mpr c20
  subst c20
  have H1 : (spec_NewestOf.l0 k1 l0_1 (l0_1.length : Int) (wrap64 (x18_1 + 1)) x279000_1 x279001_1 x279002_1) = some (r1, r2, r3, r4) := by rw [if_neg (show ¬ (false = true) by decide)] at H; exact H
  clear H
  have H := H1
  clear H1
  have H' := Aside0.mk H
  clear H
  have p279 : 0 ≤ (x18_1 : Int) := of_decide_eq_true (by first | (with_reducible assumption) | assumption)
  have q279 : x18_1 < (l0_1.length : Int) := of_decide_eq_true (by first | (with_reducible assumption) | assumption)
  obtain ⟨ad279, e279, hx279_0, hx279_1, hx279_2⟩ := at_T40 HR0_1.out x18_1 p279 q279
  obtain rfl : ad277 = ad279 := (by injection e279)
  replace hx279_0 := (HB.out.cell (World.block_lt_of_cell? w _ hx279_0)).trans hx279_0
  replace hx279_1 := (HB.out.cell (World.block_lt_of_cell? w _ hx279_1)).trans hx279_1
  replace hx279_2 := (HB.out.cell (World.block_lt_of_cell? w _ hx279_2)).trans hx279_2
  replace p279 := eq_true p279
  replace q279 := eq_true q279
  go_wp2_with (first | ((with_reducible refine gate_dst (N := 6) rfl ?_); refine box_event rfl (N := 6) rfl (cs := #[.int .i64 0, .int .i64 0, .string (⟨#[]⟩ : ByteArray)]) (t := 40) gs_ ?_; intro gb280 hg w32 hbox hb; have BK280 := Aside0.mk (hbox); have GW280 := Aside0.mk ((by rw [hg]; exact bz_ : w.heap.size ≤ gb280)); have GE280 := GW280; replace HB := Aside0.mk (below_step bl_ hb); have NB274_280 := nl_ hg BK274; have NB280_274 := nm_ hg BK274; replace BK274 := bb_ BK274 hb; have NB275_280 := nl_ hg BK275; have NB280_275 := nm_ hg BK275; replace BK275 := bb_ BK275 hb; have NB278_280 := nl_ hg BK278; have NB280_278 := nm_ hg BK278; replace BK278 := bb_ BK278 hb; clear hb hbox hg; have hnb33 := NB280_274.out; have hnc33 := NB274_280.out; have hnb34 := NB280_275.out; have hnc34 := NB275_280.out; have hnb35 := NB280_278.out; have hnc35 := NB278_280.out; have hcz36_0 : w32.cell? ⟨gb280, 0, none⟩ = some (.int .i64 0) := bc_ BK280.out 0; have hcz36_1 : w32.cell? ⟨gb280, 1, none⟩ = some (.int .i64 0) := bc_ BK280.out 1; have hcz36_2 : w32.cell? ⟨gb280, 2, none⟩ = some (.string (⟨#[]⟩ : ByteArray)) := bc_ BK280.out 2; have hfz36_0 := blk_frozen BK280.out 0; have hfz36_1 := blk_frozen BK280.out 1; have hfz36_2 := blk_frozen BK280.out 2; have hnb37 := NB278_274.out; have hnc37 := NB274_278.out; have hnb38 := NB278_275.out; have hnc38 := NB275_278.out; have hcz39_0 : w32.cell? ⟨gb278, 0, none⟩ = some (.int .i64 x279000_1) := bc_ BK278.out 0; have hcz39_1 : w32.cell? ⟨gb278, 1, none⟩ = some (.int .i64 x279001_1) := bc_ BK278.out 1; have hcz39_2 : w32.cell? ⟨gb278, 2, none⟩ = some (.string x279002_1) := bc_ BK278.out 2; have hfz39_0 := blk_frozen BK278.out 0; have hfz39_1 := blk_frozen BK278.out 1; have hfz39_2 := blk_frozen BK278.out 2) | ((with_reducible refine gate_callee (f := 60) rfl ?_); refine goesL_ (some 24) rfl rfl Try.func60 (by kernel_rfl) rfl #[.agg #[.int .i64 ((rd_T40 l0_1 x18_1).f0), .int .i64 ((rd_T40 l0_1 x18_1).f1), .string ((rd_T40 l0_1 x18_1).f2)], .agg #[.int .i64 x279000_1, .int .i64 x279001_1, .string x279002_1]] rfl nc_ ?_; (with_reducible refine (spec_l9Newer.calls ((rd_T40 l0_1 x18_1).f0) ((rd_T40 l0_1 x18_1).f1) ((rd_T40 l0_1 x18_1).f2) x279000_1 x279001_1 x279002_1 false _ A19.out).mono ?_); rintro e w40 ⟨rfl, hb⟩; refine ⟨_, rfl, ?_⟩; replace BK274 := Aside0.mk (blk_below (g := gb274) (o := .cells #[.int .i64 a0_0, .slice (some ad277) l0_1.length c0_1, .slice A0_2 l0_2.length c0_2] 25 (0, 0)) kz_ hb); replace BK275 := Aside0.mk (blk_below (g := gb275) (o := .cells #[.int .i64 0, .int .i64 0, .string (⟨#[]⟩ : ByteArray)] 40 (0, 0)) kz_ hb); replace BK278 := Aside0.mk (blk_below (g := gb278) (o := .cells #[.int .i64 x279000_1, .int .i64 x279001_1, .string x279002_1] 40 (0, 0)) kz_ hb); replace BK280 := Aside0.mk (blk_below (g := gb280) (o := .cells #[.int .i64 ((rd_T40 l0_1 x18_1).f0), .int .i64 ((rd_T40 l0_1 x18_1).f1), .string ((rd_T40 l0_1 x18_1).f2)] 40 (0, 0)) (by (with_reducible repeat (first | refine blk_drewN ?_ _ | refine blk_drew ?_ | refine blk_alloc ?_ _)); refine blk_put (cs := #[.int .i64 ((rd_T40 l0_1 x18_1).f0), .int .i64 ((rd_T40 l0_1 x18_1).f1), .string (⟨#[]⟩ : ByteArray)]) ?_ 2 _ rfl; (with_reducible repeat (first | refine blk_drewN ?_ _ | refine blk_drew ?_ | refine blk_alloc ?_ _)); refine blk_put (cs := #[.int .i64 ((rd_T40 l0_1 x18_1).f0), .int .i64 0, .string (⟨#[]⟩ : ByteArray)]) ?_ 1 _ rfl; (with_reducible repeat (first | refine blk_drewN ?_ _ | refine blk_drew ?_ | refine blk_alloc ?_ _)); refine blk_put (cs := #[.int .i64 0, .int .i64 0, .string (⟨#[]⟩ : ByteArray)]) ?_ 0 _ rfl; exact kb_ BK280.out) hb); replace HB := Aside0.mk (below_step bl_ hb); clear hb))
  go_roundg k1
  case measure => have := HK1.out; omega
  case rel => exact ⟨(wrap64 (x18_1 + 1)), (x279000_1), (x279001_1), (x279002_1), (by first | rfl | (simp; done) | (simp [*]; done)), H', ⟨by have := HK1.out; omega⟩, ⟨by exact kb_ BK274.out⟩, ⟨by exact kb_ BK275.out⟩, ⟨by exact kb_ BK278.out⟩, ⟨bl_⟩⟩
 subst c20
 have H1 : (spec_NewestOf.l0 k1 l0_1 (l0_1.length : Int) (wrap64 (x18_1 + 1)) ((rd_T40 l0_1 x18_1).f0) ((rd_T40 l0_1 x18_1).f1) ((rd_T40 l0_1 x18_1).f2)) = some (r1, r2, r3, r4) := by rw [if_pos rfl] at H; exact H
 clear H
 have H := H1
 clear H1
 have H' := Aside0.mk H
 clear H
 have p279 : 0 ≤ (x18_1 : Int) := of_decide_eq_true (by first | (with_reducible assumption) | assumption)
 have q279 : x18_1 < (l0_1.length : Int) := of_decide_eq_true (by first | (with_reducible assumption) | assumption)
 obtain ⟨ad279, e279, hx279_0, hx279_1, hx279_2⟩ := at_T40 HR0_1.out x18_1 p279 q279
 obtain rfl : ad277 = ad279 := (by injection e279)
 replace hx279_0 := (HB.out.cell (World.block_lt_of_cell? w _ hx279_0)).trans hx279_0
 replace hx279_1 := (HB.out.cell (World.block_lt_of_cell? w _ hx279_1)).trans hx279_1
 replace hx279_2 := (HB.out.cell (World.block_lt_of_cell? w _ hx279_2)).trans hx279_2
 replace p279 := eq_true p279
 replace q279 := eq_true q279
 go_wp2_with (first | ((with_reducible refine gate_dst (N := 6) rfl ?_); refine box_event rfl (N := 6) rfl (cs := #[.int .i64 0, .int .i64 0, .string (⟨#[]⟩ : ByteArray)]) (t := 40) gs_ ?_; intro gb280 hg w21 hbox hb; have BK280 := Aside0.mk (hbox); have GW280 := Aside0.mk ((by rw [hg]; exact bz_ : w.heap.size ≤ gb280)); have GE280 := GW280; replace HB := Aside0.mk (below_step bl_ hb); have NB274_280 := nl_ hg BK274; have NB280_274 := nm_ hg BK274; replace BK274 := bb_ BK274 hb; have NB275_280 := nl_ hg BK275; have NB280_275 := nm_ hg BK275; replace BK275 := bb_ BK275 hb; have NB278_280 := nl_ hg BK278; have NB280_278 := nm_ hg BK278; replace BK278 := bb_ BK278 hb; clear hb hbox hg; have hnb22 := NB280_274.out; have hnc22 := NB274_280.out; have hnb23 := NB280_275.out; have hnc23 := NB275_280.out; have hnb24 := NB280_278.out; have hnc24 := NB278_280.out; have hcz25_0 : w21.cell? ⟨gb280, 0, none⟩ = some (.int .i64 0) := bc_ BK280.out 0; have hcz25_1 : w21.cell? ⟨gb280, 1, none⟩ = some (.int .i64 0) := bc_ BK280.out 1; have hcz25_2 : w21.cell? ⟨gb280, 2, none⟩ = some (.string (⟨#[]⟩ : ByteArray)) := bc_ BK280.out 2; have hfz25_0 := blk_frozen BK280.out 0; have hfz25_1 := blk_frozen BK280.out 1; have hfz25_2 := blk_frozen BK280.out 2; have hnb26 := NB278_274.out; have hnc26 := NB274_278.out; have hnb27 := NB278_275.out; have hnc27 := NB275_278.out; have hcz28_0 : w21.cell? ⟨gb278, 0, none⟩ = some (.int .i64 x279000_1) := bc_ BK278.out 0; have hcz28_1 : w21.cell? ⟨gb278, 1, none⟩ = some (.int .i64 x279001_1) := bc_ BK278.out 1; have hcz28_2 : w21.cell? ⟨gb278, 2, none⟩ = some (.string x279002_1) := bc_ BK278.out 2; have hfz28_0 := blk_frozen BK278.out 0; have hfz28_1 := blk_frozen BK278.out 1; have hfz28_2 := blk_frozen BK278.out 2) | ((with_reducible refine gate_callee (f := 60) rfl ?_); refine goesL_ (some 24) rfl rfl Try.func60 (by kernel_rfl) rfl #[.agg #[.int .i64 ((rd_T40 l0_1 x18_1).f0), .int .i64 ((rd_T40 l0_1 x18_1).f1), .string ((rd_T40 l0_1 x18_1).f2)], .agg #[.int .i64 x279000_1, .int .i64 x279001_1, .string x279002_1]] rfl nc_ ?_; (with_reducible refine (spec_l9Newer.calls ((rd_T40 l0_1 x18_1).f0) ((rd_T40 l0_1 x18_1).f1) ((rd_T40 l0_1 x18_1).f2) x279000_1 x279001_1 x279002_1 true _ A19.out).mono ?_); rintro e w29 ⟨rfl, hb⟩; refine ⟨_, rfl, ?_⟩; replace BK274 := Aside0.mk (blk_below (g := gb274) (o := .cells #[.int .i64 a0_0, .slice (some ad277) l0_1.length c0_1, .slice A0_2 l0_2.length c0_2] 25 (0, 0)) kz_ hb); replace BK275 := Aside0.mk (blk_below (g := gb275) (o := .cells #[.int .i64 0, .int .i64 0, .string (⟨#[]⟩ : ByteArray)] 40 (0, 0)) kz_ hb); replace BK278 := Aside0.mk (blk_below (g := gb278) (o := .cells #[.int .i64 x279000_1, .int .i64 x279001_1, .string x279002_1] 40 (0, 0)) kz_ hb); replace BK280 := Aside0.mk (blk_below (g := gb280) (o := .cells #[.int .i64 ((rd_T40 l0_1 x18_1).f0), .int .i64 ((rd_T40 l0_1 x18_1).f1), .string ((rd_T40 l0_1 x18_1).f2)] 40 (0, 0)) (by (with_reducible repeat (first | refine blk_drewN ?_ _ | refine blk_drew ?_ | refine blk_alloc ?_ _)); refine blk_put (cs := #[.int .i64 ((rd_T40 l0_1 x18_1).f0), .int .i64 ((rd_T40 l0_1 x18_1).f1), .string (⟨#[]⟩ : ByteArray)]) ?_ 2 _ rfl; (with_reducible repeat (first | refine blk_drewN ?_ _ | refine blk_drew ?_ | refine blk_alloc ?_ _)); refine blk_put (cs := #[.int .i64 ((rd_T40 l0_1 x18_1).f0), .int .i64 0, .string (⟨#[]⟩ : ByteArray)]) ?_ 1 _ rfl; (with_reducible repeat (first | refine blk_drewN ?_ _ | refine blk_drew ?_ | refine blk_alloc ?_ _)); refine blk_put (cs := #[.int .i64 0, .int .i64 0, .string (⟨#[]⟩ : ByteArray)]) ?_ 0 _ rfl; exact kb_ BK280.out) hb); replace HB := Aside0.mk (below_step bl_ hb); clear hb; have hcz30_0 : w29.cell? ⟨gb280, 0, none⟩ = some (.int .i64 ((rd_T40 l0_1 x18_1).f0)) := bc_ BK280.out 0; have hcz30_1 : w29.cell? ⟨gb280, 1, none⟩ = some (.int .i64 ((rd_T40 l0_1 x18_1).f1)) := bc_ BK280.out 1; have hcz30_2 : w29.cell? ⟨gb280, 2, none⟩ = some (.string ((rd_T40 l0_1 x18_1).f2)) := bc_ BK280.out 2; have hfz30_0 := blk_frozen BK280.out 0; have hfz30_1 := blk_frozen BK280.out 1; have hfz30_2 := blk_frozen BK280.out 2; have hcz31_0 : w29.cell? ⟨gb278, 0, none⟩ = some (.int .i64 x279000_1) := bc_ BK278.out 0; have hcz31_1 : w29.cell? ⟨gb278, 1, none⟩ = some (.int .i64 x279001_1) := bc_ BK278.out 1; have hcz31_2 : w29.cell? ⟨gb278, 2, none⟩ = some (.string x279002_1) := bc_ BK278.out 2; have hfz31_0 := blk_frozen BK278.out 0; have hfz31_1 := blk_frozen BK278.out 1; have hfz31_2 := blk_frozen BK278.out 2))
 go_roundg k1
 case measure => have := HK1.out; omega
 case rel => exact ⟨(wrap64 (x18_1 + 1)), ((rd_T40 l0_1 x18_1).f0), ((rd_T40 l0_1 x18_1).f1), ((rd_T40 l0_1 x18_1).f2), (by first | rfl | (simp; done) | (simp [*]; done)), H', ⟨by have := HK1.out; omega⟩, ⟨kz_⟩, ⟨kz_⟩, ⟨by (with_reducible repeat (first | refine blk_drewN ?_ _ | refine blk_drew ?_ | refine blk_alloc ?_ _)); refine blk_put (cs := #[.int .i64 ((rd_T40 l0_1 x18_1).f0), .int .i64 ((rd_T40 l0_1 x18_1).f1), .string x279002_1]) ?_ 2 _ rfl; (with_reducible repeat (first | refine blk_drewN ?_ _ | refine blk_drew ?_ | refine blk_alloc ?_ _)); refine blk_put (cs := #[.int .i64 ((rd_T40 l0_1 x18_1).f0), .int .i64 x279001_1, .string x279002_1]) ?_ 1 _ rfl; (with_reducible repeat (first | refine blk_drewN ?_ _ | refine blk_drew ?_ | refine blk_alloc ?_ _)); refine blk_put (cs := #[.int .i64 x279000_1, .int .i64 x279001_1, .string x279002_1]) ?_ 0 _ rfl; exact kb_ BK278.out⟩, ⟨bl_⟩⟩

/-! ### impl_Copy_newer: function 61 -/
def impl_Copy_newer.f (a0_0 : Int) (a0_1 : Int) (a0_2 : ByteArray) (a1_0 : Int) (a1_1 : Int) (a1_2 : ByteArray) : Option (Bool) := if a0_0 > a1_0 then (some true) else (if a0_0 = a1_0 then (some (decide (a0_1 > a1_1))) else (some false))
set_option maxHeartbeats 8000000 in
set_option maxRecDepth 100000 in
theorem impl_Copy_newer.calls (a0_0 : Int) (a0_1 : Int) (a0_2 : ByteArray) (a1_0 : Int) (a1_1 : Int) (a1_2 : ByteArray) (r : Bool) (w : World) (h : impl_Copy_newer.f a0_0 a0_1 a0_2 a1_0 a1_1 a1_2 = some r) :
  Calls Try.prog 61 #[.agg #[.int .i64 a0_0, .int .i64 a0_1, .string a0_2], .agg #[.int .i64 a1_0, .int .i64 a1_1, .string a1_2]] w fun e w' => e = .returned (.bool r) ∧ Below w.heap.size w w' := by
 have hu40 := Try.underlying40
 have HB := Aside0.mk (Below.refl w.heap.size w)
 have H : (if a0_0 > a1_0 then (some true) else (if a0_0 = a1_0 then (some (decide (a0_1 > a1_1))) else (some false))) = some r := h
 clear h
 by_cases c3 : a0_0 > a1_0
 ·rw [if_pos c3] at H
  have c3b0 : decide (a1_0 < a0_0) = true := decide_eq_true c3
  clear c3
  obtain rfl := Option.some.inj H
  go_enter Try.func61, Try.ntmps61
  go_wp2_with (first | ((with_reducible refine gate_dst (N := 2) rfl ?_); refine box_event rfl (N := 2) rfl (cs := #[.int .i64 a0_0, .int .i64 a0_1, .string a0_2]) (t := 40) gs_ ?_; intro gb282 hg w4 hbox hb; have BK282 := Aside0.mk (hbox); have GW282 := Aside0.mk ((by rw [hg]; exact bz_ : w.heap.size ≤ gb282)); have GE282 := GW282; replace HB := Aside0.mk (below_step bl_ hb); clear hb hbox hg) | ((with_reducible refine gate_dst (N := 3) rfl ?_); refine box_event rfl (N := 3) rfl (cs := #[.int .i64 a1_0, .int .i64 a1_1, .string a1_2]) (t := 40) gs_ ?_; intro gb283 hg w5 hbox hb; have BK283 := Aside0.mk (hbox); have GW283 := Aside0.mk ((by rw [hg]; exact bz_ : w.heap.size ≤ gb283)); have GE283 := GW283; replace HB := Aside0.mk (below_step bl_ hb); have NB282_283 := nl_ hg BK282; have NB283_282 := nm_ hg BK282; replace BK282 := bb_ BK282 hb; clear hb hbox hg; have hnb6 := NB282_283.out; have hnc6 := NB283_282.out; have hcz7_0 : w5.cell? ⟨gb282, 0, none⟩ = some (.int .i64 a0_0) := bc_ BK282.out 0; have hcz7_1 : w5.cell? ⟨gb282, 1, none⟩ = some (.int .i64 a0_1) := bc_ BK282.out 1; have hcz7_2 : w5.cell? ⟨gb282, 2, none⟩ = some (.string a0_2) := bc_ BK282.out 2; have hfz7_0 := blk_frozen BK282.out 0; have hfz7_1 := blk_frozen BK282.out 1; have hfz7_2 := blk_frozen BK282.out 2; have hcz8_0 : w5.cell? ⟨gb283, 0, none⟩ = some (.int .i64 a1_0) := bc_ BK283.out 0; have hcz8_1 : w5.cell? ⟨gb283, 1, none⟩ = some (.int .i64 a1_1) := bc_ BK283.out 1; have hcz8_2 : w5.cell? ⟨gb283, 2, none⟩ = some (.string a1_2) := bc_ BK283.out 2; have hfz8_0 := blk_frozen BK283.out 0; have hfz8_1 := blk_frozen BK283.out 1; have hfz8_2 := blk_frozen BK283.out 2))
  go_ret
  exact ⟨ng_, bl_⟩
 rw [if_neg c3] at H
 have c3b0 : decide (a1_0 < a0_0) = false := decide_eq_false c3
 clear c3
 by_cases c9 : a0_0 = a1_0
 rotate_left
 ·rw [if_neg c9] at H
  have c9b0 : (a0_0 == a1_0) = false := beq_eq_false_iff_ne.mpr c9
  have c9b1 : (a0_0 != a1_0) = true := bne_iff_ne.mpr c9
  obtain rfl := Option.some.inj H
  go_enter Try.func61, Try.ntmps61
  go_wp2_with (first | ((with_reducible refine gate_dst (N := 2) rfl ?_); refine box_event rfl (N := 2) rfl (cs := #[.int .i64 a0_0, .int .i64 a0_1, .string a0_2]) (t := 40) gs_ ?_; intro gb282 hg w15 hbox hb; have BK282 := Aside0.mk (hbox); have GW282 := Aside0.mk ((by rw [hg]; exact bz_ : w.heap.size ≤ gb282)); have GE282 := GW282; replace HB := Aside0.mk (below_step bl_ hb); clear hb hbox hg) | ((with_reducible refine gate_dst (N := 3) rfl ?_); refine box_event rfl (N := 3) rfl (cs := #[.int .i64 a1_0, .int .i64 a1_1, .string a1_2]) (t := 40) gs_ ?_; intro gb283 hg w16 hbox hb; have BK283 := Aside0.mk (hbox); have GW283 := Aside0.mk ((by rw [hg]; exact bz_ : w.heap.size ≤ gb283)); have GE283 := GW283; replace HB := Aside0.mk (below_step bl_ hb); have NB282_283 := nl_ hg BK282; have NB283_282 := nm_ hg BK282; replace BK282 := bb_ BK282 hb; clear hb hbox hg; have hnb17 := NB282_283.out; have hnc17 := NB283_282.out; have hcz18_0 : w16.cell? ⟨gb282, 0, none⟩ = some (.int .i64 a0_0) := bc_ BK282.out 0; have hcz18_1 : w16.cell? ⟨gb282, 1, none⟩ = some (.int .i64 a0_1) := bc_ BK282.out 1; have hcz18_2 : w16.cell? ⟨gb282, 2, none⟩ = some (.string a0_2) := bc_ BK282.out 2; have hfz18_0 := blk_frozen BK282.out 0; have hfz18_1 := blk_frozen BK282.out 1; have hfz18_2 := blk_frozen BK282.out 2; have hcz19_0 : w16.cell? ⟨gb283, 0, none⟩ = some (.int .i64 a1_0) := bc_ BK283.out 0; have hcz19_1 : w16.cell? ⟨gb283, 1, none⟩ = some (.int .i64 a1_1) := bc_ BK283.out 1; have hcz19_2 : w16.cell? ⟨gb283, 2, none⟩ = some (.string a1_2) := bc_ BK283.out 2; have hfz19_0 := blk_frozen BK283.out 0; have hfz19_1 := blk_frozen BK283.out 1; have hfz19_2 := blk_frozen BK283.out 2))
  go_ret
  exact ⟨ng_, bl_⟩
 rw [if_pos c9] at H
 have c9b0 : (a0_0 == a1_0) = true := beq_iff_eq.mpr c9
 have c9b1 : (a0_0 != a1_0) = false := bne_eq_false_iff_eq.mpr c9
 clear c9
 obtain rfl := Option.some.inj H
 go_enter Try.func61, Try.ntmps61
 go_wp2_with (first | ((with_reducible refine gate_dst (N := 2) rfl ?_); refine box_event rfl (N := 2) rfl (cs := #[.int .i64 a0_0, .int .i64 a0_1, .string a0_2]) (t := 40) gs_ ?_; intro gb282 hg w10 hbox hb; have BK282 := Aside0.mk (hbox); have GW282 := Aside0.mk ((by rw [hg]; exact bz_ : w.heap.size ≤ gb282)); have GE282 := GW282; replace HB := Aside0.mk (below_step bl_ hb); clear hb hbox hg) | ((with_reducible refine gate_dst (N := 3) rfl ?_); refine box_event rfl (N := 3) rfl (cs := #[.int .i64 a1_0, .int .i64 a1_1, .string a1_2]) (t := 40) gs_ ?_; intro gb283 hg w11 hbox hb; have BK283 := Aside0.mk (hbox); have GW283 := Aside0.mk ((by rw [hg]; exact bz_ : w.heap.size ≤ gb283)); have GE283 := GW283; replace HB := Aside0.mk (below_step bl_ hb); have NB282_283 := nl_ hg BK282; have NB283_282 := nm_ hg BK282; replace BK282 := bb_ BK282 hb; clear hb hbox hg; have hnb12 := NB282_283.out; have hnc12 := NB283_282.out; have hcz13_0 : w11.cell? ⟨gb282, 0, none⟩ = some (.int .i64 a0_0) := bc_ BK282.out 0; have hcz13_1 : w11.cell? ⟨gb282, 1, none⟩ = some (.int .i64 a0_1) := bc_ BK282.out 1; have hcz13_2 : w11.cell? ⟨gb282, 2, none⟩ = some (.string a0_2) := bc_ BK282.out 2; have hfz13_0 := blk_frozen BK282.out 0; have hfz13_1 := blk_frozen BK282.out 1; have hfz13_2 := blk_frozen BK282.out 2; have hcz14_0 : w11.cell? ⟨gb283, 0, none⟩ = some (.int .i64 a1_0) := bc_ BK283.out 0; have hcz14_1 : w11.cell? ⟨gb283, 1, none⟩ = some (.int .i64 a1_1) := bc_ BK283.out 1; have hcz14_2 : w11.cell? ⟨gb283, 2, none⟩ = some (.string a1_2) := bc_ BK283.out 2; have hfz14_0 := blk_frozen BK283.out 0; have hfz14_1 := blk_frozen BK283.out 1; have hfz14_2 := blk_frozen BK283.out 2))
 go_ret
 exact ⟨ng_, bl_⟩

/-! ### impl_NewestOf: function 21 -/
def impl_NewestOf.l0 : Nat → List (S40) → Int → Int → Int → Int → ByteArray → Option (Int × Int × ByteArray × Bool)
 | 0, _, _, _, _, _, _ => none
 | k + 1, x16, x17, x18, x289000, x289001, x289002 => if x18 < x17 then (if 0 ≤ x18 then (if x18 < (x16.length : Int) then ((impl_Copy_newer.f ((rd_T40 x16 x18).f0) ((rd_T40 x16 x18).f1) ((rd_T40 x16 x18).f2) x289000 x289001 x289002).bind fun t291 => (if t291 = true then (impl_NewestOf.l0 k x16 x17 (wrap64 (x18 + 1)) ((rd_T40 x16 x18).f0) ((rd_T40 x16 x18).f1) ((rd_T40 x16 x18).f2)) else (impl_NewestOf.l0 k x16 x17 (wrap64 (x18 + 1)) x289000 x289001 x289002))) else (none)) else (none)) else (some (x289000, x289001, x289002, true))
def impl_NewestOf.f (k : Nat) (a0_0 : Int) (l0_1 : List (S40)) (l0_2 : List (S83)) : Option (Int × Int × ByteArray × Bool) := (impl_isRegister.f k a0_0 l0_1 l0_2).bind fun t286 => (if t286 = true then (if 0 < (l0_1.length : Int) then (impl_NewestOf.l0 k l0_1 (l0_1.length : Int) 0 ((rd_T40 l0_1 0).f0) ((rd_T40 l0_1 0).f1) ((rd_T40 l0_1 0).f2)) else (none)) else (some (0, 0, (⟨#[]⟩ : ByteArray), false)))
theorem impl_NewestOf.mono_l : ∀ k, (∀ y0 y1 y2 y3 y4 y5, LeO (impl_NewestOf.l0 k y0 y1 y2 y3 y4 y5) (impl_NewestOf.l0 (k + 1) y0 y1 y2 y3 y4 y5))
 | 0 => fun _ _ _ _ _ _ r h => by simp [impl_NewestOf.l0] at h
 | k + 1 => by
  have ih0 := impl_NewestOf.mono_l k
  ·intro y0 y1 y2 y3 y4 y5
   unfold impl_NewestOf.l0
   repeat' first
   | (with_reducible exact ih0 _ _ _ _ _ _)
   | (with_reducible exact impl_isRegister.mono _ _ _ _)
   | (with_reducible exact LeO.refl _)
   | (with_reducible exact LeO.none _)
   | (with_reducible refine LeO.ite ?_ ?_)
   | (with_reducible refine LeO.bind ?_ (fun _ => ?_))
   | exact ih0 _ _ _ _ _ _
   | exact impl_isRegister.mono _ _ _ _
   | exact LeO.none _
   | refine LeO.ite ?_ ?_
   | refine LeO.bind ?_ (fun _ => ?_)
theorem impl_NewestOf.mono : ∀ a0 a1 a2 k, LeO (impl_NewestOf.f k a0 a1 a2) (impl_NewestOf.f (k + 1) a0 a1 a2) := by
 intro a0 a1 a2 k
 have ih0 := impl_NewestOf.mono_l k
 unfold impl_NewestOf.f
 repeat' first
   | (with_reducible exact ih0 _ _ _ _ _ _)
   | (with_reducible exact impl_isRegister.mono _ _ _ _)
   | (with_reducible exact LeO.refl _)
   | (with_reducible exact LeO.none _)
   | (with_reducible refine LeO.ite ?_ ?_)
   | (with_reducible refine LeO.bind ?_ (fun _ => ?_))
   | exact ih0 _ _ _ _ _ _
   | exact impl_isRegister.mono _ _ _ _
   | exact LeO.none _
   | refine LeO.ite ?_ ?_
   | refine LeO.bind ?_ (fun _ => ?_)
set_option maxHeartbeats 8000000 in
set_option maxRecDepth 100000 in
theorem impl_NewestOf.calls (k : Nat) (a0_0 : Int) (A0_1 : Option Addr) (c0_1 : Nat) (l0_1 : List (S40)) (A0_2 : Option Addr) (c0_2 : Nat) (l0_2 : List (S83)) (r1 : Int) (r2 : Int) (r3 : ByteArray) (r4 : Bool) (w : World) (hr0_1 : Kd.C k40 w A0_1 l0_1.length l0_1) (hc0_1 : l0_1.length ≤ c0_1) (hr0_2 : Kd.C k83 w A0_2 l0_2.length l0_2) (hc0_2 : l0_2.length ≤ c0_2) (h : impl_NewestOf.f k a0_0 l0_1 l0_2 = some (r1, r2, r3, r4)) :
  Calls Try.prog 21 #[.agg #[.int .i64 a0_0, .slice A0_1 l0_1.length c0_1, .slice A0_2 l0_2.length c0_2]] w fun e w' => e = .returned (.tuple #[.agg #[.int .i64 r1, .int .i64 r2, .string r3], .bool r4]) ∧ Below w.heap.size w w' := by
 have hu25 := Try.underlying25
 have hu40 := Try.underlying40
 have HR0_1 := Aside0.mk hr0_1
 have HC0_1 := Aside0.mk hc0_1
 clear hr0_1 hc0_1
 have HR0_2 := Aside0.mk hr0_2
 have HC0_2 := Aside0.mk hc0_2
 clear hr0_2 hc0_2
 have HB := Aside0.mk (Below.refl w.heap.size w)
 have H : ((impl_isRegister.f k a0_0 l0_1 l0_2).bind fun t286 => (if t286 = true then (if 0 < (l0_1.length : Int) then (impl_NewestOf.l0 k l0_1 (l0_1.length : Int) 0 ((rd_T40 l0_1 0).f0) ((rd_T40 l0_1 0).f1) ((rd_T40 l0_1 0).f2)) else (none)) else (some (0, 0, (⟨#[]⟩ : ByteArray), false)))) = some (r1, r2, r3, r4) := h
 clear h
 replace H := Option.bind_eq_some_iff.mp H
 obtain ⟨t286, A20, H⟩ := H
 replace H : (if t286 = true then (if 0 < (l0_1.length : Int) then (impl_NewestOf.l0 k l0_1 (l0_1.length : Int) 0 ((rd_T40 l0_1 0).f0) ((rd_T40 l0_1 0).f1) ((rd_T40 l0_1 0).f2)) else (none)) else (some (0, 0, (⟨#[]⟩ : ByteArray), false))) = some (r1, r2, r3, r4) := H
 have A2 := Aside0.mk A20
 clear A20
 by_cases c3 : t286 = true
 rotate_left
 ·replace c3 := Bool.eq_false_iff.mpr c3
  subst c3
  have H1 : (some (0, 0, (⟨#[]⟩ : ByteArray), false)) = some (r1, r2, r3, r4) := by rw [if_neg (show ¬ (false = true) by decide)] at H; exact H
  clear H
  have H := H1
  clear H1
  simp only [Option.some.injEq, Prod.mk.injEq] at H
  obtain ⟨rfl, rfl, rfl, rfl⟩ := H
  go_enter Try.func21, Try.ntmps21
  go_wp2_with (first | ((with_reducible refine gate_dst (N := 1) rfl ?_); refine box_event rfl (N := 1) rfl (cs := #[.int .i64 a0_0, .slice A0_1 l0_1.length c0_1, .slice A0_2 l0_2.length c0_2]) (t := 25) gs_ ?_; intro gb284 hg w46 hbox hb; have BK284 := Aside0.mk (hbox); have GW284 := Aside0.mk ((by rw [hg]; exact bz_ : w.heap.size ≤ gb284)); have GE284 := GW284; replace HB := Aside0.mk (below_step bl_ hb); clear hb hbox hg) | ((with_reducible refine gate_dst (N := 2) rfl ?_); refine box_event rfl (N := 2) rfl (cs := #[.int .i64 0, .int .i64 0, .string (⟨#[]⟩ : ByteArray)]) (t := 40) gs_ ?_; intro gb285 hg w47 hbox hb; have BK285 := Aside0.mk (hbox); have GW285 := Aside0.mk ((by rw [hg]; exact bz_ : w.heap.size ≤ gb285)); have GE285 := GW285; replace HB := Aside0.mk (below_step bl_ hb); have NB284_285 := nl_ hg BK284; have NB285_284 := nm_ hg BK284; replace BK284 := bb_ BK284 hb; clear hb hbox hg; have hnb48 := NB284_285.out; have hnc48 := NB285_284.out; have hcz49_0 : w47.cell? ⟨gb284, 0, none⟩ = some (.int .i64 a0_0) := bc_ BK284.out 0; have hcz49_1 : w47.cell? ⟨gb284, 1, none⟩ = some (.slice A0_1 l0_1.length c0_1) := bc_ BK284.out 1; have hcz49_2 : w47.cell? ⟨gb284, 2, none⟩ = some (.slice A0_2 l0_2.length c0_2) := bc_ BK284.out 2; have hfz49_0 := blk_frozen BK284.out 0; have hfz49_1 := blk_frozen BK284.out 1; have hfz49_2 := blk_frozen BK284.out 2) | ((with_reducible refine gate_callee (f := 59) rfl ?_); refine goesL_ (some 8) rfl rfl Try.func59 (by kernel_rfl) rfl #[.agg #[.int .i64 a0_0, .slice A0_1 l0_1.length c0_1, .slice A0_2 l0_2.length c0_2]] rfl nc_ ?_; (with_reducible refine (impl_isRegister.calls k a0_0 _ _ l0_1 _ _ l0_2 false _ ?side1 ?side2 ?side3 ?side4 A2.out).mono ?_); (case side1 => exact kc_ (Kd.C_below HR0_1.out HB.out)); (case side2 => exact HC0_1.out); (case side3 => exact kc_ (Kd.C_below HR0_2.out HB.out)); (case side4 => exact HC0_2.out); rintro e w50 ⟨rfl, hb⟩; refine ⟨_, rfl, ?_⟩; replace BK284 := bb_ BK284 hb; replace BK285 := bb_ BK285 hb; replace HB := Aside0.mk (below_step bl_ hb); clear hb; have hcz51_0 : w50.cell? ⟨gb285, 0, none⟩ = some (.int .i64 0) := bc_ BK285.out 0; have hcz51_1 : w50.cell? ⟨gb285, 1, none⟩ = some (.int .i64 0) := bc_ BK285.out 1; have hcz51_2 : w50.cell? ⟨gb285, 2, none⟩ = some (.string (⟨#[]⟩ : ByteArray)) := bc_ BK285.out 2; have hfz51_0 := blk_frozen BK285.out 0; have hfz51_1 := blk_frozen BK285.out 1; have hfz51_2 := blk_frozen BK285.out 2))
  refine bodyPost_ret (results_ct rfl _ _ gb285 40 #[.int .i64 0, .int .i64 0, .string (⟨#[]⟩ : ByteArray)] (0, 0) _ rfl (by (with_reducible repeat (first | refine blk_drewN ?_ _ | refine blk_drew ?_ | refine blk_alloc ?_ _)); refine blk_put (cs := #[.int .i64 0, .int .i64 0, .string (⟨#[]⟩ : ByteArray)]) ?_ 2 _ rfl; (with_reducible repeat (first | refine blk_drewN ?_ _ | refine blk_drew ?_ | refine blk_alloc ?_ _)); refine blk_put (cs := #[.int .i64 0, .int .i64 0, .string (⟨#[]⟩ : ByteArray)]) ?_ 1 _ rfl; (with_reducible repeat (first | refine blk_drewN ?_ _ | refine blk_drew ?_ | refine blk_alloc ?_ _)); refine blk_put (cs := #[.int .i64 0, .int .i64 0, .string (⟨#[]⟩ : ByteArray)]) ?_ 0 _ rfl; exact kb_ BK285.out) Try.underlying40 rfl (by kernel_rfl)) rfl ?_
  exact ⟨ng_, bl_⟩
 subst c3
 have H1 : (if 0 < (l0_1.length : Int) then (impl_NewestOf.l0 k l0_1 (l0_1.length : Int) 0 ((rd_T40 l0_1 0).f0) ((rd_T40 l0_1 0).f1) ((rd_T40 l0_1 0).f2)) else (none)) = some (r1, r2, r3, r4) := by rw [if_pos rfl] at H; exact H
 clear H
 have H := H1
 clear H1
 by_cases c4 : 0 < (l0_1.length : Int)
 rotate_left
 ·rw [if_neg c4] at H
  exact absurd H (by simp)
 rw [if_pos c4] at H
 have c4b0 : decide (0 < (l0_1.length : Int)) = true := decide_eq_true c4
 have c4b1 : decide (0 < l0_1.length) = true := decide_eq_true (by omega)
 clear c4
 have H' := Aside0.mk H
 clear H
 go_enter Try.func21, Try.ntmps21
 go_wp2_with (first | ((with_reducible refine gate_dst (N := 1) rfl ?_); refine box_event rfl (N := 1) rfl (cs := #[.int .i64 a0_0, .slice A0_1 l0_1.length c0_1, .slice A0_2 l0_2.length c0_2]) (t := 25) gs_ ?_; intro gb284 hg w5 hbox hb; have BK284 := Aside0.mk (hbox); have GW284 := Aside0.mk ((by rw [hg]; exact bz_ : w.heap.size ≤ gb284)); have GE284 := GW284; replace HB := Aside0.mk (below_step bl_ hb); clear hb hbox hg) | ((with_reducible refine gate_dst (N := 2) rfl ?_); refine box_event rfl (N := 2) rfl (cs := #[.int .i64 0, .int .i64 0, .string (⟨#[]⟩ : ByteArray)]) (t := 40) gs_ ?_; intro gb285 hg w6 hbox hb; have BK285 := Aside0.mk (hbox); have GW285 := Aside0.mk ((by rw [hg]; exact bz_ : w.heap.size ≤ gb285)); have GE285 := GW285; replace HB := Aside0.mk (below_step bl_ hb); have NB284_285 := nl_ hg BK284; have NB285_284 := nm_ hg BK284; replace BK284 := bb_ BK284 hb; clear hb hbox hg; have hnb7 := NB284_285.out; have hnc7 := NB285_284.out; have hcz8_0 : w6.cell? ⟨gb284, 0, none⟩ = some (.int .i64 a0_0) := bc_ BK284.out 0; have hcz8_1 : w6.cell? ⟨gb284, 1, none⟩ = some (.slice A0_1 l0_1.length c0_1) := bc_ BK284.out 1; have hcz8_2 : w6.cell? ⟨gb284, 2, none⟩ = some (.slice A0_2 l0_2.length c0_2) := bc_ BK284.out 2; have hfz8_0 := blk_frozen BK284.out 0; have hfz8_1 := blk_frozen BK284.out 1; have hfz8_2 := blk_frozen BK284.out 2) | ((with_reducible refine gate_callee (f := 59) rfl ?_); refine goesL_ (some 8) rfl rfl Try.func59 (by kernel_rfl) rfl #[.agg #[.int .i64 a0_0, .slice A0_1 l0_1.length c0_1, .slice A0_2 l0_2.length c0_2]] rfl nc_ ?_; (with_reducible refine (impl_isRegister.calls k a0_0 _ _ l0_1 _ _ l0_2 true _ ?side1 ?side2 ?side3 ?side4 A2.out).mono ?_); (case side1 => exact kc_ (Kd.C_below HR0_1.out HB.out)); (case side2 => exact HC0_1.out); (case side3 => exact kc_ (Kd.C_below HR0_2.out HB.out)); (case side4 => exact HC0_2.out); rintro e w9 ⟨rfl, hb⟩; refine ⟨_, rfl, ?_⟩; replace BK284 := bb_ BK284 hb; replace BK285 := bb_ BK285 hb; replace HB := Aside0.mk (below_step bl_ hb); clear hb; have hcz10_0 : w9.cell? ⟨gb284, 0, none⟩ = some (.int .i64 a0_0) := bc_ BK284.out 0; have hcz10_1 : w9.cell? ⟨gb284, 1, none⟩ = some (.slice A0_1 l0_1.length c0_1) := bc_ BK284.out 1; have hcz10_2 : w9.cell? ⟨gb284, 2, none⟩ = some (.slice A0_2 l0_2.length c0_2) := bc_ BK284.out 2; have hfz10_0 := blk_frozen BK284.out 0; have hfz10_1 := blk_frozen BK284.out 1; have hfz10_2 := blk_frozen BK284.out 2; have p287 : 0 ≤ (0 : Int) := (by omega); have q287 : 0 < (l0_1.length : Int) := of_decide_eq_true (by first | (with_reducible assumption) | assumption); obtain ⟨ad287, e287, hx287_0, hx287_1, hx287_2⟩ := at_T40 HR0_1.out 0 p287 q287; cases e287; have qi287 : (0 < l0_1.length) = True := eq_true (by omega); (try rw [show ((0 : Int)).toNat = 0 from rfl] at hx287_0); (try rw [show 0 * 3 = 0 from rfl] at hx287_0); (try rw [Addr.add_zero'] at hx287_0); (try rw [show ((0 : Int)).toNat = 0 from rfl] at hx287_1); (try rw [show 0 * 3 = 0 from rfl] at hx287_1); (try rw [Addr.add_zero'] at hx287_1); (try rw [show ((0 : Int)).toNat = 0 from rfl] at hx287_2); (try rw [show 0 * 3 = 0 from rfl] at hx287_2); (try rw [Addr.add_zero'] at hx287_2); replace hx287_0 := (HB.out.cell (World.block_lt_of_cell? w _ hx287_0)).trans hx287_0; replace hx287_1 := (HB.out.cell (World.block_lt_of_cell? w _ hx287_1)).trans hx287_1; replace hx287_2 := (HB.out.cell (World.block_lt_of_cell? w _ hx287_2)).trans hx287_2; replace p287 := eq_true p287; replace q287 := eq_true q287) | ((with_reducible refine gate_dst (N := 4) rfl ?_); refine box_event rfl (N := 4) rfl (cs := #[.int .i64 0, .int .i64 0, .string (⟨#[]⟩ : ByteArray)]) (t := 40) gs_ ?_; intro gb288 hg w11 hbox hb; have BK288 := Aside0.mk (hbox); have GW288 := Aside0.mk ((by rw [hg]; exact bz_ : w.heap.size ≤ gb288)); have GE288 := GW288; replace HB := Aside0.mk (below_step bl_ hb); have NB284_288 := nl_ hg BK284; have NB288_284 := nm_ hg BK284; replace BK284 := bb_ BK284 hb; have NB285_288 := nl_ hg BK285; have NB288_285 := nm_ hg BK285; replace BK285 := bb_ BK285 hb; clear hb hbox hg; have hnb12 := NB288_284.out; have hnc12 := NB284_288.out; have hnb13 := NB288_285.out; have hnc13 := NB285_288.out; have hcz14_0 : w11.cell? ⟨gb288, 0, none⟩ = some (.int .i64 0) := bc_ BK288.out 0; have hcz14_1 : w11.cell? ⟨gb288, 1, none⟩ = some (.int .i64 0) := bc_ BK288.out 1; have hcz14_2 : w11.cell? ⟨gb288, 2, none⟩ = some (.string (⟨#[]⟩ : ByteArray)) := bc_ BK288.out 2; have hfz14_0 := blk_frozen BK288.out 0; have hfz14_1 := blk_frozen BK288.out 1; have hfz14_2 := blk_frozen BK288.out 2; have hcz15_0 : w11.cell? ⟨gb284, 0, none⟩ = some (.int .i64 a0_0) := bc_ BK284.out 0; have hcz15_1 : w11.cell? ⟨gb284, 1, none⟩ = some (.slice (some ad287) l0_1.length c0_1) := bc_ BK284.out 1; have hcz15_2 : w11.cell? ⟨gb284, 2, none⟩ = some (.slice A0_2 l0_2.length c0_2) := bc_ BK284.out 2; have hfz15_0 := blk_frozen BK284.out 0; have hfz15_1 := blk_frozen BK284.out 1; have hfz15_2 := blk_frozen BK284.out 2))
 go_loopg [18] k (fun kq v18 w' => ∃ (x18_1 : Int) (x289000_1 : Int) (x289001_1 : Int) (x289002_1 : ByteArray), v18 = .int .i64 x18_1 ∧ Aside0 (impl_NewestOf.l0 kq l0_1 (l0_1.length : Int) x18_1 x289000_1 x289001_1 x289002_1 = some (r1, r2, r3, r4)) ∧ Aside0 (kq ≤ k) ∧ Aside0 (w'.heap[gb284]? = some (.cells #[.int .i64 a0_0, (.slice (some ad287) l0_1.length c0_1), (.slice A0_2 l0_2.length c0_2)] 25 (0, 0))) ∧ Aside0 (w'.heap[gb285]? = some (.cells #[.int .i64 0, .int .i64 0, .string (⟨#[]⟩ : ByteArray)] 40 (0, 0))) ∧ Aside0 (w'.heap[gb288]? = some (.cells #[.int .i64 x289000_1, .int .i64 x289001_1, .string x289002_1] 40 (0, 0))) ∧ Aside0 (Below w.heap.size w w'))
 case atStart => exact ⟨(0), ((rd_T40 l0_1 0).f0), ((rd_T40 l0_1 0).f1), ((rd_T40 l0_1 0).f2), (by first | rfl | (simp; done) | (simp [*]; done)), H', ⟨Nat.le_refl _⟩, ⟨kz_⟩, ⟨kz_⟩, ⟨by (with_reducible repeat (first | refine blk_drewN ?_ _ | refine blk_drew ?_ | refine blk_alloc ?_ _)); refine blk_put (cs := #[.int .i64 ((rd_T40 l0_1 0).f0), .int .i64 ((rd_T40 l0_1 0).f1), .string (⟨#[]⟩ : ByteArray)]) ?_ 2 _ rfl; (with_reducible repeat (first | refine blk_drewN ?_ _ | refine blk_drew ?_ | refine blk_alloc ?_ _)); refine blk_put (cs := #[.int .i64 ((rd_T40 l0_1 0).f0), .int .i64 0, .string (⟨#[]⟩ : ByteArray)]) ?_ 1 _ rfl; (with_reducible repeat (first | refine blk_drewN ?_ _ | refine blk_drew ?_ | refine blk_alloc ?_ _)); refine blk_put (cs := #[.int .i64 0, .int .i64 0, .string (⟨#[]⟩ : ByteArray)]) ?_ 0 _ rfl; exact kb_ BK288.out⟩, ⟨bl_⟩⟩
 clear H'
 try clear c1
 try clear c2
 try clear p2
 try clear q2
 try clear hx2
 try clear qi2
 try clear c3
 try clear c4
 try clear c4b0
 try clear c4b1
 try clear c5
 try clear c7
 try clear c12
 try clear c13
 try clear hcz10_0
 try clear hcz10_1
 try clear hcz10_2
 try clear hcz14_0
 try clear hcz14_1
 try clear hcz14_2
 try clear hcz15_0
 try clear hcz15_1
 try clear hcz15_2
 try clear hcz8_0
 try clear hcz8_1
 try clear hcz8_2
 try clear hfz10_0
 try clear hfz10_1
 try clear hfz10_2
 try clear hfz14_0
 try clear hfz14_1
 try clear hfz14_2
 try clear hfz15_0
 try clear hfz15_1
 try clear hfz15_2
 try clear hfz8_0
 try clear hfz8_1
 try clear hfz8_2
 try clear hx287_0
 try clear hx287_1
 try clear hx287_2
 try clear p287
 try clear q287
 obtain ⟨x18_1, x289000_1, x289001_1, x289002_1, rfl, HA, HK1, BK284, BK285, BK288, HB⟩ := hrel
 cases gk with
 | zero => exact absurd HA.out (by simp [impl_NewestOf.l0])
 | succ k1 => ?_
 have H := HA.out
 clear HA
 simp only [impl_NewestOf.l0] at H
 by_cases c16 : x18_1 < (l0_1.length : Int)
 rotate_left
 ·rw [if_neg c16] at H
  have c16b0 : decide (x18_1 < (l0_1.length : Int)) = false := decide_eq_false c16
  clear c16
  simp only [Option.some.injEq, Prod.mk.injEq] at H
  obtain ⟨rfl, rfl, rfl, rfl⟩ := H
  have hnb41 := NB288_284.out
  have hnc41 := NB284_288.out
  have hnb42 := NB288_285.out
  have hnc42 := NB285_288.out
  have hcz43_0 : wr.cell? ⟨gb288, 0, none⟩ = some (.int .i64 x289000_1) := bc_ BK288.out 0
  have hcz43_1 : wr.cell? ⟨gb288, 1, none⟩ = some (.int .i64 x289001_1) := bc_ BK288.out 1
  have hcz43_2 : wr.cell? ⟨gb288, 2, none⟩ = some (.string x289002_1) := bc_ BK288.out 2
  have hfz43_0 := blk_frozen BK288.out 0
  have hfz43_1 := blk_frozen BK288.out 1
  have hfz43_2 := blk_frozen BK288.out 2
  have hnb44 := NB285_284.out
  have hnc44 := NB284_285.out
  have hcz45_0 : wr.cell? ⟨gb285, 0, none⟩ = some (.int .i64 0) := bc_ BK285.out 0
  have hcz45_1 : wr.cell? ⟨gb285, 1, none⟩ = some (.int .i64 0) := bc_ BK285.out 1
  have hcz45_2 : wr.cell? ⟨gb285, 2, none⟩ = some (.string (⟨#[]⟩ : ByteArray)) := bc_ BK285.out 2
  have hfz45_0 := blk_frozen BK285.out 0
  have hfz45_1 := blk_frozen BK285.out 1
  have hfz45_2 := blk_frozen BK285.out 2
  go_wp2
  refine bodyPost_ret (results_ct rfl _ _ gb285 40 #[.int .i64 x289000_1, .int .i64 x289001_1, .string x289002_1] (0, 0) _ rfl (by (with_reducible repeat (first | refine blk_drewN ?_ _ | refine blk_drew ?_ | refine blk_alloc ?_ _)); refine blk_put (cs := #[.int .i64 x289000_1, .int .i64 x289001_1, .string (⟨#[]⟩ : ByteArray)]) ?_ 2 _ rfl; (with_reducible repeat (first | refine blk_drewN ?_ _ | refine blk_drew ?_ | refine blk_alloc ?_ _)); refine blk_put (cs := #[.int .i64 x289000_1, .int .i64 0, .string (⟨#[]⟩ : ByteArray)]) ?_ 1 _ rfl; (with_reducible repeat (first | refine blk_drewN ?_ _ | refine blk_drew ?_ | refine blk_alloc ?_ _)); refine blk_put (cs := #[.int .i64 0, .int .i64 0, .string (⟨#[]⟩ : ByteArray)]) ?_ 0 _ rfl; exact kb_ BK285.out) Try.underlying40 rfl (by kernel_rfl)) rfl ?_
  exact ⟨ng_, bl_⟩
 rw [if_pos c16] at H
 have c16b0 : decide (x18_1 < (l0_1.length : Int)) = true := decide_eq_true c16
 clear c16
 by_cases c17 : 0 ≤ x18_1
 rotate_left
 ·rw [if_neg c17] at H
  exact absurd H (by simp)
 rw [if_pos c17] at H
 have c17b0 : decide (0 ≤ x18_1) = true := decide_eq_true c17
 clear c17
 by_cases c18 : x18_1 < (l0_1.length : Int)
 rotate_left
 ·rw [if_neg c18] at H
  exact absurd H (by simp)
 rw [if_pos c18] at H
 have c18b0 : decide (x18_1 < (l0_1.length : Int)) = true := decide_eq_true c18
 clear c18
 replace H := Option.bind_eq_some_iff.mp H
 obtain ⟨t291, A190, H⟩ := H
 replace H : (if t291 = true then (impl_NewestOf.l0 k1 l0_1 (l0_1.length : Int) (wrap64 (x18_1 + 1)) ((rd_T40 l0_1 x18_1).f0) ((rd_T40 l0_1 x18_1).f1) ((rd_T40 l0_1 x18_1).f2)) else (impl_NewestOf.l0 k1 l0_1 (l0_1.length : Int) (wrap64 (x18_1 + 1)) x289000_1 x289001_1 x289002_1)) = some (r1, r2, r3, r4) := H
 have A19 := Aside0.mk A190
 clear A190
 by_cases c20 : t291 = true
 rotate_left
 ·replace c20 := Bool.eq_false_iff.mpr c20
  subst c20
  have H1 : (impl_NewestOf.l0 k1 l0_1 (l0_1.length : Int) (wrap64 (x18_1 + 1)) x289000_1 x289001_1 x289002_1) = some (r1, r2, r3, r4) := by rw [if_neg (show ¬ (false = true) by decide)] at H; exact H
  clear H
  have H := H1
  clear H1
  have H' := Aside0.mk H
  clear H
  have p289 : 0 ≤ (x18_1 : Int) := of_decide_eq_true (by first | (with_reducible assumption) | assumption)
  have q289 : x18_1 < (l0_1.length : Int) := of_decide_eq_true (by first | (with_reducible assumption) | assumption)
  obtain ⟨ad289, e289, hx289_0, hx289_1, hx289_2⟩ := at_T40 HR0_1.out x18_1 p289 q289
  obtain rfl : ad287 = ad289 := (by injection e289)
  replace hx289_0 := (HB.out.cell (World.block_lt_of_cell? w _ hx289_0)).trans hx289_0
  replace hx289_1 := (HB.out.cell (World.block_lt_of_cell? w _ hx289_1)).trans hx289_1
  replace hx289_2 := (HB.out.cell (World.block_lt_of_cell? w _ hx289_2)).trans hx289_2
  replace p289 := eq_true p289
  replace q289 := eq_true q289
  go_wp2_with (first | ((with_reducible refine gate_dst (N := 6) rfl ?_); refine box_event rfl (N := 6) rfl (cs := #[.int .i64 0, .int .i64 0, .string (⟨#[]⟩ : ByteArray)]) (t := 40) gs_ ?_; intro gb290 hg w32 hbox hb; have BK290 := Aside0.mk (hbox); have GW290 := Aside0.mk ((by rw [hg]; exact bz_ : w.heap.size ≤ gb290)); have GE290 := GW290; replace HB := Aside0.mk (below_step bl_ hb); have NB284_290 := nl_ hg BK284; have NB290_284 := nm_ hg BK284; replace BK284 := bb_ BK284 hb; have NB285_290 := nl_ hg BK285; have NB290_285 := nm_ hg BK285; replace BK285 := bb_ BK285 hb; have NB288_290 := nl_ hg BK288; have NB290_288 := nm_ hg BK288; replace BK288 := bb_ BK288 hb; clear hb hbox hg; have hnb33 := NB290_284.out; have hnc33 := NB284_290.out; have hnb34 := NB290_285.out; have hnc34 := NB285_290.out; have hnb35 := NB290_288.out; have hnc35 := NB288_290.out; have hcz36_0 : w32.cell? ⟨gb290, 0, none⟩ = some (.int .i64 0) := bc_ BK290.out 0; have hcz36_1 : w32.cell? ⟨gb290, 1, none⟩ = some (.int .i64 0) := bc_ BK290.out 1; have hcz36_2 : w32.cell? ⟨gb290, 2, none⟩ = some (.string (⟨#[]⟩ : ByteArray)) := bc_ BK290.out 2; have hfz36_0 := blk_frozen BK290.out 0; have hfz36_1 := blk_frozen BK290.out 1; have hfz36_2 := blk_frozen BK290.out 2; have hnb37 := NB288_284.out; have hnc37 := NB284_288.out; have hnb38 := NB288_285.out; have hnc38 := NB285_288.out; have hcz39_0 : w32.cell? ⟨gb288, 0, none⟩ = some (.int .i64 x289000_1) := bc_ BK288.out 0; have hcz39_1 : w32.cell? ⟨gb288, 1, none⟩ = some (.int .i64 x289001_1) := bc_ BK288.out 1; have hcz39_2 : w32.cell? ⟨gb288, 2, none⟩ = some (.string x289002_1) := bc_ BK288.out 2; have hfz39_0 := blk_frozen BK288.out 0; have hfz39_1 := blk_frozen BK288.out 1; have hfz39_2 := blk_frozen BK288.out 2) | ((with_reducible refine gate_callee (f := 61) rfl ?_); refine goesL_ (some 24) rfl rfl Try.func61 (by kernel_rfl) rfl #[.agg #[.int .i64 ((rd_T40 l0_1 x18_1).f0), .int .i64 ((rd_T40 l0_1 x18_1).f1), .string ((rd_T40 l0_1 x18_1).f2)], .agg #[.int .i64 x289000_1, .int .i64 x289001_1, .string x289002_1]] rfl nc_ ?_; (with_reducible refine (impl_Copy_newer.calls ((rd_T40 l0_1 x18_1).f0) ((rd_T40 l0_1 x18_1).f1) ((rd_T40 l0_1 x18_1).f2) x289000_1 x289001_1 x289002_1 false _ A19.out).mono ?_); rintro e w40 ⟨rfl, hb⟩; refine ⟨_, rfl, ?_⟩; replace BK284 := Aside0.mk (blk_below (g := gb284) (o := .cells #[.int .i64 a0_0, .slice (some ad287) l0_1.length c0_1, .slice A0_2 l0_2.length c0_2] 25 (0, 0)) kz_ hb); replace BK285 := Aside0.mk (blk_below (g := gb285) (o := .cells #[.int .i64 0, .int .i64 0, .string (⟨#[]⟩ : ByteArray)] 40 (0, 0)) kz_ hb); replace BK288 := Aside0.mk (blk_below (g := gb288) (o := .cells #[.int .i64 x289000_1, .int .i64 x289001_1, .string x289002_1] 40 (0, 0)) kz_ hb); replace BK290 := Aside0.mk (blk_below (g := gb290) (o := .cells #[.int .i64 ((rd_T40 l0_1 x18_1).f0), .int .i64 ((rd_T40 l0_1 x18_1).f1), .string ((rd_T40 l0_1 x18_1).f2)] 40 (0, 0)) (by (with_reducible repeat (first | refine blk_drewN ?_ _ | refine blk_drew ?_ | refine blk_alloc ?_ _)); refine blk_put (cs := #[.int .i64 ((rd_T40 l0_1 x18_1).f0), .int .i64 ((rd_T40 l0_1 x18_1).f1), .string (⟨#[]⟩ : ByteArray)]) ?_ 2 _ rfl; (with_reducible repeat (first | refine blk_drewN ?_ _ | refine blk_drew ?_ | refine blk_alloc ?_ _)); refine blk_put (cs := #[.int .i64 ((rd_T40 l0_1 x18_1).f0), .int .i64 0, .string (⟨#[]⟩ : ByteArray)]) ?_ 1 _ rfl; (with_reducible repeat (first | refine blk_drewN ?_ _ | refine blk_drew ?_ | refine blk_alloc ?_ _)); refine blk_put (cs := #[.int .i64 0, .int .i64 0, .string (⟨#[]⟩ : ByteArray)]) ?_ 0 _ rfl; exact kb_ BK290.out) hb); replace HB := Aside0.mk (below_step bl_ hb); clear hb))
  go_roundg k1
  case measure => have := HK1.out; omega
  case rel => exact ⟨(wrap64 (x18_1 + 1)), (x289000_1), (x289001_1), (x289002_1), (by first | rfl | (simp; done) | (simp [*]; done)), H', ⟨by have := HK1.out; omega⟩, ⟨by exact kb_ BK284.out⟩, ⟨by exact kb_ BK285.out⟩, ⟨by exact kb_ BK288.out⟩, ⟨bl_⟩⟩
 subst c20
 have H1 : (impl_NewestOf.l0 k1 l0_1 (l0_1.length : Int) (wrap64 (x18_1 + 1)) ((rd_T40 l0_1 x18_1).f0) ((rd_T40 l0_1 x18_1).f1) ((rd_T40 l0_1 x18_1).f2)) = some (r1, r2, r3, r4) := by rw [if_pos rfl] at H; exact H
 clear H
 have H := H1
 clear H1
 have H' := Aside0.mk H
 clear H
 have p289 : 0 ≤ (x18_1 : Int) := of_decide_eq_true (by first | (with_reducible assumption) | assumption)
 have q289 : x18_1 < (l0_1.length : Int) := of_decide_eq_true (by first | (with_reducible assumption) | assumption)
 obtain ⟨ad289, e289, hx289_0, hx289_1, hx289_2⟩ := at_T40 HR0_1.out x18_1 p289 q289
 obtain rfl : ad287 = ad289 := (by injection e289)
 replace hx289_0 := (HB.out.cell (World.block_lt_of_cell? w _ hx289_0)).trans hx289_0
 replace hx289_1 := (HB.out.cell (World.block_lt_of_cell? w _ hx289_1)).trans hx289_1
 replace hx289_2 := (HB.out.cell (World.block_lt_of_cell? w _ hx289_2)).trans hx289_2
 replace p289 := eq_true p289
 replace q289 := eq_true q289
 go_wp2_with (first | ((with_reducible refine gate_dst (N := 6) rfl ?_); refine box_event rfl (N := 6) rfl (cs := #[.int .i64 0, .int .i64 0, .string (⟨#[]⟩ : ByteArray)]) (t := 40) gs_ ?_; intro gb290 hg w21 hbox hb; have BK290 := Aside0.mk (hbox); have GW290 := Aside0.mk ((by rw [hg]; exact bz_ : w.heap.size ≤ gb290)); have GE290 := GW290; replace HB := Aside0.mk (below_step bl_ hb); have NB284_290 := nl_ hg BK284; have NB290_284 := nm_ hg BK284; replace BK284 := bb_ BK284 hb; have NB285_290 := nl_ hg BK285; have NB290_285 := nm_ hg BK285; replace BK285 := bb_ BK285 hb; have NB288_290 := nl_ hg BK288; have NB290_288 := nm_ hg BK288; replace BK288 := bb_ BK288 hb; clear hb hbox hg; have hnb22 := NB290_284.out; have hnc22 := NB284_290.out; have hnb23 := NB290_285.out; have hnc23 := NB285_290.out; have hnb24 := NB290_288.out; have hnc24 := NB288_290.out; have hcz25_0 : w21.cell? ⟨gb290, 0, none⟩ = some (.int .i64 0) := bc_ BK290.out 0; have hcz25_1 : w21.cell? ⟨gb290, 1, none⟩ = some (.int .i64 0) := bc_ BK290.out 1; have hcz25_2 : w21.cell? ⟨gb290, 2, none⟩ = some (.string (⟨#[]⟩ : ByteArray)) := bc_ BK290.out 2; have hfz25_0 := blk_frozen BK290.out 0; have hfz25_1 := blk_frozen BK290.out 1; have hfz25_2 := blk_frozen BK290.out 2; have hnb26 := NB288_284.out; have hnc26 := NB284_288.out; have hnb27 := NB288_285.out; have hnc27 := NB285_288.out; have hcz28_0 : w21.cell? ⟨gb288, 0, none⟩ = some (.int .i64 x289000_1) := bc_ BK288.out 0; have hcz28_1 : w21.cell? ⟨gb288, 1, none⟩ = some (.int .i64 x289001_1) := bc_ BK288.out 1; have hcz28_2 : w21.cell? ⟨gb288, 2, none⟩ = some (.string x289002_1) := bc_ BK288.out 2; have hfz28_0 := blk_frozen BK288.out 0; have hfz28_1 := blk_frozen BK288.out 1; have hfz28_2 := blk_frozen BK288.out 2) | ((with_reducible refine gate_callee (f := 61) rfl ?_); refine goesL_ (some 24) rfl rfl Try.func61 (by kernel_rfl) rfl #[.agg #[.int .i64 ((rd_T40 l0_1 x18_1).f0), .int .i64 ((rd_T40 l0_1 x18_1).f1), .string ((rd_T40 l0_1 x18_1).f2)], .agg #[.int .i64 x289000_1, .int .i64 x289001_1, .string x289002_1]] rfl nc_ ?_; (with_reducible refine (impl_Copy_newer.calls ((rd_T40 l0_1 x18_1).f0) ((rd_T40 l0_1 x18_1).f1) ((rd_T40 l0_1 x18_1).f2) x289000_1 x289001_1 x289002_1 true _ A19.out).mono ?_); rintro e w29 ⟨rfl, hb⟩; refine ⟨_, rfl, ?_⟩; replace BK284 := Aside0.mk (blk_below (g := gb284) (o := .cells #[.int .i64 a0_0, .slice (some ad287) l0_1.length c0_1, .slice A0_2 l0_2.length c0_2] 25 (0, 0)) kz_ hb); replace BK285 := Aside0.mk (blk_below (g := gb285) (o := .cells #[.int .i64 0, .int .i64 0, .string (⟨#[]⟩ : ByteArray)] 40 (0, 0)) kz_ hb); replace BK288 := Aside0.mk (blk_below (g := gb288) (o := .cells #[.int .i64 x289000_1, .int .i64 x289001_1, .string x289002_1] 40 (0, 0)) kz_ hb); replace BK290 := Aside0.mk (blk_below (g := gb290) (o := .cells #[.int .i64 ((rd_T40 l0_1 x18_1).f0), .int .i64 ((rd_T40 l0_1 x18_1).f1), .string ((rd_T40 l0_1 x18_1).f2)] 40 (0, 0)) (by (with_reducible repeat (first | refine blk_drewN ?_ _ | refine blk_drew ?_ | refine blk_alloc ?_ _)); refine blk_put (cs := #[.int .i64 ((rd_T40 l0_1 x18_1).f0), .int .i64 ((rd_T40 l0_1 x18_1).f1), .string (⟨#[]⟩ : ByteArray)]) ?_ 2 _ rfl; (with_reducible repeat (first | refine blk_drewN ?_ _ | refine blk_drew ?_ | refine blk_alloc ?_ _)); refine blk_put (cs := #[.int .i64 ((rd_T40 l0_1 x18_1).f0), .int .i64 0, .string (⟨#[]⟩ : ByteArray)]) ?_ 1 _ rfl; (with_reducible repeat (first | refine blk_drewN ?_ _ | refine blk_drew ?_ | refine blk_alloc ?_ _)); refine blk_put (cs := #[.int .i64 0, .int .i64 0, .string (⟨#[]⟩ : ByteArray)]) ?_ 0 _ rfl; exact kb_ BK290.out) hb); replace HB := Aside0.mk (below_step bl_ hb); clear hb; have hcz30_0 : w29.cell? ⟨gb290, 0, none⟩ = some (.int .i64 ((rd_T40 l0_1 x18_1).f0)) := bc_ BK290.out 0; have hcz30_1 : w29.cell? ⟨gb290, 1, none⟩ = some (.int .i64 ((rd_T40 l0_1 x18_1).f1)) := bc_ BK290.out 1; have hcz30_2 : w29.cell? ⟨gb290, 2, none⟩ = some (.string ((rd_T40 l0_1 x18_1).f2)) := bc_ BK290.out 2; have hfz30_0 := blk_frozen BK290.out 0; have hfz30_1 := blk_frozen BK290.out 1; have hfz30_2 := blk_frozen BK290.out 2; have hcz31_0 : w29.cell? ⟨gb288, 0, none⟩ = some (.int .i64 x289000_1) := bc_ BK288.out 0; have hcz31_1 : w29.cell? ⟨gb288, 1, none⟩ = some (.int .i64 x289001_1) := bc_ BK288.out 1; have hcz31_2 : w29.cell? ⟨gb288, 2, none⟩ = some (.string x289002_1) := bc_ BK288.out 2; have hfz31_0 := blk_frozen BK288.out 0; have hfz31_1 := blk_frozen BK288.out 1; have hfz31_2 := blk_frozen BK288.out 2))
 go_roundg k1
 case measure => have := HK1.out; omega
 case rel => exact ⟨(wrap64 (x18_1 + 1)), ((rd_T40 l0_1 x18_1).f0), ((rd_T40 l0_1 x18_1).f1), ((rd_T40 l0_1 x18_1).f2), (by first | rfl | (simp; done) | (simp [*]; done)), H', ⟨by have := HK1.out; omega⟩, ⟨kz_⟩, ⟨kz_⟩, ⟨by (with_reducible repeat (first | refine blk_drewN ?_ _ | refine blk_drew ?_ | refine blk_alloc ?_ _)); refine blk_put (cs := #[.int .i64 ((rd_T40 l0_1 x18_1).f0), .int .i64 ((rd_T40 l0_1 x18_1).f1), .string x289002_1]) ?_ 2 _ rfl; (with_reducible repeat (first | refine blk_drewN ?_ _ | refine blk_drew ?_ | refine blk_alloc ?_ _)); refine blk_put (cs := #[.int .i64 ((rd_T40 l0_1 x18_1).f0), .int .i64 x289001_1, .string x289002_1]) ?_ 1 _ rfl; (with_reducible repeat (first | refine blk_drewN ?_ _ | refine blk_drew ?_ | refine blk_alloc ?_ _)); refine blk_put (cs := #[.int .i64 x289000_1, .int .i64 x289001_1, .string x289002_1]) ?_ 0 _ rfl; exact kb_ BK288.out⟩, ⟨bl_⟩⟩

end Go.Proofs.Ytipfikmbldgliaa.PRG
