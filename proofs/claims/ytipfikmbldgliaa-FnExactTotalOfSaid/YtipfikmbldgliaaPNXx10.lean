/- What this text proves: the machine calls of these functions return what the plain functions say. Conditions: as each theorem says. Printed by a program of this session out of the translation. -/
import Derived.Test.YtipfikmbldgliaaPNXx0
import Derived.Test.YtipfikmbldgliaaPNXx3
import Derived.Test.YtipfikmbldgliaaPNXx5
import Derived.Test.YtipfikmbldgliaaPNXx6
import Derived.Test.YtipfikmbldgliaaPNXx9
namespace Go.Proofs.Ytipfikmbldgliaa.PNX
open Go.RowKit Go.Proofs.YtipfikmbldgliaaW.PrintWords Go.Proofs.YtipfikmbldgliaaW.PrintLast Go.Proofs.YtipfikmbldgliaaW.PrintMore
attribute [local go_sem] max2_int min2_int max_two min_two max_three min_three max_four min_four   -- for this text's walks alone
set_option linter.unusedVariables false
set_option linter.unusedSimpArgs false

/-! ### impl_GoodNet: function 39 -/
def impl_GoodNet.f (k : Nat) (l0_0 : List (S92)) (l0_1 : List (S95)) : Option (Bool) := (impl_isNet.f k l0_0 l0_1).bind fun t255 => (some t255)
theorem impl_GoodNet.mono : ∀ a0 a1 k, LeO (impl_GoodNet.f k a0 a1) (impl_GoodNet.f (k + 1) a0 a1) := by
 intro a0 a1 k
 unfold impl_GoodNet.f
 repeat' first
   | (with_reducible exact impl_isNet.mono _ _ _)
   | (with_reducible exact LeO.refl _)
   | (with_reducible exact LeO.none _)
   | (with_reducible refine LeO.ite ?_ ?_)
   | (with_reducible refine LeO.bind ?_ (fun _ => ?_))
   | exact impl_isNet.mono _ _ _
   | exact LeO.none _
   | refine LeO.ite ?_ ?_
   | refine LeO.bind ?_ (fun _ => ?_)
set_option maxHeartbeats 8000000 in
set_option maxRecDepth 100000 in
theorem impl_GoodNet.calls (k : Nat) (A0_0 : Option Addr) (c0_0 : Nat) (l0_0 : List (S92)) (A0_1 : Option Addr) (c0_1 : Nat) (l0_1 : List (S95)) (r : Bool) (w : World) (hr0_0 : Kd.C k92 w A0_0 l0_0.length l0_0) (hc0_0 : l0_0.length ≤ c0_0) (hr0_1 : Kd.C k95 w A0_1 l0_1.length l0_1) (hc0_1 : l0_1.length ≤ c0_1) (h : impl_GoodNet.f k l0_0 l0_1 = some r) :
  Calls Try.prog 39 #[.agg #[.slice A0_0 l0_0.length c0_0, .slice A0_1 l0_1.length c0_1]] w fun e w' => e = .returned (.bool r) ∧ Below w.heap.size w w' := by
 have hu53 := Try.underlying53
 have HR0_0 := Aside0.mk hr0_0
 have HC0_0 := Aside0.mk hc0_0
 clear hr0_0 hc0_0
 have HR0_1 := Aside0.mk hr0_1
 have HC0_1 := Aside0.mk hc0_1
 clear hr0_1 hc0_1
 have HB := Aside0.mk (Below.refl w.heap.size w)
 have H : ((impl_isNet.f k l0_0 l0_1).bind fun t255 => (some t255)) = some r := h
 clear h
 replace H := Option.bind_eq_some_iff.mp H
 obtain ⟨t255, A20, H⟩ := H
 replace H : (some t255) = some r := H
 have A2 := Aside0.mk A20
 clear A20
 obtain rfl := Option.some.inj H
 go_enter Try.func39, Try.ntmps39
 go_wp2_with (first | ((with_reducible refine gate_dst (N := 1) rfl ?_); refine box_event rfl (N := 1) rfl (cs := #[.slice A0_0 l0_0.length c0_0, .slice A0_1 l0_1.length c0_1]) (t := 53) gs_ ?_; intro gb254 hg w3 hbox hb; have BK254 := Aside0.mk (hbox); have GW254 := Aside0.mk ((by rw [hg]; exact bz_ : w.heap.size ≤ gb254)); have GE254 := GW254; replace HB := Aside0.mk (below_step bl_ hb); clear hb hbox hg; have hcz4_0 : w3.cell? ⟨gb254, 0, none⟩ = some (.slice A0_0 l0_0.length c0_0) := bc_ BK254.out 0; have hcz4_1 : w3.cell? ⟨gb254, 1, none⟩ = some (.slice A0_1 l0_1.length c0_1) := bc_ BK254.out 1; have hfz4_0 := blk_frozen BK254.out 0; have hfz4_1 := blk_frozen BK254.out 1) | ((with_reducible refine gate_callee (f := 76) rfl ?_); refine goesL_ (some 4) rfl rfl Try.func76 (by kernel_rfl) rfl #[.agg #[.slice A0_0 l0_0.length c0_0, .slice A0_1 l0_1.length c0_1]] rfl nc_ ?_; (with_reducible refine (impl_isNet.calls k _ _ l0_0 _ _ l0_1 t255 _ ?side1 ?side2 ?side3 ?side4 A2.out).mono ?_); (case side1 => exact kc_ (Kd.C_below HR0_0.out HB.out)); (case side2 => exact HC0_0.out); (case side3 => exact kc_ (Kd.C_below HR0_1.out HB.out)); (case side4 => exact HC0_1.out); rintro e w5 ⟨rfl, hb⟩; refine ⟨_, rfl, ?_⟩; replace BK254 := bb_ BK254 hb; replace HB := Aside0.mk (below_step bl_ hb); clear hb))
 go_ret
 exact ⟨ng_, bl_⟩

/-! ### laws_FnExactGoodNet: function 8 -/
def laws_FnExactGoodNet.f (k : Nat) (l0_0 : List (S127)) (l0_1 : List (S125)) : Option (Bool) := (laws_szNet.f k l0_0 l0_1 1048576).bind fun t257 => (if t257 < 0 then (some true) else ((laws_toNet.f k l0_0 l0_1).bind fun bt258 => ((spec_GoodNet.f k bt258.1 bt258.2).bind fun t264 => ((laws_toNet.f k l0_0 l0_1).bind fun bt265 => ((impl_GoodNet.f k bt265.1 bt265.2).bind fun t272 => (if (t272 != t264) = true then (none) else ((laws_toNet.f k l0_0 l0_1).bind fun bt273 => ((laws_eqNet.f k bt265.1 bt265.2 bt273.1 bt273.2).bind fun t279 => (if t279 = true then (some true) else (none))))))))))
theorem laws_FnExactGoodNet.mono : ∀ a0 a1 k, LeO (laws_FnExactGoodNet.f k a0 a1) (laws_FnExactGoodNet.f (k + 1) a0 a1) := by
 intro a0 a1 k
 unfold laws_FnExactGoodNet.f
 repeat' first
   | (with_reducible exact impl_GoodNet.mono _ _ _)
   | (with_reducible exact laws_eqNet.mono _ _ _ _ _)
   | (with_reducible exact laws_szNet.mono _ _ _ _)
   | (with_reducible exact laws_toNet.mono _ _ _)
   | (with_reducible exact spec_GoodNet.mono _ _ _)
   | (with_reducible exact LeO.refl _)
   | (with_reducible exact LeO.none _)
   | (with_reducible refine LeO.ite ?_ ?_)
   | (with_reducible refine LeO.bind ?_ (fun _ => ?_))
   | exact impl_GoodNet.mono _ _ _
   | exact laws_eqNet.mono _ _ _ _ _
   | exact laws_szNet.mono _ _ _ _
   | exact laws_toNet.mono _ _ _
   | exact spec_GoodNet.mono _ _ _
   | exact LeO.none _
   | refine LeO.ite ?_ ?_
   | refine LeO.bind ?_ (fun _ => ?_)
set_option maxHeartbeats 8000000 in
set_option maxRecDepth 100000 in
theorem laws_FnExactGoodNet.calls (k : Nat) (A0_0 : Option Addr) (c0_0 : Nat) (l0_0 : List (S127)) (A0_1 : Option Addr) (c0_1 : Nat) (l0_1 : List (S125)) (r : Bool) (w : World) (hr0_0 : Kd.C k127 w A0_0 l0_0.length l0_0) (hc0_0 : l0_0.length ≤ c0_0) (hr0_1 : Kd.C k125 w A0_1 l0_1.length l0_1) (hc0_1 : l0_1.length ≤ c0_1) (h : laws_FnExactGoodNet.f k l0_0 l0_1 = some r) :
  Calls Try.prog 8 #[.agg #[.slice A0_0 l0_0.length c0_0, .slice A0_1 l0_1.length c0_1]] w fun e w' => e = .returned (.bool r) ∧ Below w.heap.size w w' := by
 have hu65 := Try.underlying65
 have hu53 := Try.underlying53
 have HR0_0 := Aside0.mk hr0_0
 have HC0_0 := Aside0.mk hc0_0
 clear hr0_0 hc0_0
 have HR0_1 := Aside0.mk hr0_1
 have HC0_1 := Aside0.mk hc0_1
 clear hr0_1 hc0_1
 have HB := Aside0.mk (Below.refl w.heap.size w)
 have H : ((laws_szNet.f k l0_0 l0_1 1048576).bind fun t257 => (if t257 < 0 then (some true) else ((laws_toNet.f k l0_0 l0_1).bind fun bt258 => ((spec_GoodNet.f k bt258.1 bt258.2).bind fun t264 => ((laws_toNet.f k l0_0 l0_1).bind fun bt265 => ((impl_GoodNet.f k bt265.1 bt265.2).bind fun t272 => (if (t272 != t264) = true then (none) else ((laws_toNet.f k l0_0 l0_1).bind fun bt273 => ((laws_eqNet.f k bt265.1 bt265.2 bt273.1 bt273.2).bind fun t279 => (if t279 = true then (some true) else (none))))))))))) = some r := h
 clear h
 replace H := Option.bind_eq_some_iff.mp H
 obtain ⟨t257, A20, H⟩ := H
 replace H : (if t257 < 0 then (some true) else ((laws_toNet.f k l0_0 l0_1).bind fun bt258 => ((spec_GoodNet.f k bt258.1 bt258.2).bind fun t264 => ((laws_toNet.f k l0_0 l0_1).bind fun bt265 => ((impl_GoodNet.f k bt265.1 bt265.2).bind fun t272 => (if (t272 != t264) = true then (none) else ((laws_toNet.f k l0_0 l0_1).bind fun bt273 => ((laws_eqNet.f k bt265.1 bt265.2 bt273.1 bt273.2).bind fun t279 => (if t279 = true then (some true) else (none)))))))))) = some r := H
 have A2 := Aside0.mk A20
 clear A20
 by_cases c3 : t257 < 0
 ·rw [if_pos c3] at H
  have c3b0 : decide (t257 < 0) = true := decide_eq_true c3
  clear c3
  obtain rfl := Option.some.inj H
  go_enter Try.func8, Try.ntmps8
  go_wp2_with (first | ((with_reducible refine gate_dst (N := 1) rfl ?_); refine box_event rfl (N := 1) rfl (cs := #[.slice A0_0 l0_0.length c0_0, .slice A0_1 l0_1.length c0_1]) (t := 65) gs_ ?_; intro gb256 hg w4 hbox hb; have BK256 := Aside0.mk (hbox); have GW256 := Aside0.mk ((by rw [hg]; exact bz_ : w.heap.size ≤ gb256)); have GE256 := GW256; replace HB := Aside0.mk (below_step bl_ hb); clear hb hbox hg; have hcz5_0 : w4.cell? ⟨gb256, 0, none⟩ = some (.slice A0_0 l0_0.length c0_0) := bc_ BK256.out 0; have hcz5_1 : w4.cell? ⟨gb256, 1, none⟩ = some (.slice A0_1 l0_1.length c0_1) := bc_ BK256.out 1; have hfz5_0 := blk_frozen BK256.out 0; have hfz5_1 := blk_frozen BK256.out 1) | ((with_reducible refine gate_callee (f := 36) rfl ?_); refine goesL_ (some 9) rfl rfl Try.func36 (by kernel_rfl) rfl #[.agg #[.slice A0_0 l0_0.length c0_0, .slice A0_1 l0_1.length c0_1], .int .i64 1048576] rfl nc_ ?_; (with_reducible refine (laws_szNet.calls k _ _ l0_0 _ _ l0_1 1048576 t257 _ ?side1 ?side2 ?side3 ?side4 A2.out).mono ?_); (case side1 => exact kc_ (Kd.C_below HR0_0.out HB.out)); (case side2 => exact HC0_0.out); (case side3 => exact kc_ (Kd.C_below HR0_1.out HB.out)); (case side4 => exact HC0_1.out); rintro e w6 ⟨rfl, hb⟩; refine ⟨_, rfl, ?_⟩; replace BK256 := bb_ BK256 hb; replace HB := Aside0.mk (below_step bl_ hb); clear hb))
  go_ret
  exact ⟨ng_, bl_⟩
 rw [if_neg c3] at H
 have c3b0 : decide (t257 < 0) = false := decide_eq_false c3
 clear c3
 replace H := Option.bind_eq_some_iff.mp H
 obtain ⟨⟨t258, t261⟩, A70, H⟩ := H
 replace H : ((spec_GoodNet.f k t258 t261).bind fun t264 => ((laws_toNet.f k l0_0 l0_1).bind fun bt265 => ((impl_GoodNet.f k bt265.1 bt265.2).bind fun t272 => (if (t272 != t264) = true then (none) else ((laws_toNet.f k l0_0 l0_1).bind fun bt273 => ((laws_eqNet.f k bt265.1 bt265.2 bt273.1 bt273.2).bind fun t279 => (if t279 = true then (some true) else (none)))))))) = some r := H
 have A7 := Aside0.mk A70
 clear A70
 replace H := Option.bind_eq_some_iff.mp H
 obtain ⟨t264, A80, H⟩ := H
 replace H : ((laws_toNet.f k l0_0 l0_1).bind fun bt265 => ((impl_GoodNet.f k bt265.1 bt265.2).bind fun t272 => (if (t272 != t264) = true then (none) else ((laws_toNet.f k l0_0 l0_1).bind fun bt273 => ((laws_eqNet.f k bt265.1 bt265.2 bt273.1 bt273.2).bind fun t279 => (if t279 = true then (some true) else (none))))))) = some r := H
 have A8 := Aside0.mk A80
 clear A80
 replace H := Option.bind_eq_some_iff.mp H
 obtain ⟨⟨t265, t268⟩, A90, H⟩ := H
 replace H : ((impl_GoodNet.f k t265 t268).bind fun t272 => (if (t272 != t264) = true then (none) else ((laws_toNet.f k l0_0 l0_1).bind fun bt273 => ((laws_eqNet.f k t265 t268 bt273.1 bt273.2).bind fun t279 => (if t279 = true then (some true) else (none)))))) = some r := H
 have A9 := Aside0.mk A90
 clear A90
 replace H := Option.bind_eq_some_iff.mp H
 obtain ⟨t272, A100, H⟩ := H
 replace H : (if (t272 != t264) = true then (none) else ((laws_toNet.f k l0_0 l0_1).bind fun bt273 => ((laws_eqNet.f k t265 t268 bt273.1 bt273.2).bind fun t279 => (if t279 = true then (some true) else (none))))) = some r := H
 have A10 := Aside0.mk A100
 clear A100
 by_cases c11 : (t272 != t264) = true
 ·rw [if_pos c11] at H
  exact absurd H (by simp)
 rw [if_neg c11] at H
 have c11b0 : (t272 != t264) = false := by simpa using c11
 (try (have c11b1 : decide (t272 = t264) = true := by simpa using c11))
 (try (have c11b2 : (t272 == t264) = true := by simpa using c11))
 clear c11
 replace H := Option.bind_eq_some_iff.mp H
 obtain ⟨⟨t273, t276⟩, A120, H⟩ := H
 replace H : ((laws_eqNet.f k t265 t268 t273 t276).bind fun t279 => (if t279 = true then (some true) else (none))) = some r := H
 have A12 := Aside0.mk A120
 clear A120
 replace H := Option.bind_eq_some_iff.mp H
 obtain ⟨t279, A130, H⟩ := H
 replace H : (if t279 = true then (some true) else (none)) = some r := H
 have A13 := Aside0.mk A130
 clear A130
 by_cases c14 : t279 = true
 rotate_left
 ·replace c14 := Bool.eq_false_iff.mpr c14
  subst c14
  have H1 : (none) = some r := by rw [if_neg (show ¬ (false = true) by decide)] at H; exact H
  clear H
  have H := H1
  clear H1
  exact absurd H (by simp)
 subst c14
 have H1 : (some true) = some r := by rw [if_pos rfl] at H; exact H
 clear H
 have H := H1
 clear H1
 obtain rfl := Option.some.inj H
 go_enter Try.func8, Try.ntmps8
 try go_wp2_with (first | ((with_reducible refine gate_dst (N := 1) rfl ?_); refine box_event rfl (N := 1) rfl (cs := #[.slice A0_0 l0_0.length c0_0, .slice A0_1 l0_1.length c0_1]) (t := 65) gs_ ?_; intro gb256 hg w15 hbox hb; have BK256 := Aside0.mk (hbox); have GW256 := Aside0.mk ((by rw [hg]; exact bz_ : w.heap.size ≤ gb256)); have GE256 := GW256; replace HB := Aside0.mk (below_step bl_ hb); clear hb hbox hg; have hcz16_0 : w15.cell? ⟨gb256, 0, none⟩ = some (.slice A0_0 l0_0.length c0_0) := bc_ BK256.out 0; have hcz16_1 : w15.cell? ⟨gb256, 1, none⟩ = some (.slice A0_1 l0_1.length c0_1) := bc_ BK256.out 1; have hfz16_0 := blk_frozen BK256.out 0; have hfz16_1 := blk_frozen BK256.out 1) | ((with_reducible refine gate_callee (f := 36) rfl ?_); refine goesL_ (some 9) rfl rfl Try.func36 (by kernel_rfl) rfl #[.agg #[.slice A0_0 l0_0.length c0_0, .slice A0_1 l0_1.length c0_1], .int .i64 1048576] rfl nc_ ?_; (with_reducible refine (laws_szNet.calls k _ _ l0_0 _ _ l0_1 1048576 t257 _ ?side1 ?side2 ?side3 ?side4 A2.out).mono ?_); (case side1 => exact kc_ (Kd.C_below HR0_0.out HB.out)); (case side2 => exact HC0_0.out); (case side3 => exact kc_ (Kd.C_below HR0_1.out HB.out)); (case side4 => exact HC0_1.out); rintro e w17 ⟨rfl, hb⟩; refine ⟨_, rfl, ?_⟩; replace BK256 := bb_ BK256 hb; replace HB := Aside0.mk (below_step bl_ hb); clear hb; have hcz18_0 : w17.cell? ⟨gb256, 0, none⟩ = some (.slice A0_0 l0_0.length c0_0) := bc_ BK256.out 0; have hcz18_1 : w17.cell? ⟨gb256, 1, none⟩ = some (.slice A0_1 l0_1.length c0_1) := bc_ BK256.out 1; have hfz18_0 := blk_frozen BK256.out 0; have hfz18_1 := blk_frozen BK256.out 1) | ((with_reducible refine gate_callee (f := 38) rfl ?_); refine goesL_ (some 13) rfl rfl Try.func38 (by kernel_rfl) rfl #[.agg #[.slice A0_0 l0_0.length c0_0, .slice A0_1 l0_1.length c0_1]] rfl nc_ ?_; (with_reducible refine (laws_toNet.calls k _ _ l0_0 _ _ l0_1 t258 t261 _ ?side1 ?side2 ?side3 ?side4 A7.out).mono ?_); (case side1 => exact kc_ (Kd.C_below HR0_0.out HB.out)); (case side2 => exact HC0_0.out); (case side3 => exact kc_ (Kd.C_below HR0_1.out HB.out)); (case side4 => exact HC0_1.out); rintro e w19 ⟨v259, v262, rfl, ho0, ho1, hb⟩; refine ⟨_, rfl, ?_⟩; have HO260 := Aside0.mk (Kd.R_lower ho0 bz_); have HO263 := Aside0.mk (Kd.S_lower ho1 bz_); replace BK256 := bb_ BK256 hb; replace HB := Aside0.mk (below_step bl_ hb); clear hb ho0 ho1; obtain ⟨Ao20, co20, eo20⟩ := Kd.R_slice HO260.out; subst eo20; obtain ⟨Ao21, co21, eo21⟩ := Kd.S_slice HO263.out; subst eo21) | ((with_reducible refine gate_callee (f := 37) rfl ?_); refine goesL_ (some 14) rfl rfl Try.func37 (by kernel_rfl) rfl #[.agg #[.slice Ao20 t258.length co20, .slice Ao21 t261.length co21]] rfl nc_ ?_; (with_reducible refine (spec_GoodNet.calls k _ _ t258 _ _ t261 t264 _ ?side1 ?side2 ?side3 ?side4 A8.out).mono ?_); (case side1 => exact kc_ (Kd.R_reads' HO260.out).2.2); (case side2 => exact (Kd.R_reads' HO260.out).2.1); (case side3 => exact kc_ (Kd.S_reads' HO263.out).2.2); (case side4 => exact (Kd.S_reads' HO263.out).2.1); rintro e w22 ⟨rfl, hb⟩; refine ⟨_, rfl, ?_⟩; replace HO260 := rb_ HO260 hb; replace HO263 := Aside0.mk (Kd.S_below (by (with_reducible repeat (first | apply Kd.S_alloc | apply Kd.S_drewN | apply Kd.S_drew)); exact HO263.out) hb); replace BK256 := bb_ BK256 hb; replace HB := Aside0.mk (below_step bl_ hb); clear hb; have hcz23_0 : w22.cell? ⟨gb256, 0, none⟩ = some (.slice A0_0 l0_0.length c0_0) := bc_ BK256.out 0; have hcz23_1 : w22.cell? ⟨gb256, 1, none⟩ = some (.slice A0_1 l0_1.length c0_1) := bc_ BK256.out 1; have hfz23_0 := blk_frozen BK256.out 0; have hfz23_1 := blk_frozen BK256.out 1) | ((with_reducible refine gate_callee (f := 38) rfl ?_); refine goesL_ (some 16) rfl rfl Try.func38 (by kernel_rfl) rfl #[.agg #[.slice A0_0 l0_0.length c0_0, .slice A0_1 l0_1.length c0_1]] rfl nc_ ?_; (with_reducible refine (laws_toNet.calls k _ _ l0_0 _ _ l0_1 t265 t268 _ ?side1 ?side2 ?side3 ?side4 A9.out).mono ?_); (case side1 => exact kc_ (Kd.C_below HR0_0.out HB.out)); (case side2 => exact HC0_0.out); (case side3 => exact kc_ (Kd.C_below HR0_1.out HB.out)); (case side4 => exact HC0_1.out); rintro e w24 ⟨v266, v269, rfl, ho0, ho1, hb⟩; refine ⟨_, rfl, ?_⟩; have HO267 := Aside0.mk (Kd.R_lower (rn_ ho0 HO260.out) bz_); replace HO260 := Aside0.mk (Kd.R_elder' (kr_ HO260.out) (Kd.R_base ho0) hb); have HO270 := Aside0.mk (Kd.S_lower (Kd.S_new' ho1 (Kd.S_lt (by (with_reducible repeat (first | apply Kd.S_alloc | apply Kd.S_drewN | apply Kd.S_drew)); exact HO263.out))) bz_); replace HO263 := Aside0.mk (Kd.S_elder' (by (with_reducible repeat (first | apply Kd.S_alloc | apply Kd.S_drewN | apply Kd.S_drew)); exact HO263.out) (Kd.S_base ho1) hb); replace BK256 := bb_ BK256 hb; replace HB := Aside0.mk (below_step bl_ hb); clear hb ho0 ho1) | ((with_reducible refine gate_dst (N := 5) rfl ?_); refine box_event rfl (N := 5) rfl (cs := #[.slice none 0 0, .slice none 0 0]) (t := 53) gs_ ?_; intro gb271 hg w25 hbox hb; replace HO260 := rb_ HO260 hb; replace HO263 := Aside0.mk (Kd.S_below (by (with_reducible repeat (first | apply Kd.S_alloc | apply Kd.S_drewN | apply Kd.S_drew)); exact HO263.out) hb); replace HO267 := rb_ HO267 hb; replace HO270 := Aside0.mk (Kd.S_below (by (with_reducible repeat (first | apply Kd.S_alloc | apply Kd.S_drewN | apply Kd.S_drew)); exact HO270.out) hb); have BK271 := Aside0.mk (hbox); have GW271 := Aside0.mk ((by rw [hg]; exact bz_ : w.heap.size ≤ gb271)); have GE271 := GW271; replace HB := Aside0.mk (below_step bl_ hb); have NB256_271 := nl_ hg BK256; have NB271_256 := nm_ hg BK256; replace BK256 := bb_ BK256 hb; clear hb hbox hg; obtain ⟨Ao26, co26, eo26⟩ := Kd.R_slice HO267.out; subst eo26; have hnb27 := NB271_256.out; have hnc27 := NB256_271.out; have hcz28_0 : w25.cell? ⟨gb271, 0, none⟩ = some (.slice none 0 0) := bc_ BK271.out 0; have hcz28_1 : w25.cell? ⟨gb271, 1, none⟩ = some (.slice none 0 0) := bc_ BK271.out 1; have hfz28_0 := blk_frozen BK271.out 0; have hfz28_1 := blk_frozen BK271.out 1; obtain ⟨Ao29, co29, eo29⟩ := Kd.S_slice HO270.out; subst eo29) | ((with_reducible refine gate_callee (f := 39) rfl ?_); refine goesL_ (some 18) rfl rfl Try.func39 (by kernel_rfl) rfl #[.agg #[.slice Ao26 t265.length co26, .slice Ao29 t268.length co29]] rfl nc_ ?_; (with_reducible refine (impl_GoodNet.calls k _ _ t265 _ _ t268 t272 _ ?side1 ?side2 ?side3 ?side4 A10.out).mono ?_); (case side1 => exact (Kd.R_reads' (kr_ (rs2_ HO267.out BK271.out (.slice Ao26 t265.length co26) (.slice Ao29 t268.length co29)))).2.2); (case side2 => exact (Kd.R_reads' HO267.out).2.1); (case side3 => refine (Kd.S_reads' (e := 95) (base := w.heap.size) (ok := fun k_ => (True ∧ some k_ ≠ (.slice Ao21 t261.length co21 : Value).ownBlock)) (n := t268.length) (c := co29) ?_).2.2; exact (by (with_reducible repeat (first | apply Kd.S_alloc | apply Kd.S_drewN | apply Kd.S_drew)); exact (Kd.S_mono (Kd.S_far (p := ⟨gb271, 1, none⟩) (Kd.S_far (p := ⟨gb271, 0, none⟩) (Kd.S_types HO270.out BK271.out (by decide)) (fun _ hk => hk.2) (.slice Ao26 t265.length co26)) (fun _ hk => hk.2) (.slice Ao29 t268.length co29)) (fun _ h_ => h_.1)))); (case side4 => exact (Kd.S_reads' HO270.out).2.1); rintro e w30 ⟨rfl, hb⟩; refine ⟨_, rfl, ?_⟩; replace HO260 := Aside0.mk (Kd.R_below (kr_ (rs2_ HO260.out BK271.out (.slice Ao26 t265.length co26) (.slice Ao29 t268.length co29))) hb); replace HO263 := Aside0.mk (Kd.S_below (by (with_reducible repeat (first | apply Kd.S_alloc | apply Kd.S_drewN | apply Kd.S_drew)); exact (Kd.S_mono (Kd.S_far (p := ⟨gb271, 1, none⟩) (Kd.S_far (p := ⟨gb271, 0, none⟩) (Kd.S_types HO263.out BK271.out (by decide)) (fun _ hk => hk.2) (.slice Ao26 t265.length co26)) (fun _ hk => hk.2) (.slice Ao29 t268.length co29)) (fun _ h_ => h_.1))) hb); replace HO267 := Aside0.mk (Kd.R_below (kr_ (rs2_ HO267.out BK271.out (.slice Ao26 t265.length co26) (.slice Ao29 t268.length co29))) hb); replace HO270 := Aside0.mk (Kd.S_below (by (with_reducible repeat (first | apply Kd.S_alloc | apply Kd.S_drewN | apply Kd.S_drew)); exact (Kd.S_mono (Kd.S_far (p := ⟨gb271, 1, none⟩) (Kd.S_far (p := ⟨gb271, 0, none⟩) (Kd.S_types HO270.out BK271.out (by decide)) (fun _ hk => hk.2) (.slice Ao26 t265.length co26)) (fun _ hk => hk.2) (.slice Ao29 t268.length co29)) (fun _ h_ => h_.1))) hb); replace BK256 := Aside0.mk (blk_below (g := gb256) (o := .cells #[.slice A0_0 l0_0.length c0_0, .slice A0_1 l0_1.length c0_1] 65 (0, 0)) kz_ hb); replace BK271 := Aside0.mk (blk_below (g := gb271) (o := .cells #[.slice Ao26 t265.length co26, .slice Ao29 t268.length co29] 53 (0, 0)) (by (with_reducible repeat (first | refine blk_drewN ?_ _ | refine blk_drew ?_ | refine blk_alloc ?_ _)); refine blk_put (cs := #[.slice Ao26 t265.length co26, .slice none 0 0]) ?_ 1 _ rfl; (with_reducible repeat (first | refine blk_drewN ?_ _ | refine blk_drew ?_ | refine blk_alloc ?_ _)); refine blk_put (cs := #[.slice none 0 0, .slice none 0 0]) ?_ 0 _ rfl; exact kb_ BK271.out) hb); replace HB := Aside0.mk (below_step bl_ hb); clear hb))
 replace HO260 := Aside0.mk (Kd.R_drew HO260.out)
 replace HO263 := Aside0.mk (Kd.S_drew HO263.out)
 replace HO267 := Aside0.mk (Kd.R_drew HO267.out)
 replace HO270 := Aside0.mk (Kd.S_drew HO270.out)
 replace BK256 := Aside0.mk (blk_drew BK256.out)
 replace BK271 := Aside0.mk (blk_drew BK271.out)
 replace HB := Aside0.mk (below_drew1 HB.out)
 refine start_ (n := 5) (S := fun w' => w'.cell? ⟨gb271, 0, none⟩ = some (.slice Ao26 t265.length co26) ∧ w'.cell? ⟨gb271, 1, none⟩ = some (.slice Ao29 t268.length co29) ∧ w'.cell? ⟨gb256, 0, none⟩ = some (.slice A0_0 l0_0.length c0_0) ∧ w'.cell? ⟨gb256, 1, none⟩ = some (.slice A0_1 l0_1.length c0_1)) (ds := []) #[false, false, false, false, false] (by kernel_rfl) rfl rfl ⟨bc_ BK271.out 0, bc_ BK271.out 1, bc_ BK256.out 0, bc_ BK256.out 1⟩ (fun hHeld => ?_)
 generalize w30.drew = w31 at HO260 HO263 HO267 HO270 BK256 BK271 HB hHeld ⊢
 refine tk4_ 0 (some 22) (h := ?_)
 refine tk4_ 1 (some 23) (h := ?_)
 refine on_ 2 (some 24) (h := fun K hK => ?_)
 refine goes_ Try.func38 (by kernel_rfl) rfl #[.agg #[.slice A0_0 l0_0.length c0_0, .slice A0_1 l0_1.length c0_1]] (by rfl) rfl rfl nc_ ?_
 with_reducible refine (laws_toNet.calls k _ _ l0_0 _ _ l0_1 t273 t276 _ ?side1 ?side2 ?side3 ?side4 A12.out).mono ?_
 (case side1 => exact kc_ (Kd.C_below HR0_0.out HB.out))
 (case side2 => exact HC0_0.out)
 (case side3 => exact kc_ (Kd.C_below HR0_1.out HB.out))
 (case side4 => exact HC0_1.out)
 rintro e w32 ⟨v274, v277, rfl, ho0, ho1, hb⟩
 refine ⟨_, rfl, ?_⟩
 have HO275 := Aside0.mk (Kd.R_lower (rn_ (rn_ ho0 HO260.out) HO267.out) bz_)
 replace HO260 := Aside0.mk (Kd.R_elder' (kr_ HO260.out) (Kd.R_base ho0) hb)
 replace HO267 := Aside0.mk (Kd.R_elder' (kr_ HO267.out) (Kd.R_base ho0) hb)
 have HO278 := Aside0.mk (Kd.S_lower (Kd.S_new' (Kd.S_new' ho1 (Kd.S_lt (by (with_reducible repeat (first | apply Kd.S_alloc | apply Kd.S_drewN | apply Kd.S_drew)); exact HO263.out))) (Kd.S_lt (by (with_reducible repeat (first | apply Kd.S_alloc | apply Kd.S_drewN | apply Kd.S_drew)); exact HO270.out))) bz_)
 replace HO263 := Aside0.mk (Kd.S_elder' (by (with_reducible repeat (first | apply Kd.S_alloc | apply Kd.S_drewN | apply Kd.S_drew)); exact HO263.out) (Kd.S_base ho1) hb)
 replace HO270 := Aside0.mk (Kd.S_elder' (by (with_reducible repeat (first | apply Kd.S_alloc | apply Kd.S_drewN | apply Kd.S_drew)); exact HO270.out) (Kd.S_base ho1) hb)
 replace BK256 := bb_ BK256 hb
 replace BK271 := bb_ BK271 hb
 replace HB := Aside0.mk (below_step bl_ hb)
 clear hb ho0 ho1
 obtain ⟨Ao33, co33, eo33⟩ := Kd.R_slice HO275.out
 (first | subst eo33 | (injection eo33 with f1_ f2_ f3_; have f4_ := f1_.symm; have f5_ := f3_.symm; clear f1_ f2_ f3_; subst f4_; subst f5_))
 obtain ⟨Ao34, co34, eo34⟩ := Kd.S_slice HO278.out
 (first | subst eo34 | (injection eo34 with f1_ f2_ f3_; have f4_ := f1_.symm; have f5_ := f3_.symm; clear f1_ f2_ f3_; subst f4_; subst f5_))
 refine hK.out _ _ ⟨bc_ BK271.out 0, bc_ BK271.out 1, bc_ BK256.out 0, bc_ BK256.out 1⟩ (fun hHeld => ?_)
 clear hK K
 refine norm_ nn_ ?_
 refine on_ 3 (some 25) (h := fun K hK => ?_)
 refine goes_ Try.func31 (by kernel_rfl) rfl #[.agg #[.slice Ao26 t265.length co26, .slice Ao29 t268.length co29], .agg #[.slice Ao33 t273.length co33, .slice Ao34 t276.length co34]] (by rfl) rfl rfl nc_ ?_
 with_reducible refine (laws_eqNet.calls k _ _ t265 _ _ t268 _ _ t273 _ _ t276 true _ ?side1 ?side2 ?side3 ?side4 ?side5 ?side6 ?side7 ?side8 A13.out).mono ?_
 (case side1 => exact kc_ (Kd.R_reads' HO267.out).2.2)
 (case side2 => exact (Kd.R_reads' HO267.out).2.1)
 (case side3 => exact kc_ (Kd.S_reads' HO270.out).2.2)
 (case side4 => exact (Kd.S_reads' HO270.out).2.1)
 (case side5 => exact kc_ (Kd.R_reads' HO275.out).2.2)
 (case side6 => exact (Kd.R_reads' HO275.out).2.1)
 (case side7 => exact kc_ (Kd.S_reads' HO278.out).2.2)
 (case side8 => exact (Kd.S_reads' HO278.out).2.1)
 rintro e w35 ⟨rfl, hb⟩
 refine ⟨_, rfl, ?_⟩
 replace HO260 := rb_ HO260 hb
 replace HO263 := Aside0.mk (Kd.S_below (by (with_reducible repeat (first | apply Kd.S_alloc | apply Kd.S_drewN | apply Kd.S_drew)); exact HO263.out) hb)
 replace HO267 := rb_ HO267 hb
 replace HO270 := Aside0.mk (Kd.S_below (by (with_reducible repeat (first | apply Kd.S_alloc | apply Kd.S_drewN | apply Kd.S_drew)); exact HO270.out) hb)
 replace HO275 := rb_ HO275 hb
 replace HO278 := Aside0.mk (Kd.S_below (by (with_reducible repeat (first | apply Kd.S_alloc | apply Kd.S_drewN | apply Kd.S_drew)); exact HO278.out) hb)
 replace BK256 := bb_ BK256 hb
 replace BK271 := bb_ BK271 hb
 replace HB := Aside0.mk (below_step bl_ hb)
 clear hb
 refine hK.out _ _ ⟨bc_ BK271.out 0, bc_ BK271.out 1, bc_ BK256.out 0, bc_ BK256.out 1⟩ (fun hHeld => ?_)
 clear hK K
 refine norm_ nn_ ?_
 refine pu_ 4 (some 26) (h := ?_)
 refine done_ (by kernel_rfl) ?_
 try go_wp2
 go_ret
 exact ⟨ng_, bl_⟩

/-! ### spec_TotalOf: function 40 -/
mutual
def spec_TotalOf.l0 : Nat → Int → List (S92) → Int → Int → List (S92) → List (S95) → Option (Int × Bool)
 | 0, _, _, _, _, _, _ => none
 | k + 1, x4, x15, x16, x17, x281000, x281001 => if x17 < x16 then (if 0 ≤ x17 then (if x17 < (x15.length : Int) then (spec_TotalOf.l0 k (wrap64 (x4 + ((rd_T92 x15 x17).f0))) x15 x16 (wrap64 (x17 + 1)) x281000 x281001) else (none)) else (none)) else (spec_TotalOf.l1 k x4 x281001 (x281001.length : Int) 0)
def spec_TotalOf.l1 : Nat → Int → List (S95) → Int → Int → Option (Int × Bool)
 | 0, _, _, _, _ => none
 | k + 1, x4, x27, x28, x29 => if x29 < x28 then (if 0 ≤ x29 then (if x29 < (x27.length : Int) then (spec_TotalOf.l2 k x4 x27 x28 x29 ((rd_T95 x27 x29).f2) (((rd_T95 x27 x29).f2).length : Int) 0) else (none)) else (none)) else (some (x4, true))
def spec_TotalOf.l2 : Nat → Int → List (S95) → Int → Int → List (S103) → Int → Int → Option (Int × Bool)
 | 0, _, _, _, _, _, _, _ => none
 | k + 1, x4, x27, x28, x29, x34, x35, x36 => if x36 < x35 then (if 0 ≤ x36 then (if x36 < (x34.length : Int) then (spec_TotalOf.l2 k (wrap64 (x4 + ((rd_T103 x34 x36).f1))) x27 x28 x29 x34 x35 (wrap64 (x36 + 1))) else (none)) else (none)) else (spec_TotalOf.l1 k x4 x27 x28 (wrap64 (x29 + 1)))
end
def spec_TotalOf.f (k : Nat) (l0_0 : List (S92)) (l0_1 : List (S95)) : Option (Int × Bool) := (spec_GoodNet.f k l0_0 l0_1).bind fun t281 => (if t281 = true then (spec_TotalOf.l0 k 0 l0_0 (l0_0.length : Int) 0 l0_0 l0_1) else (some (0, false)))
theorem spec_TotalOf.mono_l : ∀ k, (∀ y0 y1 y2 y3 y4 y5, LeO (spec_TotalOf.l0 k y0 y1 y2 y3 y4 y5) (spec_TotalOf.l0 (k + 1) y0 y1 y2 y3 y4 y5)) ∧ (∀ y0 y1 y2 y3, LeO (spec_TotalOf.l1 k y0 y1 y2 y3) (spec_TotalOf.l1 (k + 1) y0 y1 y2 y3)) ∧ (∀ y0 y1 y2 y3 y4 y5 y6, LeO (spec_TotalOf.l2 k y0 y1 y2 y3 y4 y5 y6) (spec_TotalOf.l2 (k + 1) y0 y1 y2 y3 y4 y5 y6))
 | 0 => ⟨fun _ _ _ _ _ _ r h => by simp [spec_TotalOf.l0] at h, fun _ _ _ _ r h => by simp [spec_TotalOf.l1] at h, fun _ _ _ _ _ _ _ r h => by simp [spec_TotalOf.l2] at h⟩
 | k + 1 => by
  obtain ⟨ih0, ih1, ih2⟩ := spec_TotalOf.mono_l k
  refine ⟨?_, ?_, ?_⟩
  ·intro y0 y1 y2 y3 y4 y5
   unfold spec_TotalOf.l0
   repeat' first
   | (with_reducible exact ih0 _ _ _ _ _ _)
   | (with_reducible exact ih1 _ _ _ _)
   | (with_reducible exact ih2 _ _ _ _ _ _ _)
   | (with_reducible exact spec_GoodNet.mono _ _ _)
   | (with_reducible exact LeO.refl _)
   | (with_reducible exact LeO.none _)
   | (with_reducible refine LeO.ite ?_ ?_)
   | (with_reducible refine LeO.bind ?_ (fun _ => ?_))
   | exact ih0 _ _ _ _ _ _
   | exact ih1 _ _ _ _
   | exact ih2 _ _ _ _ _ _ _
   | exact spec_GoodNet.mono _ _ _
   | exact LeO.none _
   | refine LeO.ite ?_ ?_
   | refine LeO.bind ?_ (fun _ => ?_)
  ·intro y0 y1 y2 y3
   unfold spec_TotalOf.l1
   repeat' first
   | (with_reducible exact ih0 _ _ _ _ _ _)
   | (with_reducible exact ih1 _ _ _ _)
   | (with_reducible exact ih2 _ _ _ _ _ _ _)
   | (with_reducible exact spec_GoodNet.mono _ _ _)
   | (with_reducible exact LeO.refl _)
   | (with_reducible exact LeO.none _)
   | (with_reducible refine LeO.ite ?_ ?_)
   | (with_reducible refine LeO.bind ?_ (fun _ => ?_))
   | exact ih0 _ _ _ _ _ _
   | exact ih1 _ _ _ _
   | exact ih2 _ _ _ _ _ _ _
   | exact spec_GoodNet.mono _ _ _
   | exact LeO.none _
   | refine LeO.ite ?_ ?_
   | refine LeO.bind ?_ (fun _ => ?_)
  ·intro y0 y1 y2 y3 y4 y5 y6
   unfold spec_TotalOf.l2
   repeat' first
   | (with_reducible exact ih0 _ _ _ _ _ _)
   | (with_reducible exact ih1 _ _ _ _)
   | (with_reducible exact ih2 _ _ _ _ _ _ _)
   | (with_reducible exact spec_GoodNet.mono _ _ _)
   | (with_reducible exact LeO.refl _)
   | (with_reducible exact LeO.none _)
   | (with_reducible refine LeO.ite ?_ ?_)
   | (with_reducible refine LeO.bind ?_ (fun _ => ?_))
   | exact ih0 _ _ _ _ _ _
   | exact ih1 _ _ _ _
   | exact ih2 _ _ _ _ _ _ _
   | exact spec_GoodNet.mono _ _ _
   | exact LeO.none _
   | refine LeO.ite ?_ ?_
   | refine LeO.bind ?_ (fun _ => ?_)
theorem spec_TotalOf.mono : ∀ a0 a1 k, LeO (spec_TotalOf.f k a0 a1) (spec_TotalOf.f (k + 1) a0 a1) := by
 intro a0 a1 k
 obtain ⟨ih0, ih1, ih2⟩ := spec_TotalOf.mono_l k
 unfold spec_TotalOf.f
 repeat' first
   | (with_reducible exact ih0 _ _ _ _ _ _)
   | (with_reducible exact ih1 _ _ _ _)
   | (with_reducible exact ih2 _ _ _ _ _ _ _)
   | (with_reducible exact spec_GoodNet.mono _ _ _)
   | (with_reducible exact LeO.refl _)
   | (with_reducible exact LeO.none _)
   | (with_reducible refine LeO.ite ?_ ?_)
   | (with_reducible refine LeO.bind ?_ (fun _ => ?_))
   | exact ih0 _ _ _ _ _ _
   | exact ih1 _ _ _ _
   | exact ih2 _ _ _ _ _ _ _
   | exact spec_GoodNet.mono _ _ _
   | exact LeO.none _
   | refine LeO.ite ?_ ?_
   | refine LeO.bind ?_ (fun _ => ?_)
set_option maxHeartbeats 8000000 in
set_option maxRecDepth 100000 in
theorem spec_TotalOf.calls (k : Nat) (A0_0 : Option Addr) (c0_0 : Nat) (l0_0 : List (S92)) (A0_1 : Option Addr) (c0_1 : Nat) (l0_1 : List (S95)) (r1 : Int) (r2 : Bool) (w : World) (hr0_0 : Kd.C k92 w A0_0 l0_0.length l0_0) (hc0_0 : l0_0.length ≤ c0_0) (hr0_1 : Kd.C k95 w A0_1 l0_1.length l0_1) (hc0_1 : l0_1.length ≤ c0_1) (h : spec_TotalOf.f k l0_0 l0_1 = some (r1, r2)) :
  Calls Try.prog 40 #[.agg #[.slice A0_0 l0_0.length c0_0, .slice A0_1 l0_1.length c0_1]] w fun e w' => e = .returned (.tuple #[.int .i64 r1, .bool r2]) ∧ Below w.heap.size w w' := by
 have hu53 := Try.underlying53
 have hu92 := Try.underlying92
 have hu95 := Try.underlying95
 have hu103 := Try.underlying103
 have HR0_0 := Aside0.mk hr0_0
 have HC0_0 := Aside0.mk hc0_0
 clear hr0_0 hc0_0
 have HR0_1 := Aside0.mk hr0_1
 have HC0_1 := Aside0.mk hc0_1
 clear hr0_1 hc0_1
 have HB := Aside0.mk (Below.refl w.heap.size w)
 have H : ((spec_GoodNet.f k l0_0 l0_1).bind fun t281 => (if t281 = true then (spec_TotalOf.l0 k 0 l0_0 (l0_0.length : Int) 0 l0_0 l0_1) else (some (0, false)))) = some (r1, r2) := h
 clear h
 replace H := Option.bind_eq_some_iff.mp H
 obtain ⟨t281, A20, H⟩ := H
 replace H : (if t281 = true then (spec_TotalOf.l0 k 0 l0_0 (l0_0.length : Int) 0 l0_0 l0_1) else (some (0, false))) = some (r1, r2) := H
 have A2 := Aside0.mk A20
 clear A20
 by_cases c3 : t281 = true
 rotate_left
 ·replace c3 := Bool.eq_false_iff.mpr c3
  subst c3
  have H1 : (some (0, false)) = some (r1, r2) := by rw [if_neg (show ¬ (false = true) by decide)] at H; exact H
  clear H
  have H := H1
  clear H1
  simp only [Option.some.injEq, Prod.mk.injEq] at H
  obtain ⟨rfl, rfl⟩ := H
  go_enter Try.func40, Try.ntmps40
  go_wp2_with (first | ((with_reducible refine gate_dst (N := 1) rfl ?_); refine box_event rfl (N := 1) rfl (cs := #[.slice A0_0 l0_0.length c0_0, .slice A0_1 l0_1.length c0_1]) (t := 53) gs_ ?_; intro gb280 hg w28 hbox hb; have BK280 := Aside0.mk (hbox); have GW280 := Aside0.mk ((by rw [hg]; exact bz_ : w.heap.size ≤ gb280)); have GE280 := GW280; replace HB := Aside0.mk (below_step bl_ hb); clear hb hbox hg; have hcz29_0 : w28.cell? ⟨gb280, 0, none⟩ = some (.slice A0_0 l0_0.length c0_0) := bc_ BK280.out 0; have hcz29_1 : w28.cell? ⟨gb280, 1, none⟩ = some (.slice A0_1 l0_1.length c0_1) := bc_ BK280.out 1; have hfz29_0 := blk_frozen BK280.out 0; have hfz29_1 := blk_frozen BK280.out 1) | ((with_reducible refine gate_callee (f := 37) rfl ?_); refine goesL_ (some 12) rfl rfl Try.func37 (by kernel_rfl) rfl #[.agg #[.slice A0_0 l0_0.length c0_0, .slice A0_1 l0_1.length c0_1]] rfl nc_ ?_; (with_reducible refine (spec_GoodNet.calls k _ _ l0_0 _ _ l0_1 false _ ?side1 ?side2 ?side3 ?side4 A2.out).mono ?_); (case side1 => exact kc_ (Kd.C_below HR0_0.out HB.out)); (case side2 => exact HC0_0.out); (case side3 => exact kc_ (Kd.C_below HR0_1.out HB.out)); (case side4 => exact HC0_1.out); rintro e w30 ⟨rfl, hb⟩; refine ⟨_, rfl, ?_⟩; replace BK280 := bb_ BK280 hb; replace HB := Aside0.mk (below_step bl_ hb); clear hb))
  go_ret2
  exact ⟨ng_, bl_⟩
 subst c3
 have H1 : (spec_TotalOf.l0 k 0 l0_0 (l0_0.length : Int) 0 l0_0 l0_1) = some (r1, r2) := by rw [if_pos rfl] at H; exact H
 clear H
 have H := H1
 clear H1
 have H' := Aside0.mk H
 clear H
 go_enter Try.func40, Try.ntmps40
 go_wp2_with (first | ((with_reducible refine gate_dst (N := 1) rfl ?_); refine box_event rfl (N := 1) rfl (cs := #[.slice A0_0 l0_0.length c0_0, .slice A0_1 l0_1.length c0_1]) (t := 53) gs_ ?_; intro gb280 hg w4 hbox hb; have BK280 := Aside0.mk (hbox); have GW280 := Aside0.mk ((by rw [hg]; exact bz_ : w.heap.size ≤ gb280)); have GE280 := GW280; replace HB := Aside0.mk (below_step bl_ hb); clear hb hbox hg; have hcz5_0 : w4.cell? ⟨gb280, 0, none⟩ = some (.slice A0_0 l0_0.length c0_0) := bc_ BK280.out 0; have hcz5_1 : w4.cell? ⟨gb280, 1, none⟩ = some (.slice A0_1 l0_1.length c0_1) := bc_ BK280.out 1; have hfz5_0 := blk_frozen BK280.out 0; have hfz5_1 := blk_frozen BK280.out 1) | ((with_reducible refine gate_callee (f := 37) rfl ?_); refine goesL_ (some 12) rfl rfl Try.func37 (by kernel_rfl) rfl #[.agg #[.slice A0_0 l0_0.length c0_0, .slice A0_1 l0_1.length c0_1]] rfl nc_ ?_; (with_reducible refine (spec_GoodNet.calls k _ _ l0_0 _ _ l0_1 true _ ?side1 ?side2 ?side3 ?side4 A2.out).mono ?_); (case side1 => exact kc_ (Kd.C_below HR0_0.out HB.out)); (case side2 => exact HC0_0.out); (case side3 => exact kc_ (Kd.C_below HR0_1.out HB.out)); (case side4 => exact HC0_1.out); rintro e w6 ⟨rfl, hb⟩; refine ⟨_, rfl, ?_⟩; replace BK280 := bb_ BK280 hb; replace HB := Aside0.mk (below_step bl_ hb); clear hb; have hcz7_0 : w6.cell? ⟨gb280, 0, none⟩ = some (.slice A0_0 l0_0.length c0_0) := bc_ BK280.out 0; have hcz7_1 : w6.cell? ⟨gb280, 1, none⟩ = some (.slice A0_1 l0_1.length c0_1) := bc_ BK280.out 1; have hfz7_0 := blk_frozen BK280.out 0; have hfz7_1 := blk_frozen BK280.out 1))
 go_loopg [4, 17] k (fun kq v4 v17 w' => ∃ (x4_1 : Int) (x17_1 : Int), v4 = .int .i64 x4_1 ∧ v17 = .int .i64 x17_1 ∧ Aside0 (spec_TotalOf.l0 kq x4_1 l0_0 (l0_0.length : Int) x17_1 l0_0 l0_1 = some (r1, r2)) ∧ Aside0 (kq ≤ k) ∧ Aside0 (w'.heap[gb280]? = some (.cells #[(.slice A0_0 l0_0.length c0_0), (.slice A0_1 l0_1.length c0_1)] 53 (0, 0))) ∧ Aside0 (Below w.heap.size w w'))
 case atStart => exact ⟨(0), (0), (by first | rfl | (simp; done) | (simp [*]; done)), (by first | rfl | (simp; done) | (simp [*]; done)), H', ⟨Nat.le_refl _⟩, ⟨by exact kb_ BK280.out⟩, ⟨bl_⟩⟩
 clear H'
 try clear p2
 try clear c3
 try clear c4
 try clear hcz5_0
 try clear hcz5_1
 try clear hcz7_0
 try clear hcz7_1
 try clear hfz5_0
 try clear hfz5_1
 try clear hfz7_0
 try clear hfz7_1
 obtain ⟨x4_1, x17_1, rfl, rfl, HA, HK1, BK280, HB⟩ := hrel
 cases gk with
 | zero => exact absurd HA.out (by simp [spec_TotalOf.l0])
 | succ k1 => ?_
 have H := HA.out
 clear HA
 simp only [spec_TotalOf.l0] at H
 by_cases c8 : x17_1 < (l0_0.length : Int)
 ·rw [if_pos c8] at H
  have c8b0 : decide (x17_1 < (l0_0.length : Int)) = true := decide_eq_true c8
  clear c8
  by_cases c9 : 0 ≤ x17_1
  rotate_left
  ·rw [if_neg c9] at H
   exact absurd H (by simp)
  rw [if_pos c9] at H
  have c9b0 : decide (0 ≤ x17_1) = true := decide_eq_true c9
  clear c9
  by_cases c10 : x17_1 < (l0_0.length : Int)
  rotate_left
  ·rw [if_neg c10] at H
   exact absurd H (by simp)
  rw [if_pos c10] at H
  have c10b0 : decide (x17_1 < (l0_0.length : Int)) = true := decide_eq_true c10
  clear c10
  have H' := Aside0.mk H
  clear H
  have p282 : 0 ≤ (x17_1 : Int) := of_decide_eq_true (by first | (with_reducible assumption) | assumption)
  have q282 : x17_1 < (l0_0.length : Int) := of_decide_eq_true (by first | (with_reducible assumption) | assumption)
  obtain ⟨ad282, e282, hx282_0, hx282_1, hx282_2⟩ := at_T92 HR0_0.out x17_1 p282 q282
  cases e282
  replace hx282_0 := (HB.out.cell (World.block_lt_of_cell? w _ hx282_0)).trans hx282_0
  replace hx282_1 := (HB.out.cell (World.block_lt_of_cell? w _ hx282_1)).trans hx282_1
  replace hx282_2 := (HB.out.cell (World.block_lt_of_cell? w _ hx282_2)).trans hx282_2
  replace p282 := eq_true p282
  replace q282 := eq_true q282
  go_wp2_with (first | ((with_reducible refine gate_dst (N := 6) rfl ?_); refine box_event rfl (N := 6) rfl (cs := #[.int .i64 0, .bool false, .int .i64 0]) (t := 92) gs_ ?_; intro gb283 hg w11 hbox hb; have BK283 := Aside0.mk (hbox); have GW283 := Aside0.mk ((by rw [hg]; exact bz_ : w.heap.size ≤ gb283)); have GE283 := GW283; replace HB := Aside0.mk (below_step bl_ hb); have NB280_283 := nl_ hg BK280; have NB283_280 := nm_ hg BK280; replace BK280 := bb_ BK280 hb; clear hb hbox hg; have hnb12 := NB283_280.out; have hnc12 := NB280_283.out; have hcz13_0 : w11.cell? ⟨gb283, 0, none⟩ = some (.int .i64 0) := bc_ BK283.out 0; have hcz13_1 : w11.cell? ⟨gb283, 1, none⟩ = some (.bool false) := bc_ BK283.out 1; have hcz13_2 : w11.cell? ⟨gb283, 2, none⟩ = some (.int .i64 0) := bc_ BK283.out 2; have hfz13_0 := blk_frozen BK283.out 0; have hfz13_1 := blk_frozen BK283.out 1; have hfz13_2 := blk_frozen BK283.out 2))
  go_roundg k1
  case measure => have := HK1.out; omega
  case rel => exact ⟨(wrap64 (x4_1 + ((rd_T92 l0_0 x17_1).f0))), (wrap64 (x17_1 + 1)), (by first | rfl | (simp; done) | (simp [*]; done)), (by first | rfl | (simp; done) | (simp [*]; done)), H', ⟨by have := HK1.out; omega⟩, ⟨kz_⟩, ⟨bl_⟩⟩
 rw [if_neg c8] at H
 have c8b0 : decide (x17_1 < (l0_0.length : Int)) = false := decide_eq_false c8
 clear c8
 have H' := Aside0.mk H
 clear H
 have hcz14_0 : wr.cell? ⟨gb280, 0, none⟩ = some (.slice A0_0 l0_0.length c0_0) := bc_ BK280.out 0
 have hcz14_1 : wr.cell? ⟨gb280, 1, none⟩ = some (.slice A0_1 l0_1.length c0_1) := bc_ BK280.out 1
 have hfz14_0 := blk_frozen BK280.out 0
 have hfz14_1 := blk_frozen BK280.out 1
 go_wp2
 go_loopg [4, 29] k1 (fun kq v4 v29 w' => ∃ (x4_2 : Int) (x29_2 : Int), v4 = .int .i64 x4_2 ∧ v29 = .int .i64 x29_2 ∧ Aside0 (spec_TotalOf.l1 kq x4_2 l0_1 (l0_1.length : Int) x29_2 = some (r1, r2)) ∧ Aside0 (kq ≤ k1) ∧ Aside0 (w'.heap[gb280]? = some (.cells #[(.slice A0_0 l0_0.length c0_0), (.slice A0_1 l0_1.length c0_1)] 53 (0, 0))) ∧ Aside0 (Below w.heap.size w w'))
 case atStart => exact ⟨(x4_1), (0), (by first | rfl | (simp; done) | (simp [*]; done)), (by first | rfl | (simp; done) | (simp [*]; done)), H', ⟨Nat.le_refl _⟩, ⟨by exact kb_ BK280.out⟩, ⟨bl_⟩⟩
 clear H'
 try clear c1
 try clear p2
 try clear q2
 try clear hx2
 try clear c3
 try clear c4
 try clear p6
 try clear c8
 try clear c8b0
 try clear c9
 try clear c9b0
 try clear c10
 try clear c10b0
 try clear c12
 try clear hcz13_0
 try clear hcz13_1
 try clear hcz13_2
 try clear hcz14_0
 try clear hcz14_1
 try clear hcz5_0
 try clear hcz5_1
 try clear hcz7_0
 try clear hcz7_1
 try clear hfz13_0
 try clear hfz13_1
 try clear hfz13_2
 try clear hfz14_0
 try clear hfz14_1
 try clear hfz5_0
 try clear hfz5_1
 try clear hfz7_0
 try clear hfz7_1
 try clear hx282_0
 try clear hx282_1
 try clear hx282_2
 try clear p2
 try clear p282
 try clear q282
 obtain ⟨x4_2, x29_2, rfl, rfl, HA, HK2, BK280, HB⟩ := hrel
 cases gk with
 | zero => exact absurd HA.out (by simp [spec_TotalOf.l1])
 | succ k2 => ?_
 have H := HA.out
 clear HA
 simp only [spec_TotalOf.l1] at H
 by_cases c15 : x29_2 < (l0_1.length : Int)
 rotate_left
 ·rw [if_neg c15] at H
  have c15b0 : decide (x29_2 < (l0_1.length : Int)) = false := decide_eq_false c15
  clear c15
  simp only [Option.some.injEq, Prod.mk.injEq] at H
  obtain ⟨rfl, rfl⟩ := H
  go_wp2
  go_ret2
  exact ⟨ng_, bl_⟩
 rw [if_pos c15] at H
 have c15b0 : decide (x29_2 < (l0_1.length : Int)) = true := decide_eq_true c15
 clear c15
 by_cases c16 : 0 ≤ x29_2
 rotate_left
 ·rw [if_neg c16] at H
  exact absurd H (by simp)
 rw [if_pos c16] at H
 have c16b0 : decide (0 ≤ x29_2) = true := decide_eq_true c16
 clear c16
 by_cases c17 : x29_2 < (l0_1.length : Int)
 rotate_left
 ·rw [if_neg c17] at H
  exact absurd H (by simp)
 rw [if_pos c17] at H
 have c17b0 : decide (x29_2 < (l0_1.length : Int)) = true := decide_eq_true c17
 clear c17
 have H' := Aside0.mk H
 clear H
 have p284 : 0 ≤ (x29_2 : Int) := of_decide_eq_true (by first | (with_reducible assumption) | assumption)
 have q284 : x29_2 < (l0_1.length : Int) := of_decide_eq_true (by first | (with_reducible assumption) | assumption)
 obtain ⟨ad284, A284_2, c284_2, A284_4, c284_4, e284, hx284_0, hx284_1, hx284_2, hx284_3, hx284_4, hl284_2, hi284_2, hl284_4, hi284_4⟩ := at_T95 HR0_1.out x29_2 p284 q284
 cases e284
 replace hx284_0 := (HB.out.cell (World.block_lt_of_cell? w _ hx284_0)).trans hx284_0
 replace hx284_1 := (HB.out.cell (World.block_lt_of_cell? w _ hx284_1)).trans hx284_1
 replace hx284_2 := (HB.out.cell (World.block_lt_of_cell? w _ hx284_2)).trans hx284_2
 replace hx284_3 := (HB.out.cell (World.block_lt_of_cell? w _ hx284_3)).trans hx284_3
 replace hx284_4 := (HB.out.cell (World.block_lt_of_cell? w _ hx284_4)).trans hx284_4
 have HR284_2 := Aside0.mk hi284_2
 have HC284_2 := Aside0.mk hl284_2
 clear hi284_2 hl284_2
 have HR284_4 := Aside0.mk hi284_4
 have HC284_4 := Aside0.mk hl284_4
 clear hi284_4 hl284_4
 replace p284 := eq_true p284
 replace q284 := eq_true q284
 go_wp2_with (first | ((with_reducible refine gate_dst (N := 8) rfl ?_); refine box_event rfl (N := 8) rfl (cs := #[.int .i64 0, .int .i64 0, .slice none 0 0, .bool false, .slice none 0 0]) (t := 95) gs_ ?_; intro gb285 hg w18 hbox hb; have BK285 := Aside0.mk (hbox); have GW285 := Aside0.mk ((by rw [hg]; exact bz_ : w.heap.size ≤ gb285)); have GE285 := GW285; replace HB := Aside0.mk (below_step bl_ hb); have NB280_285 := nl_ hg BK280; have NB285_280 := nm_ hg BK280; replace BK280 := bb_ BK280 hb; clear hb hbox hg; have hnb19 := NB285_280.out; have hnc19 := NB280_285.out; have hcz20_0 : w18.cell? ⟨gb285, 0, none⟩ = some (.int .i64 0) := bc_ BK285.out 0; have hcz20_1 : w18.cell? ⟨gb285, 1, none⟩ = some (.int .i64 0) := bc_ BK285.out 1; have hcz20_2 : w18.cell? ⟨gb285, 2, none⟩ = some (.slice none 0 0) := bc_ BK285.out 2; have hcz20_3 : w18.cell? ⟨gb285, 3, none⟩ = some (.bool false) := bc_ BK285.out 3; have hcz20_4 : w18.cell? ⟨gb285, 4, none⟩ = some (.slice none 0 0) := bc_ BK285.out 4; have hfz20_0 := blk_frozen BK285.out 0; have hfz20_1 := blk_frozen BK285.out 1; have hfz20_2 := blk_frozen BK285.out 2; have hfz20_3 := blk_frozen BK285.out 3; have hfz20_4 := blk_frozen BK285.out 4))
 go_loopg [4, 36] k2 (fun kq v4 v36 w' => ∃ (x4_3 : Int) (x36_3 : Int), v4 = .int .i64 x4_3 ∧ v36 = .int .i64 x36_3 ∧ Aside0 (spec_TotalOf.l2 kq x4_3 l0_1 (l0_1.length : Int) x29_2 ((rd_T95 l0_1 x29_2).f2) (((rd_T95 l0_1 x29_2).f2).length : Int) x36_3 = some (r1, r2)) ∧ Aside0 (kq ≤ k2) ∧ Aside0 (w'.heap[gb280]? = some (.cells #[(.slice A0_0 l0_0.length c0_0), (.slice (some ad284) l0_1.length c0_1)] 53 (0, 0))) ∧ Aside0 (w'.heap[gb285]? = some (.cells #[.int .i64 ((rd_T95 l0_1 x29_2).f0), .int .i64 ((rd_T95 l0_1 x29_2).f1), (.slice A284_2 ((rd_T95 l0_1 x29_2).f2).length c284_2), .bool ((rd_T95 l0_1 x29_2).f3), (.slice A284_4 ((rd_T95 l0_1 x29_2).f4).length c284_4)] 95 (0, 0))) ∧ Aside0 (Below w.heap.size w w'))
 case atStart => exact ⟨(x4_2), (0), (by first | rfl | (simp; done) | (simp [*]; done)), (by first | rfl | (simp; done) | (simp [*]; done)), H', ⟨Nat.le_refl _⟩, ⟨kz_⟩, ⟨by (with_reducible repeat (first | refine blk_drewN ?_ _ | refine blk_drew ?_ | refine blk_alloc ?_ _)); refine blk_put (cs := #[.int .i64 ((rd_T95 l0_1 x29_2).f0), .int .i64 ((rd_T95 l0_1 x29_2).f1), .slice A284_2 ((rd_T95 l0_1 x29_2).f2).length c284_2, .bool ((rd_T95 l0_1 x29_2).f3), .slice none 0 0]) ?_ 4 _ rfl; (with_reducible repeat (first | refine blk_drewN ?_ _ | refine blk_drew ?_ | refine blk_alloc ?_ _)); refine blk_put (cs := #[.int .i64 ((rd_T95 l0_1 x29_2).f0), .int .i64 ((rd_T95 l0_1 x29_2).f1), .slice A284_2 ((rd_T95 l0_1 x29_2).f2).length c284_2, .bool false, .slice none 0 0]) ?_ 3 _ rfl; (with_reducible repeat (first | refine blk_drewN ?_ _ | refine blk_drew ?_ | refine blk_alloc ?_ _)); refine blk_put (cs := #[.int .i64 ((rd_T95 l0_1 x29_2).f0), .int .i64 ((rd_T95 l0_1 x29_2).f1), .slice none 0 0, .bool false, .slice none 0 0]) ?_ 2 _ rfl; (with_reducible repeat (first | refine blk_drewN ?_ _ | refine blk_drew ?_ | refine blk_alloc ?_ _)); refine blk_put (cs := #[.int .i64 ((rd_T95 l0_1 x29_2).f0), .int .i64 0, .slice none 0 0, .bool false, .slice none 0 0]) ?_ 1 _ rfl; (with_reducible repeat (first | refine blk_drewN ?_ _ | refine blk_drew ?_ | refine blk_alloc ?_ _)); refine blk_put (cs := #[.int .i64 0, .int .i64 0, .slice none 0 0, .bool false, .slice none 0 0]) ?_ 0 _ rfl; exact kb_ BK285.out⟩, ⟨bl_⟩⟩
 clear H'
 try clear c1
 try clear c2
 try clear p2
 try clear q2
 try clear hx2
 try clear c3
 try clear c4
 try clear p6
 try clear c8
 try clear c8b0
 try clear c9
 try clear c9b0
 try clear c10
 try clear c10b0
 try clear c12
 try clear c15
 try clear c15b0
 try clear c16
 try clear c16b0
 try clear c17
 try clear c17b0
 try clear c19
 try clear hcz13_0
 try clear hcz13_1
 try clear hcz13_2
 try clear hcz14_0
 try clear hcz14_1
 try clear hcz20_0
 try clear hcz20_1
 try clear hcz20_2
 try clear hcz20_3
 try clear hcz20_4
 try clear hcz5_0
 try clear hcz5_1
 try clear hcz7_0
 try clear hcz7_1
 try clear hfz13_0
 try clear hfz13_1
 try clear hfz13_2
 try clear hfz14_0
 try clear hfz14_1
 try clear hfz20_0
 try clear hfz20_1
 try clear hfz20_2
 try clear hfz20_3
 try clear hfz20_4
 try clear hfz5_0
 try clear hfz5_1
 try clear hfz7_0
 try clear hfz7_1
 try clear hx282_0
 try clear hx282_1
 try clear hx282_2
 try clear hx284_0
 try clear hx284_1
 try clear hx284_2
 try clear hx284_3
 try clear hx284_4
 try clear p2
 try clear p282
 try clear p284
 try clear p6
 try clear q2
 try clear q282
 try clear q284
 obtain ⟨x4_3, x36_3, rfl, rfl, HA, HK3, BK280, BK285, HB⟩ := hrel
 cases gk with
 | zero => exact absurd HA.out (by simp [spec_TotalOf.l2])
 | succ k3 => ?_
 have H := HA.out
 clear HA
 simp only [spec_TotalOf.l2] at H
 by_cases c21 : x36_3 < (((rd_T95 l0_1 x29_2).f2).length : Int)
 rotate_left
 ·rw [if_neg c21] at H
  have c21b0 : decide (x36_3 < (((rd_T95 l0_1 x29_2).f2).length : Int)) = false := decide_eq_false c21
  clear c21
  have H' := Aside0.mk H
  clear H
  go_wp2
  go_roundg k3
  case measure => have := HK1.out; have := HK2.out; have := HK3.out; omega
  case rel => exact ⟨(x4_3), (wrap64 (x29_2 + 1)), (by first | rfl | (simp; done) | (simp [*]; done)), (by first | rfl | (simp; done) | (simp [*]; done)), H', ⟨by have := HK1.out; have := HK2.out; have := HK3.out; omega⟩, ⟨by exact kb_ BK280.out⟩, ⟨bl_⟩⟩
 rw [if_pos c21] at H
 have c21b0 : decide (x36_3 < (((rd_T95 l0_1 x29_2).f2).length : Int)) = true := decide_eq_true c21
 clear c21
 by_cases c22 : 0 ≤ x36_3
 rotate_left
 ·rw [if_neg c22] at H
  exact absurd H (by simp)
 rw [if_pos c22] at H
 have c22b0 : decide (0 ≤ x36_3) = true := decide_eq_true c22
 clear c22
 by_cases c23 : x36_3 < (((rd_T95 l0_1 x29_2).f2).length : Int)
 rotate_left
 ·rw [if_neg c23] at H
  exact absurd H (by simp)
 rw [if_pos c23] at H
 have c23b0 : decide (x36_3 < (((rd_T95 l0_1 x29_2).f2).length : Int)) = true := decide_eq_true c23
 clear c23
 have H' := Aside0.mk H
 clear H
 have p286 : 0 ≤ (x36_3 : Int) := of_decide_eq_true (by first | (with_reducible assumption) | assumption)
 have q286 : x36_3 < (((rd_T95 l0_1 x29_2).f2).length : Int) := of_decide_eq_true (by first | (with_reducible assumption) | assumption)
 obtain ⟨ad286, e286, hx286_0, hx286_1⟩ := at_T103 HR284_2.out x36_3 p286 q286
 cases e286
 replace hx286_0 := (HB.out.cell (World.block_lt_of_cell? w _ hx286_0)).trans hx286_0
 replace hx286_1 := (HB.out.cell (World.block_lt_of_cell? w _ hx286_1)).trans hx286_1
 replace p286 := eq_true p286
 replace q286 := eq_true q286
 go_wp2_with (first | ((with_reducible refine gate_dst (N := 10) rfl ?_); refine box_event rfl (N := 10) rfl (cs := #[.bool false, .int .i64 0]) (t := 103) gs_ ?_; intro gb287 hg w24 hbox hb; have BK287 := Aside0.mk (hbox); have GW287 := Aside0.mk ((by rw [hg]; exact bz_ : w.heap.size ≤ gb287)); have GE287 := GW287; replace HB := Aside0.mk (below_step bl_ hb); have NB280_287 := nl_ hg BK280; have NB287_280 := nm_ hg BK280; replace BK280 := bb_ BK280 hb; have NB285_287 := nl_ hg BK285; have NB287_285 := nm_ hg BK285; replace BK285 := bb_ BK285 hb; clear hb hbox hg; have hnb25 := NB287_280.out; have hnc25 := NB280_287.out; have hnb26 := NB287_285.out; have hnc26 := NB285_287.out; have hcz27_0 : w24.cell? ⟨gb287, 0, none⟩ = some (.bool false) := bc_ BK287.out 0; have hcz27_1 : w24.cell? ⟨gb287, 1, none⟩ = some (.int .i64 0) := bc_ BK287.out 1; have hfz27_0 := blk_frozen BK287.out 0; have hfz27_1 := blk_frozen BK287.out 1))
 go_roundg k3
 case measure => have := HK1.out; have := HK2.out; have := HK3.out; omega
 case rel => exact ⟨(wrap64 (x4_3 + ((rd_T103 ((rd_T95 l0_1 x29_2).f2) x36_3).f1))), (wrap64 (x36_3 + 1)), (by first | rfl | (simp; done) | (simp [*]; done)), (by first | rfl | (simp; done) | (simp [*]; done)), H', ⟨by have := HK1.out; have := HK2.out; have := HK3.out; omega⟩, ⟨kz_⟩, ⟨kz_⟩, ⟨bl_⟩⟩

end Go.Proofs.Ytipfikmbldgliaa.PNX
