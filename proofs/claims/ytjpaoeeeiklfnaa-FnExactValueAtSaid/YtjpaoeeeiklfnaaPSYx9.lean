/- What this text proves: the machine calls of these functions return what the plain functions say. Conditions: as each theorem says. Printed by a program of this session out of the translation. -/
import Derived.Test.YtjpaoeeeiklfnaaPSYx0
import Derived.Test.YtjpaoeeeiklfnaaPSYx1
import Derived.Test.YtjpaoeeeiklfnaaPSYx2
import Derived.Test.YtjpaoeeeiklfnaaPSYx4
import Derived.Test.YtjpaoeeeiklfnaaPSYx6
import Derived.Test.YtjpaoeeeiklfnaaPSYx7
import Derived.Test.YtjpaoeeeiklfnaaPSYx8
namespace Go.Proofs.Ytjpaoeeeiklfnaa.PSY
open Go.RowKit Go.Proofs.YtjpaoeeeiklfnaaW.PrintWords Go.Proofs.YtjpaoeeeiklfnaaW.PrintLast Go.Proofs.YtjpaoeeeiklfnaaW.PrintMore
attribute [local go_sem] max2_int min2_int max_two min_two max_three min_three max_four min_four   -- for this text's walks alone
set_option linter.unusedVariables false
set_option linter.unusedSimpArgs false

/-! ### impl_GoodSynod: function 22 -/
def impl_GoodSynod.f (k : Nat) (l0_0 : List (S70)) (l0_1 : List (S54)) : Option (Bool) := (impl_isSynod.f k l0_0 l0_1).bind fun t251 => (some t251)
theorem impl_GoodSynod.mono : ∀ a0 a1 k, LeO (impl_GoodSynod.f k a0 a1) (impl_GoodSynod.f (k + 1) a0 a1) := by
 intro a0 a1 k
 unfold impl_GoodSynod.f
 repeat' first
   | (with_reducible exact impl_isSynod.mono _ _ _)
   | (with_reducible exact LeO.refl _)
   | (with_reducible exact LeO.none _)
   | (with_reducible refine LeO.ite ?_ ?_)
   | (with_reducible refine LeO.bind ?_ (fun _ => ?_))
   | exact impl_isSynod.mono _ _ _
   | exact LeO.none _
   | refine LeO.ite ?_ ?_
   | refine LeO.bind ?_ (fun _ => ?_)
set_option maxHeartbeats 8000000 in
set_option maxRecDepth 100000 in
theorem impl_GoodSynod.calls (k : Nat) (A0_0 : Option Addr) (c0_0 : Nat) (l0_0 : List (S70)) (A0_1 : Option Addr) (c0_1 : Nat) (l0_1 : List (S54)) (r : Bool) (w : World) (hr0_0 : Kd.C k70 w A0_0 l0_0.length l0_0) (hc0_0 : l0_0.length ≤ c0_0) (hr0_1 : Kd.C k54 w A0_1 l0_1.length l0_1) (hc0_1 : l0_1.length ≤ c0_1) (h : impl_GoodSynod.f k l0_0 l0_1 = some r) :
  Calls Try.prog 22 #[.agg #[.slice A0_0 l0_0.length c0_0, .slice A0_1 l0_1.length c0_1]] w fun e w' => e = .returned (.bool r) ∧ Below w.heap.size w w' := by
 have hu33 := Try.underlying33
 have HR0_0 := Aside0.mk hr0_0
 have HC0_0 := Aside0.mk hc0_0
 clear hr0_0 hc0_0
 have HR0_1 := Aside0.mk hr0_1
 have HC0_1 := Aside0.mk hc0_1
 clear hr0_1 hc0_1
 have HB := Aside0.mk (Below.refl w.heap.size w)
 have H : ((impl_isSynod.f k l0_0 l0_1).bind fun t251 => (some t251)) = some r := h
 clear h
 replace H := Option.bind_eq_some_iff.mp H
 obtain ⟨t251, A20, H⟩ := H
 replace H : (some t251) = some r := H
 have A2 := Aside0.mk A20
 clear A20
 obtain rfl := Option.some.inj H
 go_enter Try.func22, Try.ntmps22
 go_wp2_with (first | ((with_reducible refine gate_dst (N := 1) rfl ?_); refine box_event rfl (N := 1) rfl (cs := #[.slice A0_0 l0_0.length c0_0, .slice A0_1 l0_1.length c0_1]) (t := 33) gs_ ?_; intro gb250 hg w3 hbox hb; have BK250 := Aside0.mk (hbox); have GW250 := Aside0.mk ((by rw [hg]; exact bz_ : w.heap.size ≤ gb250)); have GE250 := GW250; replace HB := Aside0.mk (below_step bl_ hb); clear hb hbox hg; have hcz4_0 : w3.cell? ⟨gb250, 0, none⟩ = some (.slice A0_0 l0_0.length c0_0) := bc_ BK250.out 0; have hcz4_1 : w3.cell? ⟨gb250, 1, none⟩ = some (.slice A0_1 l0_1.length c0_1) := bc_ BK250.out 1; have hfz4_0 := blk_frozen BK250.out 0; have hfz4_1 := blk_frozen BK250.out 1) | ((with_reducible refine gate_callee (f := 30) rfl ?_); refine goesL_ (some 4) rfl rfl Try.func30 (by kernel_rfl) rfl #[.agg #[.slice A0_0 l0_0.length c0_0, .slice A0_1 l0_1.length c0_1]] rfl nc_ ?_; (with_reducible refine (impl_isSynod.calls k _ _ l0_0 _ _ l0_1 t251 _ ?side1 ?side2 ?side3 ?side4 A2.out).mono ?_); (case side1 => exact kc_ (Kd.C_below HR0_0.out HB.out)); (case side2 => exact HC0_0.out); (case side3 => exact kc_ (Kd.C_below HR0_1.out HB.out)); (case side4 => exact HC0_1.out); rintro e w5 ⟨rfl, hb⟩; refine ⟨_, rfl, ?_⟩; replace BK250 := bb_ BK250 hb; replace HB := Aside0.mk (below_step bl_ hb); clear hb))
 go_ret
 exact ⟨ng_, bl_⟩

/-! ### laws_FnExactGoodSynod: function 5 -/
def laws_FnExactGoodSynod.f (k : Nat) (l0_0 : List (S76)) (l0_1 : List (S80)) : Option (Bool) := (laws_szSynod.f k l0_0 l0_1 1048576).bind fun t253 => (if t253 < 0 then (some true) else ((laws_toSynod.f k l0_0 l0_1).bind fun bt254 => ((spec_GoodSynod.f k bt254.1 bt254.2).bind fun t260 => ((laws_toSynod.f k l0_0 l0_1).bind fun bt261 => ((impl_GoodSynod.f k bt261.1 bt261.2).bind fun t268 => (if (t268 != t260) = true then (none) else ((laws_toSynod.f k l0_0 l0_1).bind fun bt269 => ((laws_eqSynod.f k bt261.1 bt261.2 bt269.1 bt269.2).bind fun t275 => (if t275 = true then (some true) else (none))))))))))
theorem laws_FnExactGoodSynod.mono : ∀ a0 a1 k, LeO (laws_FnExactGoodSynod.f k a0 a1) (laws_FnExactGoodSynod.f (k + 1) a0 a1) := by
 intro a0 a1 k
 unfold laws_FnExactGoodSynod.f
 repeat' first
   | (with_reducible exact impl_GoodSynod.mono _ _ _)
   | (with_reducible exact laws_eqSynod.mono _ _ _ _ _)
   | (with_reducible exact laws_szSynod.mono _ _ _ _)
   | (with_reducible exact laws_toSynod.mono _ _ _)
   | (with_reducible exact spec_GoodSynod.mono _ _ _)
   | (with_reducible exact LeO.refl _)
   | (with_reducible exact LeO.none _)
   | (with_reducible refine LeO.ite ?_ ?_)
   | (with_reducible refine LeO.bind ?_ (fun _ => ?_))
   | exact impl_GoodSynod.mono _ _ _
   | exact laws_eqSynod.mono _ _ _ _ _
   | exact laws_szSynod.mono _ _ _ _
   | exact laws_toSynod.mono _ _ _
   | exact spec_GoodSynod.mono _ _ _
   | exact LeO.none _
   | refine LeO.ite ?_ ?_
   | refine LeO.bind ?_ (fun _ => ?_)
set_option maxHeartbeats 8000000 in
set_option maxRecDepth 100000 in
theorem laws_FnExactGoodSynod.calls (k : Nat) (A0_0 : Option Addr) (c0_0 : Nat) (l0_0 : List (S76)) (A0_1 : Option Addr) (c0_1 : Nat) (l0_1 : List (S80)) (r : Bool) (w : World) (hr0_0 : Kd.C k76 w A0_0 l0_0.length l0_0) (hc0_0 : l0_0.length ≤ c0_0) (hr0_1 : Kd.C k80 w A0_1 l0_1.length l0_1) (hc0_1 : l0_1.length ≤ c0_1) (h : laws_FnExactGoodSynod.f k l0_0 l0_1 = some r) :
  Calls Try.prog 5 #[.agg #[.slice A0_0 l0_0.length c0_0, .slice A0_1 l0_1.length c0_1]] w fun e w' => e = .returned (.bool r) ∧ Below w.heap.size w w' := by
 have hu25 := Try.underlying25
 have hu33 := Try.underlying33
 have HR0_0 := Aside0.mk hr0_0
 have HC0_0 := Aside0.mk hc0_0
 clear hr0_0 hc0_0
 have HR0_1 := Aside0.mk hr0_1
 have HC0_1 := Aside0.mk hc0_1
 clear hr0_1 hc0_1
 have HB := Aside0.mk (Below.refl w.heap.size w)
 have H : ((laws_szSynod.f k l0_0 l0_1 1048576).bind fun t253 => (if t253 < 0 then (some true) else ((laws_toSynod.f k l0_0 l0_1).bind fun bt254 => ((spec_GoodSynod.f k bt254.1 bt254.2).bind fun t260 => ((laws_toSynod.f k l0_0 l0_1).bind fun bt261 => ((impl_GoodSynod.f k bt261.1 bt261.2).bind fun t268 => (if (t268 != t260) = true then (none) else ((laws_toSynod.f k l0_0 l0_1).bind fun bt269 => ((laws_eqSynod.f k bt261.1 bt261.2 bt269.1 bt269.2).bind fun t275 => (if t275 = true then (some true) else (none))))))))))) = some r := h
 clear h
 replace H := Option.bind_eq_some_iff.mp H
 obtain ⟨t253, A20, H⟩ := H
 replace H : (if t253 < 0 then (some true) else ((laws_toSynod.f k l0_0 l0_1).bind fun bt254 => ((spec_GoodSynod.f k bt254.1 bt254.2).bind fun t260 => ((laws_toSynod.f k l0_0 l0_1).bind fun bt261 => ((impl_GoodSynod.f k bt261.1 bt261.2).bind fun t268 => (if (t268 != t260) = true then (none) else ((laws_toSynod.f k l0_0 l0_1).bind fun bt269 => ((laws_eqSynod.f k bt261.1 bt261.2 bt269.1 bt269.2).bind fun t275 => (if t275 = true then (some true) else (none)))))))))) = some r := H
 have A2 := Aside0.mk A20
 clear A20
 by_cases c3 : t253 < 0
 ·rw [if_pos c3] at H
  have c3b0 : decide (t253 < 0) = true := decide_eq_true c3
  clear c3
  obtain rfl := Option.some.inj H
  go_enter Try.func5, Try.ntmps5
  go_wp2_with (first | ((with_reducible refine gate_dst (N := 1) rfl ?_); refine box_event rfl (N := 1) rfl (cs := #[.slice A0_0 l0_0.length c0_0, .slice A0_1 l0_1.length c0_1]) (t := 25) gs_ ?_; intro gb252 hg w4 hbox hb; have BK252 := Aside0.mk (hbox); have GW252 := Aside0.mk ((by rw [hg]; exact bz_ : w.heap.size ≤ gb252)); have GE252 := GW252; replace HB := Aside0.mk (below_step bl_ hb); clear hb hbox hg; have hcz5_0 : w4.cell? ⟨gb252, 0, none⟩ = some (.slice A0_0 l0_0.length c0_0) := bc_ BK252.out 0; have hcz5_1 : w4.cell? ⟨gb252, 1, none⟩ = some (.slice A0_1 l0_1.length c0_1) := bc_ BK252.out 1; have hfz5_0 := blk_frozen BK252.out 0; have hfz5_1 := blk_frozen BK252.out 1) | ((with_reducible refine gate_callee (f := 7) rfl ?_); refine goesL_ (some 9) rfl rfl Try.func7 (by kernel_rfl) rfl #[.agg #[.slice A0_0 l0_0.length c0_0, .slice A0_1 l0_1.length c0_1], .int .i64 1048576] rfl nc_ ?_; (with_reducible refine (laws_szSynod.calls k _ _ l0_0 _ _ l0_1 1048576 t253 _ ?side1 ?side2 ?side3 ?side4 A2.out).mono ?_); (case side1 => exact kc_ (Kd.C_below HR0_0.out HB.out)); (case side2 => exact HC0_0.out); (case side3 => exact kc_ (Kd.C_below HR0_1.out HB.out)); (case side4 => exact HC0_1.out); rintro e w6 ⟨rfl, hb⟩; refine ⟨_, rfl, ?_⟩; replace BK252 := bb_ BK252 hb; replace HB := Aside0.mk (below_step bl_ hb); clear hb))
  go_ret
  exact ⟨ng_, bl_⟩
 rw [if_neg c3] at H
 have c3b0 : decide (t253 < 0) = false := decide_eq_false c3
 clear c3
 replace H := Option.bind_eq_some_iff.mp H
 obtain ⟨⟨t254, t257⟩, A70, H⟩ := H
 replace H : ((spec_GoodSynod.f k t254 t257).bind fun t260 => ((laws_toSynod.f k l0_0 l0_1).bind fun bt261 => ((impl_GoodSynod.f k bt261.1 bt261.2).bind fun t268 => (if (t268 != t260) = true then (none) else ((laws_toSynod.f k l0_0 l0_1).bind fun bt269 => ((laws_eqSynod.f k bt261.1 bt261.2 bt269.1 bt269.2).bind fun t275 => (if t275 = true then (some true) else (none)))))))) = some r := H
 have A7 := Aside0.mk A70
 clear A70
 replace H := Option.bind_eq_some_iff.mp H
 obtain ⟨t260, A80, H⟩ := H
 replace H : ((laws_toSynod.f k l0_0 l0_1).bind fun bt261 => ((impl_GoodSynod.f k bt261.1 bt261.2).bind fun t268 => (if (t268 != t260) = true then (none) else ((laws_toSynod.f k l0_0 l0_1).bind fun bt269 => ((laws_eqSynod.f k bt261.1 bt261.2 bt269.1 bt269.2).bind fun t275 => (if t275 = true then (some true) else (none))))))) = some r := H
 have A8 := Aside0.mk A80
 clear A80
 replace H := Option.bind_eq_some_iff.mp H
 obtain ⟨⟨t261, t264⟩, A90, H⟩ := H
 replace H : ((impl_GoodSynod.f k t261 t264).bind fun t268 => (if (t268 != t260) = true then (none) else ((laws_toSynod.f k l0_0 l0_1).bind fun bt269 => ((laws_eqSynod.f k t261 t264 bt269.1 bt269.2).bind fun t275 => (if t275 = true then (some true) else (none)))))) = some r := H
 have A9 := Aside0.mk A90
 clear A90
 replace H := Option.bind_eq_some_iff.mp H
 obtain ⟨t268, A100, H⟩ := H
 replace H : (if (t268 != t260) = true then (none) else ((laws_toSynod.f k l0_0 l0_1).bind fun bt269 => ((laws_eqSynod.f k t261 t264 bt269.1 bt269.2).bind fun t275 => (if t275 = true then (some true) else (none))))) = some r := H
 have A10 := Aside0.mk A100
 clear A100
 by_cases c11 : (t268 != t260) = true
 ·rw [if_pos c11] at H
  exact absurd H (by simp)
 rw [if_neg c11] at H
 have c11b0 : (t268 != t260) = false := by simpa using c11
 (try (have c11b1 : decide (t268 = t260) = true := by simpa using c11))
 (try (have c11b2 : (t268 == t260) = true := by simpa using c11))
 clear c11
 replace H := Option.bind_eq_some_iff.mp H
 obtain ⟨⟨t269, t272⟩, A120, H⟩ := H
 replace H : ((laws_eqSynod.f k t261 t264 t269 t272).bind fun t275 => (if t275 = true then (some true) else (none))) = some r := H
 have A12 := Aside0.mk A120
 clear A120
 replace H := Option.bind_eq_some_iff.mp H
 obtain ⟨t275, A130, H⟩ := H
 replace H : (if t275 = true then (some true) else (none)) = some r := H
 have A13 := Aside0.mk A130
 clear A130
 by_cases c14 : t275 = true
 rotate_left
 ·replace c14 := Bool.eq_false_iff.mpr c14
  subst c14
  have H1 : (none) = some r := by rw [if_neg (show ¬ (false = true) by decide)] at H; exact H
  clear H
  have H := H1
  clear H1
  exact absurd H (by simp)
 subst c14
 have H1 : (some true) = some r := by rw [if_pos rfl] at H; exact H
 clear H
 have H := H1
 clear H1
 obtain rfl := Option.some.inj H
 go_enter Try.func5, Try.ntmps5
 try go_wp2_with (first | ((with_reducible refine gate_dst (N := 1) rfl ?_); refine box_event rfl (N := 1) rfl (cs := #[.slice A0_0 l0_0.length c0_0, .slice A0_1 l0_1.length c0_1]) (t := 25) gs_ ?_; intro gb252 hg w15 hbox hb; have BK252 := Aside0.mk (hbox); have GW252 := Aside0.mk ((by rw [hg]; exact bz_ : w.heap.size ≤ gb252)); have GE252 := GW252; replace HB := Aside0.mk (below_step bl_ hb); clear hb hbox hg; have hcz16_0 : w15.cell? ⟨gb252, 0, none⟩ = some (.slice A0_0 l0_0.length c0_0) := bc_ BK252.out 0; have hcz16_1 : w15.cell? ⟨gb252, 1, none⟩ = some (.slice A0_1 l0_1.length c0_1) := bc_ BK252.out 1; have hfz16_0 := blk_frozen BK252.out 0; have hfz16_1 := blk_frozen BK252.out 1) | ((with_reducible refine gate_callee (f := 7) rfl ?_); refine goesL_ (some 9) rfl rfl Try.func7 (by kernel_rfl) rfl #[.agg #[.slice A0_0 l0_0.length c0_0, .slice A0_1 l0_1.length c0_1], .int .i64 1048576] rfl nc_ ?_; (with_reducible refine (laws_szSynod.calls k _ _ l0_0 _ _ l0_1 1048576 t253 _ ?side1 ?side2 ?side3 ?side4 A2.out).mono ?_); (case side1 => exact kc_ (Kd.C_below HR0_0.out HB.out)); (case side2 => exact HC0_0.out); (case side3 => exact kc_ (Kd.C_below HR0_1.out HB.out)); (case side4 => exact HC0_1.out); rintro e w17 ⟨rfl, hb⟩; refine ⟨_, rfl, ?_⟩; replace BK252 := bb_ BK252 hb; replace HB := Aside0.mk (below_step bl_ hb); clear hb; have hcz18_0 : w17.cell? ⟨gb252, 0, none⟩ = some (.slice A0_0 l0_0.length c0_0) := bc_ BK252.out 0; have hcz18_1 : w17.cell? ⟨gb252, 1, none⟩ = some (.slice A0_1 l0_1.length c0_1) := bc_ BK252.out 1; have hfz18_0 := blk_frozen BK252.out 0; have hfz18_1 := blk_frozen BK252.out 1) | ((with_reducible refine gate_callee (f := 9) rfl ?_); refine goesL_ (some 13) rfl rfl Try.func9 (by kernel_rfl) rfl #[.agg #[.slice A0_0 l0_0.length c0_0, .slice A0_1 l0_1.length c0_1]] rfl nc_ ?_; (with_reducible refine (laws_toSynod.calls k _ _ l0_0 _ _ l0_1 t254 t257 _ ?side1 ?side2 ?side3 ?side4 A7.out).mono ?_); (case side1 => exact kc_ (Kd.C_below HR0_0.out HB.out)); (case side2 => exact HC0_0.out); (case side3 => exact kc_ (Kd.C_below HR0_1.out HB.out)); (case side4 => exact HC0_1.out); rintro e w19 ⟨v255, v258, rfl, ho0, ho1, hb⟩; refine ⟨_, rfl, ?_⟩; have HO256 := Aside0.mk (Kd.R_lower ho0 bz_); have HO259 := Aside0.mk (Kd.S_lower ho1 bz_); replace BK252 := bb_ BK252 hb; replace HB := Aside0.mk (below_step bl_ hb); clear hb ho0 ho1; obtain ⟨Ao20, co20, eo20⟩ := Kd.R_slice HO256.out; subst eo20; obtain ⟨Ao21, co21, eo21⟩ := Kd.S_slice HO259.out; subst eo21) | ((with_reducible refine gate_callee (f := 21) rfl ?_); refine goesL_ (some 14) rfl rfl Try.func21 (by kernel_rfl) rfl #[.agg #[.slice Ao20 t254.length co20, .slice Ao21 t257.length co21]] rfl nc_ ?_; (with_reducible refine (spec_GoodSynod.calls k _ _ t254 _ _ t257 t260 _ ?side1 ?side2 ?side3 ?side4 A8.out).mono ?_); (case side1 => exact kc_ (Kd.R_reads' HO256.out).2.2); (case side2 => exact (Kd.R_reads' HO256.out).2.1); (case side3 => exact kc_ (Kd.S_reads' HO259.out).2.2); (case side4 => exact (Kd.S_reads' HO259.out).2.1); rintro e w22 ⟨rfl, hb⟩; refine ⟨_, rfl, ?_⟩; replace HO256 := rb_ HO256 hb; replace HO259 := Aside0.mk (Kd.S_below (by (with_reducible repeat (first | apply Kd.S_alloc | apply Kd.S_drewN | apply Kd.S_drew)); exact HO259.out) hb); replace BK252 := bb_ BK252 hb; replace HB := Aside0.mk (below_step bl_ hb); clear hb; have hcz23_0 : w22.cell? ⟨gb252, 0, none⟩ = some (.slice A0_0 l0_0.length c0_0) := bc_ BK252.out 0; have hcz23_1 : w22.cell? ⟨gb252, 1, none⟩ = some (.slice A0_1 l0_1.length c0_1) := bc_ BK252.out 1; have hfz23_0 := blk_frozen BK252.out 0; have hfz23_1 := blk_frozen BK252.out 1) | ((with_reducible refine gate_callee (f := 9) rfl ?_); refine goesL_ (some 16) rfl rfl Try.func9 (by kernel_rfl) rfl #[.agg #[.slice A0_0 l0_0.length c0_0, .slice A0_1 l0_1.length c0_1]] rfl nc_ ?_; (with_reducible refine (laws_toSynod.calls k _ _ l0_0 _ _ l0_1 t261 t264 _ ?side1 ?side2 ?side3 ?side4 A9.out).mono ?_); (case side1 => exact kc_ (Kd.C_below HR0_0.out HB.out)); (case side2 => exact HC0_0.out); (case side3 => exact kc_ (Kd.C_below HR0_1.out HB.out)); (case side4 => exact HC0_1.out); rintro e w24 ⟨v262, v265, rfl, ho0, ho1, hb⟩; refine ⟨_, rfl, ?_⟩; have HO263 := Aside0.mk (Kd.R_lower (rn_ ho0 HO256.out) bz_); replace HO256 := Aside0.mk (Kd.R_elder' (kr_ HO256.out) (Kd.R_base ho0) hb); have HO266 := Aside0.mk (Kd.S_lower (Kd.S_new' ho1 (Kd.S_lt (by (with_reducible repeat (first | apply Kd.S_alloc | apply Kd.S_drewN | apply Kd.S_drew)); exact HO259.out))) bz_); replace HO259 := Aside0.mk (Kd.S_elder' (by (with_reducible repeat (first | apply Kd.S_alloc | apply Kd.S_drewN | apply Kd.S_drew)); exact HO259.out) (Kd.S_base ho1) hb); replace BK252 := bb_ BK252 hb; replace HB := Aside0.mk (below_step bl_ hb); clear hb ho0 ho1) | ((with_reducible refine gate_dst (N := 5) rfl ?_); refine box_event rfl (N := 5) rfl (cs := #[.slice none 0 0, .slice none 0 0]) (t := 33) gs_ ?_; intro gb267 hg w25 hbox hb; replace HO256 := rb_ HO256 hb; replace HO259 := Aside0.mk (Kd.S_below (by (with_reducible repeat (first | apply Kd.S_alloc | apply Kd.S_drewN | apply Kd.S_drew)); exact HO259.out) hb); replace HO263 := rb_ HO263 hb; replace HO266 := Aside0.mk (Kd.S_below (by (with_reducible repeat (first | apply Kd.S_alloc | apply Kd.S_drewN | apply Kd.S_drew)); exact HO266.out) hb); have BK267 := Aside0.mk (hbox); have GW267 := Aside0.mk ((by rw [hg]; exact bz_ : w.heap.size ≤ gb267)); have GE267 := GW267; replace HB := Aside0.mk (below_step bl_ hb); have NB252_267 := nl_ hg BK252; have NB267_252 := nm_ hg BK252; replace BK252 := bb_ BK252 hb; clear hb hbox hg; obtain ⟨Ao26, co26, eo26⟩ := Kd.R_slice HO263.out; subst eo26; have hnb27 := NB267_252.out; have hnc27 := NB252_267.out; have hcz28_0 : w25.cell? ⟨gb267, 0, none⟩ = some (.slice none 0 0) := bc_ BK267.out 0; have hcz28_1 : w25.cell? ⟨gb267, 1, none⟩ = some (.slice none 0 0) := bc_ BK267.out 1; have hfz28_0 := blk_frozen BK267.out 0; have hfz28_1 := blk_frozen BK267.out 1; obtain ⟨Ao29, co29, eo29⟩ := Kd.S_slice HO266.out; subst eo29) | ((with_reducible refine gate_callee (f := 22) rfl ?_); refine goesL_ (some 18) rfl rfl Try.func22 (by kernel_rfl) rfl #[.agg #[.slice Ao26 t261.length co26, .slice Ao29 t264.length co29]] rfl nc_ ?_; (with_reducible refine (impl_GoodSynod.calls k _ _ t261 _ _ t264 t268 _ ?side1 ?side2 ?side3 ?side4 A10.out).mono ?_); (case side1 => exact (Kd.R_reads' (kr_ (rs2_ HO263.out BK267.out (.slice Ao26 t261.length co26) (.slice Ao29 t264.length co29)))).2.2); (case side2 => exact (Kd.R_reads' HO263.out).2.1); (case side3 => refine (Kd.S_reads' (e := 54) (base := w.heap.size) (ok := fun k_ => (True ∧ some k_ ≠ (.slice Ao21 t257.length co21 : Value).ownBlock)) (n := t264.length) (c := co29) ?_).2.2; exact (by (with_reducible repeat (first | apply Kd.S_alloc | apply Kd.S_drewN | apply Kd.S_drew)); exact (Kd.S_mono (Kd.S_far (p := ⟨gb267, 1, none⟩) (Kd.S_far (p := ⟨gb267, 0, none⟩) (Kd.S_types HO266.out BK267.out (by decide)) (fun _ hk => hk.2) (.slice Ao26 t261.length co26)) (fun _ hk => hk.2) (.slice Ao29 t264.length co29)) (fun _ h_ => h_.1)))); (case side4 => exact (Kd.S_reads' HO266.out).2.1); rintro e w30 ⟨rfl, hb⟩; refine ⟨_, rfl, ?_⟩; replace HO256 := Aside0.mk (Kd.R_below (kr_ (rs2_ HO256.out BK267.out (.slice Ao26 t261.length co26) (.slice Ao29 t264.length co29))) hb); replace HO259 := Aside0.mk (Kd.S_below (by (with_reducible repeat (first | apply Kd.S_alloc | apply Kd.S_drewN | apply Kd.S_drew)); exact (Kd.S_mono (Kd.S_far (p := ⟨gb267, 1, none⟩) (Kd.S_far (p := ⟨gb267, 0, none⟩) (Kd.S_types HO259.out BK267.out (by decide)) (fun _ hk => hk.2) (.slice Ao26 t261.length co26)) (fun _ hk => hk.2) (.slice Ao29 t264.length co29)) (fun _ h_ => h_.1))) hb); replace HO263 := Aside0.mk (Kd.R_below (kr_ (rs2_ HO263.out BK267.out (.slice Ao26 t261.length co26) (.slice Ao29 t264.length co29))) hb); replace HO266 := Aside0.mk (Kd.S_below (by (with_reducible repeat (first | apply Kd.S_alloc | apply Kd.S_drewN | apply Kd.S_drew)); exact (Kd.S_mono (Kd.S_far (p := ⟨gb267, 1, none⟩) (Kd.S_far (p := ⟨gb267, 0, none⟩) (Kd.S_types HO266.out BK267.out (by decide)) (fun _ hk => hk.2) (.slice Ao26 t261.length co26)) (fun _ hk => hk.2) (.slice Ao29 t264.length co29)) (fun _ h_ => h_.1))) hb); replace BK252 := Aside0.mk (blk_below (g := gb252) (o := .cells #[.slice A0_0 l0_0.length c0_0, .slice A0_1 l0_1.length c0_1] 25 (0, 0)) kz_ hb); replace BK267 := Aside0.mk (blk_below (g := gb267) (o := .cells #[.slice Ao26 t261.length co26, .slice Ao29 t264.length co29] 33 (0, 0)) (by (with_reducible repeat (first | refine blk_drewN ?_ _ | refine blk_drew ?_ | refine blk_alloc ?_ _)); refine blk_put (cs := #[.slice Ao26 t261.length co26, .slice none 0 0]) ?_ 1 _ rfl; (with_reducible repeat (first | refine blk_drewN ?_ _ | refine blk_drew ?_ | refine blk_alloc ?_ _)); refine blk_put (cs := #[.slice none 0 0, .slice none 0 0]) ?_ 0 _ rfl; exact kb_ BK267.out) hb); replace HB := Aside0.mk (below_step bl_ hb); clear hb))
 replace HO256 := Aside0.mk (Kd.R_drew HO256.out)
 replace HO259 := Aside0.mk (Kd.S_drew HO259.out)
 replace HO263 := Aside0.mk (Kd.R_drew HO263.out)
 replace HO266 := Aside0.mk (Kd.S_drew HO266.out)
 replace BK252 := Aside0.mk (blk_drew BK252.out)
 replace BK267 := Aside0.mk (blk_drew BK267.out)
 replace HB := Aside0.mk (below_drew1 HB.out)
 refine start_ (n := 5) (S := fun w' => w'.cell? ⟨gb267, 0, none⟩ = some (.slice Ao26 t261.length co26) ∧ w'.cell? ⟨gb267, 1, none⟩ = some (.slice Ao29 t264.length co29) ∧ w'.cell? ⟨gb252, 0, none⟩ = some (.slice A0_0 l0_0.length c0_0) ∧ w'.cell? ⟨gb252, 1, none⟩ = some (.slice A0_1 l0_1.length c0_1)) (ds := []) #[false, false, false, false, false] (by kernel_rfl) rfl rfl ⟨bc_ BK267.out 0, bc_ BK267.out 1, bc_ BK252.out 0, bc_ BK252.out 1⟩ (fun hHeld => ?_)
 generalize w30.drew = w31 at HO256 HO259 HO263 HO266 BK252 BK267 HB hHeld ⊢
 refine tk4_ 0 (some 22) (h := ?_)
 refine tk4_ 1 (some 23) (h := ?_)
 refine on_ 2 (some 24) (h := fun K hK => ?_)
 refine goes_ Try.func9 (by kernel_rfl) rfl #[.agg #[.slice A0_0 l0_0.length c0_0, .slice A0_1 l0_1.length c0_1]] (by rfl) rfl rfl nc_ ?_
 with_reducible refine (laws_toSynod.calls k _ _ l0_0 _ _ l0_1 t269 t272 _ ?side1 ?side2 ?side3 ?side4 A12.out).mono ?_
 (case side1 => exact kc_ (Kd.C_below HR0_0.out HB.out))
 (case side2 => exact HC0_0.out)
 (case side3 => exact kc_ (Kd.C_below HR0_1.out HB.out))
 (case side4 => exact HC0_1.out)
 rintro e w32 ⟨v270, v273, rfl, ho0, ho1, hb⟩
 refine ⟨_, rfl, ?_⟩
 have HO271 := Aside0.mk (Kd.R_lower (rn_ (rn_ ho0 HO256.out) HO263.out) bz_)
 replace HO256 := Aside0.mk (Kd.R_elder' (kr_ HO256.out) (Kd.R_base ho0) hb)
 replace HO263 := Aside0.mk (Kd.R_elder' (kr_ HO263.out) (Kd.R_base ho0) hb)
 have HO274 := Aside0.mk (Kd.S_lower (Kd.S_new' (Kd.S_new' ho1 (Kd.S_lt (by (with_reducible repeat (first | apply Kd.S_alloc | apply Kd.S_drewN | apply Kd.S_drew)); exact HO259.out))) (Kd.S_lt (by (with_reducible repeat (first | apply Kd.S_alloc | apply Kd.S_drewN | apply Kd.S_drew)); exact HO266.out))) bz_)
 replace HO259 := Aside0.mk (Kd.S_elder' (by (with_reducible repeat (first | apply Kd.S_alloc | apply Kd.S_drewN | apply Kd.S_drew)); exact HO259.out) (Kd.S_base ho1) hb)
 replace HO266 := Aside0.mk (Kd.S_elder' (by (with_reducible repeat (first | apply Kd.S_alloc | apply Kd.S_drewN | apply Kd.S_drew)); exact HO266.out) (Kd.S_base ho1) hb)
 replace BK252 := bb_ BK252 hb
 replace BK267 := bb_ BK267 hb
 replace HB := Aside0.mk (below_step bl_ hb)
 clear hb ho0 ho1
 obtain ⟨Ao33, co33, eo33⟩ := Kd.R_slice HO271.out
 (first | subst eo33 | (injection eo33 with f1_ f2_ f3_; have f4_ := f1_.symm; have f5_ := f3_.symm; clear f1_ f2_ f3_; subst f4_; subst f5_))
 obtain ⟨Ao34, co34, eo34⟩ := Kd.S_slice HO274.out
 (first | subst eo34 | (injection eo34 with f1_ f2_ f3_; have f4_ := f1_.symm; have f5_ := f3_.symm; clear f1_ f2_ f3_; subst f4_; subst f5_))
 refine hK.out _ _ ⟨bc_ BK267.out 0, bc_ BK267.out 1, bc_ BK252.out 0, bc_ BK252.out 1⟩ (fun hHeld => ?_)
 clear hK K
 refine norm_ nn_ ?_
 refine on_ 3 (some 25) (h := fun K hK => ?_)
 refine goes_ Try.func12 (by kernel_rfl) rfl #[.agg #[.slice Ao26 t261.length co26, .slice Ao29 t264.length co29], .agg #[.slice Ao33 t269.length co33, .slice Ao34 t272.length co34]] (by rfl) rfl rfl nc_ ?_
 with_reducible refine (laws_eqSynod.calls k _ _ t261 _ _ t264 _ _ t269 _ _ t272 true _ ?side1 ?side2 ?side3 ?side4 ?side5 ?side6 ?side7 ?side8 A13.out).mono ?_
 (case side1 => exact kc_ (Kd.R_reads' HO263.out).2.2)
 (case side2 => exact (Kd.R_reads' HO263.out).2.1)
 (case side3 => exact kc_ (Kd.S_reads' HO266.out).2.2)
 (case side4 => exact (Kd.S_reads' HO266.out).2.1)
 (case side5 => exact kc_ (Kd.R_reads' HO271.out).2.2)
 (case side6 => exact (Kd.R_reads' HO271.out).2.1)
 (case side7 => exact kc_ (Kd.S_reads' HO274.out).2.2)
 (case side8 => exact (Kd.S_reads' HO274.out).2.1)
 rintro e w35 ⟨rfl, hb⟩
 refine ⟨_, rfl, ?_⟩
 replace HO256 := rb_ HO256 hb
 replace HO259 := Aside0.mk (Kd.S_below (by (with_reducible repeat (first | apply Kd.S_alloc | apply Kd.S_drewN | apply Kd.S_drew)); exact HO259.out) hb)
 replace HO263 := rb_ HO263 hb
 replace HO266 := Aside0.mk (Kd.S_below (by (with_reducible repeat (first | apply Kd.S_alloc | apply Kd.S_drewN | apply Kd.S_drew)); exact HO266.out) hb)
 replace HO271 := rb_ HO271 hb
 replace HO274 := Aside0.mk (Kd.S_below (by (with_reducible repeat (first | apply Kd.S_alloc | apply Kd.S_drewN | apply Kd.S_drew)); exact HO274.out) hb)
 replace BK252 := bb_ BK252 hb
 replace BK267 := bb_ BK267 hb
 replace HB := Aside0.mk (below_step bl_ hb)
 clear hb
 refine hK.out _ _ ⟨bc_ BK267.out 0, bc_ BK267.out 1, bc_ BK252.out 0, bc_ BK252.out 1⟩ (fun hHeld => ?_)
 clear hK K
 refine norm_ nn_ ?_
 refine pu_ 4 (some 26) (h := ?_)
 refine done_ (by kernel_rfl) ?_
 try go_wp2
 go_ret
 exact ⟨ng_, bl_⟩

/-! ### spec_ValueAt: function 23 -/
def spec_ValueAt.f (k : Nat) (l0_0 : List (S70)) (l0_1 : List (S54)) (a1 : Int) : Option (ByteArray × Bool) := (spec_GoodSynod.f k l0_0 l0_1).bind fun t277 => (if t277 = true then ((spec_l1In.f a1 1 (l0_1.length : Int)).bind fun t278 => (if t278 = true then (if 0 ≤ (wrap64 (a1 - 1)) then (if (wrap64 (a1 - 1)) < (l0_1.length : Int) then (if ((rd_T54 l0_1 (wrap64 (a1 - 1))).f2 = true) then (some ((rd_T54 l0_1 (wrap64 (a1 - 1))).f3, true)) else (some ((⟨#[]⟩ : ByteArray), false))) else (none)) else (none)) else (some ((⟨#[]⟩ : ByteArray), false)))) else (some ((⟨#[]⟩ : ByteArray), false)))
theorem spec_ValueAt.mono : ∀ a0 a1 a2 k, LeO (spec_ValueAt.f k a0 a1 a2) (spec_ValueAt.f (k + 1) a0 a1 a2) := by
 intro a0 a1 a2 k
 unfold spec_ValueAt.f
 repeat' first
   | (with_reducible exact spec_GoodSynod.mono _ _ _)
   | (with_reducible exact LeO.refl _)
   | (with_reducible exact LeO.none _)
   | (with_reducible refine LeO.ite ?_ ?_)
   | (with_reducible refine LeO.bind ?_ (fun _ => ?_))
   | exact spec_GoodSynod.mono _ _ _
   | exact LeO.none _
   | refine LeO.ite ?_ ?_
   | refine LeO.bind ?_ (fun _ => ?_)
set_option maxHeartbeats 8000000 in
set_option maxRecDepth 100000 in
theorem spec_ValueAt.calls (k : Nat) (A0_0 : Option Addr) (c0_0 : Nat) (l0_0 : List (S70)) (A0_1 : Option Addr) (c0_1 : Nat) (l0_1 : List (S54)) (a1 : Int) (r1 : ByteArray) (r2 : Bool) (w : World) (hr0_0 : Kd.C k70 w A0_0 l0_0.length l0_0) (hc0_0 : l0_0.length ≤ c0_0) (hr0_1 : Kd.C k54 w A0_1 l0_1.length l0_1) (hc0_1 : l0_1.length ≤ c0_1) (h : spec_ValueAt.f k l0_0 l0_1 a1 = some (r1, r2)) :
  Calls Try.prog 23 #[.agg #[.slice A0_0 l0_0.length c0_0, .slice A0_1 l0_1.length c0_1], .int .i64 a1] w fun e w' => e = .returned (.tuple #[.string r1, .bool r2]) ∧ Below w.heap.size w w' := by
 have hu33 := Try.underlying33
 have HR0_0 := Aside0.mk hr0_0
 have HC0_0 := Aside0.mk hc0_0
 clear hr0_0 hc0_0
 have HR0_1 := Aside0.mk hr0_1
 have HC0_1 := Aside0.mk hc0_1
 clear hr0_1 hc0_1
 have HB := Aside0.mk (Below.refl w.heap.size w)
 have H : ((spec_GoodSynod.f k l0_0 l0_1).bind fun t277 => (if t277 = true then ((spec_l1In.f a1 1 (l0_1.length : Int)).bind fun t278 => (if t278 = true then (if 0 ≤ (wrap64 (a1 - 1)) then (if (wrap64 (a1 - 1)) < (l0_1.length : Int) then (if ((rd_T54 l0_1 (wrap64 (a1 - 1))).f2 = true) then (some ((rd_T54 l0_1 (wrap64 (a1 - 1))).f3, true)) else (some ((⟨#[]⟩ : ByteArray), false))) else (none)) else (none)) else (some ((⟨#[]⟩ : ByteArray), false)))) else (some ((⟨#[]⟩ : ByteArray), false)))) = some (r1, r2) := h
 clear h
 replace H := Option.bind_eq_some_iff.mp H
 obtain ⟨t277, A30, H⟩ := H
 replace H : (if t277 = true then ((spec_l1In.f a1 1 (l0_1.length : Int)).bind fun t278 => (if t278 = true then (if 0 ≤ (wrap64 (a1 - 1)) then (if (wrap64 (a1 - 1)) < (l0_1.length : Int) then (if ((rd_T54 l0_1 (wrap64 (a1 - 1))).f2 = true) then (some ((rd_T54 l0_1 (wrap64 (a1 - 1))).f3, true)) else (some ((⟨#[]⟩ : ByteArray), false))) else (none)) else (none)) else (some ((⟨#[]⟩ : ByteArray), false)))) else (some ((⟨#[]⟩ : ByteArray), false))) = some (r1, r2) := H
 have A3 := Aside0.mk A30
 clear A30
 by_cases c4 : t277 = true
 rotate_left
 ·replace c4 := Bool.eq_false_iff.mpr c4
  subst c4
  have H1 : (some ((⟨#[]⟩ : ByteArray), false)) = some (r1, r2) := by rw [if_neg (show ¬ (false = true) by decide)] at H; exact H
  clear H
  have H := H1
  clear H1
  simp only [Option.some.injEq, Prod.mk.injEq] at H
  obtain ⟨rfl, rfl⟩ := H
  go_enter Try.func23, Try.ntmps23
  go_wp2_with (first | ((with_reducible refine gate_dst (N := 2) rfl ?_); (try (refine gate_guard (by rfl) ?_; dsimp only)); refine box_event rfl (N := 2) rfl (cs := #[.slice A0_0 l0_0.length c0_0, .slice A0_1 l0_1.length c0_1]) (t := 33) gs_ ?_; intro gb276 hg w24 hbox hb; have BK276 := Aside0.mk (hbox); have GW276 := Aside0.mk ((by rw [hg]; exact bz_ : w.heap.size ≤ gb276)); have GE276 := GW276; replace HB := Aside0.mk (below_step bl_ hb); clear hb hbox hg; have hcz25_0 : w24.cell? ⟨gb276, 0, none⟩ = some (.slice A0_0 l0_0.length c0_0) := bc_ BK276.out 0; have hcz25_1 : w24.cell? ⟨gb276, 1, none⟩ = some (.slice A0_1 l0_1.length c0_1) := bc_ BK276.out 1; have hfz25_0 := blk_frozen BK276.out 0; have hfz25_1 := blk_frozen BK276.out 1) | ((with_reducible refine gate_callee (f := 21) rfl ?_); refine goesL_ (some 7) rfl rfl Try.func21 (by kernel_rfl) rfl #[.agg #[.slice A0_0 l0_0.length c0_0, .slice A0_1 l0_1.length c0_1]] rfl nc_ ?_; (with_reducible refine (spec_GoodSynod.calls k _ _ l0_0 _ _ l0_1 false _ ?side1 ?side2 ?side3 ?side4 A3.out).mono ?_); (case side1 => exact kc_ (Kd.C_below HR0_0.out HB.out)); (case side2 => exact HC0_0.out); (case side3 => exact kc_ (Kd.C_below HR0_1.out HB.out)); (case side4 => exact HC0_1.out); rintro e w26 ⟨rfl, hb⟩; refine ⟨_, rfl, ?_⟩; replace BK276 := bb_ BK276 hb; replace HB := Aside0.mk (below_step bl_ hb); clear hb))
  go_ret2
  exact ⟨ng_, bl_⟩
 subst c4
 have H1 : ((spec_l1In.f a1 1 (l0_1.length : Int)).bind fun t278 => (if t278 = true then (if 0 ≤ (wrap64 (a1 - 1)) then (if (wrap64 (a1 - 1)) < (l0_1.length : Int) then (if ((rd_T54 l0_1 (wrap64 (a1 - 1))).f2 = true) then (some ((rd_T54 l0_1 (wrap64 (a1 - 1))).f3, true)) else (some ((⟨#[]⟩ : ByteArray), false))) else (none)) else (none)) else (some ((⟨#[]⟩ : ByteArray), false)))) = some (r1, r2) := by rw [if_pos rfl] at H; exact H
 clear H
 have H := H1
 clear H1
 replace H := Option.bind_eq_some_iff.mp H
 obtain ⟨t278, A50, H⟩ := H
 replace H : (if t278 = true then (if 0 ≤ (wrap64 (a1 - 1)) then (if (wrap64 (a1 - 1)) < (l0_1.length : Int) then (if ((rd_T54 l0_1 (wrap64 (a1 - 1))).f2 = true) then (some ((rd_T54 l0_1 (wrap64 (a1 - 1))).f3, true)) else (some ((⟨#[]⟩ : ByteArray), false))) else (none)) else (none)) else (some ((⟨#[]⟩ : ByteArray), false))) = some (r1, r2) := H
 have A5 := Aside0.mk A50
 clear A50
 by_cases c6 : t278 = true
 rotate_left
 ·replace c6 := Bool.eq_false_iff.mpr c6
  subst c6
  have H1 : (some ((⟨#[]⟩ : ByteArray), false)) = some (r1, r2) := by rw [if_neg (show ¬ (false = true) by decide)] at H; exact H
  clear H
  have H := H1
  clear H1
  simp only [Option.some.injEq, Prod.mk.injEq] at H
  obtain ⟨rfl, rfl⟩ := H
  go_enter Try.func23, Try.ntmps23
  go_wp2_with (first | ((with_reducible refine gate_dst (N := 2) rfl ?_); (try (refine gate_guard (by rfl) ?_; dsimp only)); refine box_event rfl (N := 2) rfl (cs := #[.slice A0_0 l0_0.length c0_0, .slice A0_1 l0_1.length c0_1]) (t := 33) gs_ ?_; intro gb276 hg w20 hbox hb; have BK276 := Aside0.mk (hbox); have GW276 := Aside0.mk ((by rw [hg]; exact bz_ : w.heap.size ≤ gb276)); have GE276 := GW276; replace HB := Aside0.mk (below_step bl_ hb); clear hb hbox hg; have hcz21_0 : w20.cell? ⟨gb276, 0, none⟩ = some (.slice A0_0 l0_0.length c0_0) := bc_ BK276.out 0; have hcz21_1 : w20.cell? ⟨gb276, 1, none⟩ = some (.slice A0_1 l0_1.length c0_1) := bc_ BK276.out 1; have hfz21_0 := blk_frozen BK276.out 0; have hfz21_1 := blk_frozen BK276.out 1) | ((with_reducible refine gate_callee (f := 21) rfl ?_); refine goesL_ (some 7) rfl rfl Try.func21 (by kernel_rfl) rfl #[.agg #[.slice A0_0 l0_0.length c0_0, .slice A0_1 l0_1.length c0_1]] rfl nc_ ?_; (with_reducible refine (spec_GoodSynod.calls k _ _ l0_0 _ _ l0_1 true _ ?side1 ?side2 ?side3 ?side4 A3.out).mono ?_); (case side1 => exact kc_ (Kd.C_below HR0_0.out HB.out)); (case side2 => exact HC0_0.out); (case side3 => exact kc_ (Kd.C_below HR0_1.out HB.out)); (case side4 => exact HC0_1.out); rintro e w22 ⟨rfl, hb⟩; refine ⟨_, rfl, ?_⟩; replace BK276 := bb_ BK276 hb; replace HB := Aside0.mk (below_step bl_ hb); clear hb; have hcz23_0 : w22.cell? ⟨gb276, 0, none⟩ = some (.slice A0_0 l0_0.length c0_0) := bc_ BK276.out 0; have hcz23_1 : w22.cell? ⟨gb276, 1, none⟩ = some (.slice A0_1 l0_1.length c0_1) := bc_ BK276.out 1; have hfz23_0 := blk_frozen BK276.out 0; have hfz23_1 := blk_frozen BK276.out 1) | (go_at_call 39; (with_reducible refine (spec_l1In.calls a1 1 (l0_1.length : Int) false _ A5.out).mono ?_); rintro e w' ⟨rfl, ⟨nd, rfl⟩⟩))
  go_ret2
  exact ⟨ng_, bl_⟩
 subst c6
 have H1 : (if 0 ≤ (wrap64 (a1 - 1)) then (if (wrap64 (a1 - 1)) < (l0_1.length : Int) then (if ((rd_T54 l0_1 (wrap64 (a1 - 1))).f2 = true) then (some ((rd_T54 l0_1 (wrap64 (a1 - 1))).f3, true)) else (some ((⟨#[]⟩ : ByteArray), false))) else (none)) else (none)) = some (r1, r2) := by rw [if_pos rfl] at H; exact H
 clear H
 have H := H1
 clear H1
 obtain ⟨ji7, hji7⟩ : ∃ j_ : Int, (wrap64 (a1 - 1)) = j_ := ⟨_, rfl⟩
 replace H : (if 0 ≤ (ji7) then (if (ji7) < (l0_1.length : Int) then (if ((rd_T54 l0_1 (ji7)).f2 = true) then (some ((rd_T54 l0_1 (ji7)).f3, true)) else (some ((⟨#[]⟩ : ByteArray), false))) else (none)) else (none)) = some (r1, r2) := by first | (rw [hji7] at H; exact H) | (simp only [hji7] at H ⊢; exact H)
 (try rw [hji7] at A3)
 (try rw [hji7] at A5)
 have hji7w : (IntKind.i64.wrap (a1 - 1)) = ji7 := (i64_w _).trans hji7
 by_cases c8 : 0 ≤ (ji7)
 rotate_left
 ·rw [if_neg c8] at H
  exact absurd H (by simp)
 rw [if_pos c8] at H
 have c8b0 : decide (0 ≤ (ji7)) = true := decide_eq_true c8
 clear c8
 by_cases c9 : (ji7) < (l0_1.length : Int)
 rotate_left
 ·rw [if_neg c9] at H
  exact absurd H (by simp)
 rw [if_pos c9] at H
 have c9b0 : decide ((ji7) < (l0_1.length : Int)) = true := decide_eq_true c9
 clear c9
 obtain ⟨bq10, hbq10⟩ : ∃ b_ : Bool, b_ = ((rd_T54 l0_1 (ji7)).f2) := ⟨_, rfl⟩
 replace H : (if (bq10 = true) then (some ((rd_T54 l0_1 (ji7)).f3, true)) else (some ((⟨#[]⟩ : ByteArray), false))) = some (r1, r2) := by rw [← hbq10] at H; exact H
 have Nbq10 := Aside0.mk hbq10
 clear hbq10
 by_cases c11 : (bq10 = true)
 rotate_left
 ·replace c11 := Bool.eq_false_iff.mpr c11
  subst c11
  have H1 : (some ((⟨#[]⟩ : ByteArray), false)) = some (r1, r2) := by rw [if_neg (show ¬ (false = true) by decide)] at H; exact H
  clear H
  have H := H1
  clear H1
  simp only [Option.some.injEq, Prod.mk.injEq] at H
  obtain ⟨rfl, rfl⟩ := H
  go_enter Try.func23, Try.ntmps23
  go_wp2_with (first | ((with_reducible refine gate_dst (N := 2) rfl ?_); (try (refine gate_guard (by rfl) ?_; dsimp only)); refine box_event rfl (N := 2) rfl (cs := #[.slice A0_0 l0_0.length c0_0, .slice A0_1 l0_1.length c0_1]) (t := 33) gs_ ?_; intro gb276 hg w16 hbox hb; have BK276 := Aside0.mk (hbox); have GW276 := Aside0.mk ((by rw [hg]; exact bz_ : w.heap.size ≤ gb276)); have GE276 := GW276; replace HB := Aside0.mk (below_step bl_ hb); clear hb hbox hg; have hcz17_0 : w16.cell? ⟨gb276, 0, none⟩ = some (.slice A0_0 l0_0.length c0_0) := bc_ BK276.out 0; have hcz17_1 : w16.cell? ⟨gb276, 1, none⟩ = some (.slice A0_1 l0_1.length c0_1) := bc_ BK276.out 1; have hfz17_0 := blk_frozen BK276.out 0; have hfz17_1 := blk_frozen BK276.out 1) | ((with_reducible refine gate_callee (f := 21) rfl ?_); refine goesL_ (some 7) rfl rfl Try.func21 (by kernel_rfl) rfl #[.agg #[.slice A0_0 l0_0.length c0_0, .slice A0_1 l0_1.length c0_1]] rfl nc_ ?_; (with_reducible refine (spec_GoodSynod.calls k _ _ l0_0 _ _ l0_1 true _ ?side1 ?side2 ?side3 ?side4 A3.out).mono ?_); (case side1 => exact kc_ (Kd.C_below HR0_0.out HB.out)); (case side2 => exact HC0_0.out); (case side3 => exact kc_ (Kd.C_below HR0_1.out HB.out)); (case side4 => exact HC0_1.out); rintro e w18 ⟨rfl, hb⟩; refine ⟨_, rfl, ?_⟩; replace BK276 := bb_ BK276 hb; replace HB := Aside0.mk (below_step bl_ hb); clear hb; have hcz19_0 : w18.cell? ⟨gb276, 0, none⟩ = some (.slice A0_0 l0_0.length c0_0) := bc_ BK276.out 0; have hcz19_1 : w18.cell? ⟨gb276, 1, none⟩ = some (.slice A0_1 l0_1.length c0_1) := bc_ BK276.out 1; have hfz19_0 := blk_frozen BK276.out 0; have hfz19_1 := blk_frozen BK276.out 1) | (go_at_call 39; (with_reducible refine (spec_l1In.calls a1 1 (l0_1.length : Int) true _ A5.out).mono ?_); rintro e w' ⟨rfl, ⟨nd, rfl⟩⟩; have p279 : 0 ≤ ((ji7) : Int) := of_decide_eq_true (by first | (with_reducible assumption) | assumption); have q279 : (ji7) < (l0_1.length : Int) := of_decide_eq_true (by first | (with_reducible assumption) | assumption); obtain ⟨ad279, A279_1, c279_1, A279_4, c279_4, e279, hx279_0, hx279_1, hx279_2, hx279_3, hx279_4, hl279_1, hi279_1, hl279_4, hi279_4⟩ := at_T54 HR0_1.out (ji7) p279 q279; (try rw [← Nbq10.out] at hx279_2); cases e279; replace hx279_0 := (HB.out.cell (World.block_lt_of_cell? w _ hx279_0)).trans hx279_0; replace hx279_1 := (HB.out.cell (World.block_lt_of_cell? w _ hx279_1)).trans hx279_1; replace hx279_2 := (HB.out.cell (World.block_lt_of_cell? w _ hx279_2)).trans hx279_2; replace hx279_3 := (HB.out.cell (World.block_lt_of_cell? w _ hx279_3)).trans hx279_3; replace hx279_4 := (HB.out.cell (World.block_lt_of_cell? w _ hx279_4)).trans hx279_4; have HR279_1 := Aside0.mk hi279_1; have HC279_1 := Aside0.mk hl279_1; clear hi279_1 hl279_1; have HR279_4 := Aside0.mk hi279_4; have HC279_4 := Aside0.mk hl279_4; clear hi279_4 hl279_4; replace p279 := eq_true p279; replace q279 := eq_true q279))
  go_ret2
  exact ⟨by first | rfl | (simp [errW_none, errW_some] <;> rfl) | (simp only [← hji7]; first | rfl | (simp [errW_none, errW_some] <;> rfl)) | (simp [*, errW_none, errW_some] <;> rfl), bl_⟩
 subst c11
 have H1 : (some ((rd_T54 l0_1 (ji7)).f3, true)) = some (r1, r2) := by rw [if_pos rfl] at H; exact H
 clear H
 have H := H1
 clear H1
 simp only [Option.some.injEq, Prod.mk.injEq] at H
 obtain ⟨rfl, rfl⟩ := H
 go_enter Try.func23, Try.ntmps23
 go_wp2_with (first | ((with_reducible refine gate_dst (N := 2) rfl ?_); (try (refine gate_guard (by rfl) ?_; dsimp only)); refine box_event rfl (N := 2) rfl (cs := #[.slice A0_0 l0_0.length c0_0, .slice A0_1 l0_1.length c0_1]) (t := 33) gs_ ?_; intro gb276 hg w12 hbox hb; have BK276 := Aside0.mk (hbox); have GW276 := Aside0.mk ((by rw [hg]; exact bz_ : w.heap.size ≤ gb276)); have GE276 := GW276; replace HB := Aside0.mk (below_step bl_ hb); clear hb hbox hg; have hcz13_0 : w12.cell? ⟨gb276, 0, none⟩ = some (.slice A0_0 l0_0.length c0_0) := bc_ BK276.out 0; have hcz13_1 : w12.cell? ⟨gb276, 1, none⟩ = some (.slice A0_1 l0_1.length c0_1) := bc_ BK276.out 1; have hfz13_0 := blk_frozen BK276.out 0; have hfz13_1 := blk_frozen BK276.out 1) | ((with_reducible refine gate_callee (f := 21) rfl ?_); refine goesL_ (some 7) rfl rfl Try.func21 (by kernel_rfl) rfl #[.agg #[.slice A0_0 l0_0.length c0_0, .slice A0_1 l0_1.length c0_1]] rfl nc_ ?_; (with_reducible refine (spec_GoodSynod.calls k _ _ l0_0 _ _ l0_1 true _ ?side1 ?side2 ?side3 ?side4 A3.out).mono ?_); (case side1 => exact kc_ (Kd.C_below HR0_0.out HB.out)); (case side2 => exact HC0_0.out); (case side3 => exact kc_ (Kd.C_below HR0_1.out HB.out)); (case side4 => exact HC0_1.out); rintro e w14 ⟨rfl, hb⟩; refine ⟨_, rfl, ?_⟩; replace BK276 := bb_ BK276 hb; replace HB := Aside0.mk (below_step bl_ hb); clear hb; have hcz15_0 : w14.cell? ⟨gb276, 0, none⟩ = some (.slice A0_0 l0_0.length c0_0) := bc_ BK276.out 0; have hcz15_1 : w14.cell? ⟨gb276, 1, none⟩ = some (.slice A0_1 l0_1.length c0_1) := bc_ BK276.out 1; have hfz15_0 := blk_frozen BK276.out 0; have hfz15_1 := blk_frozen BK276.out 1) | (go_at_call 39; (with_reducible refine (spec_l1In.calls a1 1 (l0_1.length : Int) true _ A5.out).mono ?_); rintro e w' ⟨rfl, ⟨nd, rfl⟩⟩; have p279 : 0 ≤ ((ji7) : Int) := of_decide_eq_true (by first | (with_reducible assumption) | assumption); have q279 : (ji7) < (l0_1.length : Int) := of_decide_eq_true (by first | (with_reducible assumption) | assumption); obtain ⟨ad279, A279_1, c279_1, A279_4, c279_4, e279, hx279_0, hx279_1, hx279_2, hx279_3, hx279_4, hl279_1, hi279_1, hl279_4, hi279_4⟩ := at_T54 HR0_1.out (ji7) p279 q279; (try rw [← Nbq10.out] at hx279_2); cases e279; replace hx279_0 := (HB.out.cell (World.block_lt_of_cell? w _ hx279_0)).trans hx279_0; replace hx279_1 := (HB.out.cell (World.block_lt_of_cell? w _ hx279_1)).trans hx279_1; replace hx279_2 := (HB.out.cell (World.block_lt_of_cell? w _ hx279_2)).trans hx279_2; replace hx279_3 := (HB.out.cell (World.block_lt_of_cell? w _ hx279_3)).trans hx279_3; replace hx279_4 := (HB.out.cell (World.block_lt_of_cell? w _ hx279_4)).trans hx279_4; have HR279_1 := Aside0.mk hi279_1; have HC279_1 := Aside0.mk hl279_1; clear hi279_1 hl279_1; have HR279_4 := Aside0.mk hi279_4; have HC279_4 := Aside0.mk hl279_4; clear hi279_4 hl279_4; replace p279 := eq_true p279; replace q279 := eq_true q279; have p280 : 0 ≤ ((ji7) : Int) := of_decide_eq_true (by first | (with_reducible assumption) | assumption); have q280 : (ji7) < (l0_1.length : Int) := of_decide_eq_true (by first | (with_reducible assumption) | assumption); obtain ⟨ad280, A280_1, c280_1, A280_4, c280_4, e280, hx280_0, hx280_1, hx280_2, hx280_3, hx280_4, hl280_1, hi280_1, hl280_4, hi280_4⟩ := at_T54 HR0_1.out (ji7) p280 q280; (try rw [← Nbq10.out] at hx280_2); obtain rfl : ad279 = ad280 := (by injection e280); replace hx280_0 := (HB.out.cell (World.block_lt_of_cell? w _ hx280_0)).trans hx280_0; replace hx280_1 := (HB.out.cell (World.block_lt_of_cell? w _ hx280_1)).trans hx280_1; replace hx280_2 := (HB.out.cell (World.block_lt_of_cell? w _ hx280_2)).trans hx280_2; replace hx280_3 := (HB.out.cell (World.block_lt_of_cell? w _ hx280_3)).trans hx280_3; replace hx280_4 := (HB.out.cell (World.block_lt_of_cell? w _ hx280_4)).trans hx280_4; have HR280_1 := Aside0.mk hi280_1; have HC280_1 := Aside0.mk hl280_1; clear hi280_1 hl280_1; have HR280_4 := Aside0.mk hi280_4; have HC280_4 := Aside0.mk hl280_4; clear hi280_4 hl280_4; replace p280 := eq_true p280; replace q280 := eq_true q280; have ea_ := Option.some.inj (hx279_1.symm.trans hx280_1); injection ea_ with ea_ en_ ec_; subst ea_; subst ec_; clear en_; have ea_ := Option.some.inj (hx279_4.symm.trans hx280_4); injection ea_ with ea_ en_ ec_; subst ea_; subst ec_; clear en_))
 go_ret2
 exact ⟨by first | rfl | (simp [errW_none, errW_some] <;> rfl) | (simp only [← hji7]; first | rfl | (simp [errW_none, errW_some] <;> rfl)) | (simp [*, errW_none, errW_some] <;> rfl), bl_⟩

/-! ### impl_ValueAt: function 24 -/
def impl_ValueAt.f (k : Nat) (l0_0 : List (S70)) (l0_1 : List (S54)) (a1 : Int) : Option (ByteArray × Bool) := (impl_isSynod.f k l0_0 l0_1).bind fun t282 => (if t282 = true then ((impl_in.f a1 1 (l0_1.length : Int)).bind fun t283 => (if t283 = true then (if 0 ≤ (wrap64 (a1 - 1)) then (if (wrap64 (a1 - 1)) < (l0_1.length : Int) then (if ((rd_T54 l0_1 (wrap64 (a1 - 1))).f2 = true) then (some ((rd_T54 l0_1 (wrap64 (a1 - 1))).f3, true)) else (some ((⟨#[]⟩ : ByteArray), false))) else (none)) else (none)) else (some ((⟨#[]⟩ : ByteArray), false)))) else (some ((⟨#[]⟩ : ByteArray), false)))
theorem impl_ValueAt.mono : ∀ a0 a1 a2 k, LeO (impl_ValueAt.f k a0 a1 a2) (impl_ValueAt.f (k + 1) a0 a1 a2) := by
 intro a0 a1 a2 k
 unfold impl_ValueAt.f
 repeat' first
   | (with_reducible exact impl_isSynod.mono _ _ _)
   | (with_reducible exact LeO.refl _)
   | (with_reducible exact LeO.none _)
   | (with_reducible refine LeO.ite ?_ ?_)
   | (with_reducible refine LeO.bind ?_ (fun _ => ?_))
   | exact impl_isSynod.mono _ _ _
   | exact LeO.none _
   | refine LeO.ite ?_ ?_
   | refine LeO.bind ?_ (fun _ => ?_)
set_option maxHeartbeats 8000000 in
set_option maxRecDepth 100000 in
theorem impl_ValueAt.calls (k : Nat) (A0_0 : Option Addr) (c0_0 : Nat) (l0_0 : List (S70)) (A0_1 : Option Addr) (c0_1 : Nat) (l0_1 : List (S54)) (a1 : Int) (r1 : ByteArray) (r2 : Bool) (w : World) (hr0_0 : Kd.C k70 w A0_0 l0_0.length l0_0) (hc0_0 : l0_0.length ≤ c0_0) (hr0_1 : Kd.C k54 w A0_1 l0_1.length l0_1) (hc0_1 : l0_1.length ≤ c0_1) (h : impl_ValueAt.f k l0_0 l0_1 a1 = some (r1, r2)) :
  Calls Try.prog 24 #[.agg #[.slice A0_0 l0_0.length c0_0, .slice A0_1 l0_1.length c0_1], .int .i64 a1] w fun e w' => e = .returned (.tuple #[.string r1, .bool r2]) ∧ Below w.heap.size w w' := by
 have hu33 := Try.underlying33
 have HR0_0 := Aside0.mk hr0_0
 have HC0_0 := Aside0.mk hc0_0
 clear hr0_0 hc0_0
 have HR0_1 := Aside0.mk hr0_1
 have HC0_1 := Aside0.mk hc0_1
 clear hr0_1 hc0_1
 have HB := Aside0.mk (Below.refl w.heap.size w)
 have H : ((impl_isSynod.f k l0_0 l0_1).bind fun t282 => (if t282 = true then ((impl_in.f a1 1 (l0_1.length : Int)).bind fun t283 => (if t283 = true then (if 0 ≤ (wrap64 (a1 - 1)) then (if (wrap64 (a1 - 1)) < (l0_1.length : Int) then (if ((rd_T54 l0_1 (wrap64 (a1 - 1))).f2 = true) then (some ((rd_T54 l0_1 (wrap64 (a1 - 1))).f3, true)) else (some ((⟨#[]⟩ : ByteArray), false))) else (none)) else (none)) else (some ((⟨#[]⟩ : ByteArray), false)))) else (some ((⟨#[]⟩ : ByteArray), false)))) = some (r1, r2) := h
 clear h
 replace H := Option.bind_eq_some_iff.mp H
 obtain ⟨t282, A30, H⟩ := H
 replace H : (if t282 = true then ((impl_in.f a1 1 (l0_1.length : Int)).bind fun t283 => (if t283 = true then (if 0 ≤ (wrap64 (a1 - 1)) then (if (wrap64 (a1 - 1)) < (l0_1.length : Int) then (if ((rd_T54 l0_1 (wrap64 (a1 - 1))).f2 = true) then (some ((rd_T54 l0_1 (wrap64 (a1 - 1))).f3, true)) else (some ((⟨#[]⟩ : ByteArray), false))) else (none)) else (none)) else (some ((⟨#[]⟩ : ByteArray), false)))) else (some ((⟨#[]⟩ : ByteArray), false))) = some (r1, r2) := H
 have A3 := Aside0.mk A30
 clear A30
 by_cases c4 : t282 = true
 rotate_left
 ·replace c4 := Bool.eq_false_iff.mpr c4
  subst c4
  have H1 : (some ((⟨#[]⟩ : ByteArray), false)) = some (r1, r2) := by rw [if_neg (show ¬ (false = true) by decide)] at H; exact H
  clear H
  have H := H1
  clear H1
  simp only [Option.some.injEq, Prod.mk.injEq] at H
  obtain ⟨rfl, rfl⟩ := H
  go_enter Try.func24, Try.ntmps24
  go_wp2_with (first | ((with_reducible refine gate_dst (N := 2) rfl ?_); (try (refine gate_guard (by rfl) ?_; dsimp only)); refine box_event rfl (N := 2) rfl (cs := #[.slice A0_0 l0_0.length c0_0, .slice A0_1 l0_1.length c0_1]) (t := 33) gs_ ?_; intro gb281 hg w24 hbox hb; have BK281 := Aside0.mk (hbox); have GW281 := Aside0.mk ((by rw [hg]; exact bz_ : w.heap.size ≤ gb281)); have GE281 := GW281; replace HB := Aside0.mk (below_step bl_ hb); clear hb hbox hg; have hcz25_0 : w24.cell? ⟨gb281, 0, none⟩ = some (.slice A0_0 l0_0.length c0_0) := bc_ BK281.out 0; have hcz25_1 : w24.cell? ⟨gb281, 1, none⟩ = some (.slice A0_1 l0_1.length c0_1) := bc_ BK281.out 1; have hfz25_0 := blk_frozen BK281.out 0; have hfz25_1 := blk_frozen BK281.out 1) | ((with_reducible refine gate_callee (f := 30) rfl ?_); refine goesL_ (some 7) rfl rfl Try.func30 (by kernel_rfl) rfl #[.agg #[.slice A0_0 l0_0.length c0_0, .slice A0_1 l0_1.length c0_1]] rfl nc_ ?_; (with_reducible refine (impl_isSynod.calls k _ _ l0_0 _ _ l0_1 false _ ?side1 ?side2 ?side3 ?side4 A3.out).mono ?_); (case side1 => exact kc_ (Kd.C_below HR0_0.out HB.out)); (case side2 => exact HC0_0.out); (case side3 => exact kc_ (Kd.C_below HR0_1.out HB.out)); (case side4 => exact HC0_1.out); rintro e w26 ⟨rfl, hb⟩; refine ⟨_, rfl, ?_⟩; replace BK281 := bb_ BK281 hb; replace HB := Aside0.mk (below_step bl_ hb); clear hb))
  go_ret2
  exact ⟨ng_, bl_⟩
 subst c4
 have H1 : ((impl_in.f a1 1 (l0_1.length : Int)).bind fun t283 => (if t283 = true then (if 0 ≤ (wrap64 (a1 - 1)) then (if (wrap64 (a1 - 1)) < (l0_1.length : Int) then (if ((rd_T54 l0_1 (wrap64 (a1 - 1))).f2 = true) then (some ((rd_T54 l0_1 (wrap64 (a1 - 1))).f3, true)) else (some ((⟨#[]⟩ : ByteArray), false))) else (none)) else (none)) else (some ((⟨#[]⟩ : ByteArray), false)))) = some (r1, r2) := by rw [if_pos rfl] at H; exact H
 clear H
 have H := H1
 clear H1
 replace H := Option.bind_eq_some_iff.mp H
 obtain ⟨t283, A50, H⟩ := H
 replace H : (if t283 = true then (if 0 ≤ (wrap64 (a1 - 1)) then (if (wrap64 (a1 - 1)) < (l0_1.length : Int) then (if ((rd_T54 l0_1 (wrap64 (a1 - 1))).f2 = true) then (some ((rd_T54 l0_1 (wrap64 (a1 - 1))).f3, true)) else (some ((⟨#[]⟩ : ByteArray), false))) else (none)) else (none)) else (some ((⟨#[]⟩ : ByteArray), false))) = some (r1, r2) := H
 have A5 := Aside0.mk A50
 clear A50
 by_cases c6 : t283 = true
 rotate_left
 ·replace c6 := Bool.eq_false_iff.mpr c6
  subst c6
  have H1 : (some ((⟨#[]⟩ : ByteArray), false)) = some (r1, r2) := by rw [if_neg (show ¬ (false = true) by decide)] at H; exact H
  clear H
  have H := H1
  clear H1
  simp only [Option.some.injEq, Prod.mk.injEq] at H
  obtain ⟨rfl, rfl⟩ := H
  go_enter Try.func24, Try.ntmps24
  go_wp2_with (first | ((with_reducible refine gate_dst (N := 2) rfl ?_); (try (refine gate_guard (by rfl) ?_; dsimp only)); refine box_event rfl (N := 2) rfl (cs := #[.slice A0_0 l0_0.length c0_0, .slice A0_1 l0_1.length c0_1]) (t := 33) gs_ ?_; intro gb281 hg w20 hbox hb; have BK281 := Aside0.mk (hbox); have GW281 := Aside0.mk ((by rw [hg]; exact bz_ : w.heap.size ≤ gb281)); have GE281 := GW281; replace HB := Aside0.mk (below_step bl_ hb); clear hb hbox hg; have hcz21_0 : w20.cell? ⟨gb281, 0, none⟩ = some (.slice A0_0 l0_0.length c0_0) := bc_ BK281.out 0; have hcz21_1 : w20.cell? ⟨gb281, 1, none⟩ = some (.slice A0_1 l0_1.length c0_1) := bc_ BK281.out 1; have hfz21_0 := blk_frozen BK281.out 0; have hfz21_1 := blk_frozen BK281.out 1) | ((with_reducible refine gate_callee (f := 30) rfl ?_); refine goesL_ (some 7) rfl rfl Try.func30 (by kernel_rfl) rfl #[.agg #[.slice A0_0 l0_0.length c0_0, .slice A0_1 l0_1.length c0_1]] rfl nc_ ?_; (with_reducible refine (impl_isSynod.calls k _ _ l0_0 _ _ l0_1 true _ ?side1 ?side2 ?side3 ?side4 A3.out).mono ?_); (case side1 => exact kc_ (Kd.C_below HR0_0.out HB.out)); (case side2 => exact HC0_0.out); (case side3 => exact kc_ (Kd.C_below HR0_1.out HB.out)); (case side4 => exact HC0_1.out); rintro e w22 ⟨rfl, hb⟩; refine ⟨_, rfl, ?_⟩; replace BK281 := bb_ BK281 hb; replace HB := Aside0.mk (below_step bl_ hb); clear hb; have hcz23_0 : w22.cell? ⟨gb281, 0, none⟩ = some (.slice A0_0 l0_0.length c0_0) := bc_ BK281.out 0; have hcz23_1 : w22.cell? ⟨gb281, 1, none⟩ = some (.slice A0_1 l0_1.length c0_1) := bc_ BK281.out 1; have hfz23_0 := blk_frozen BK281.out 0; have hfz23_1 := blk_frozen BK281.out 1) | (go_at_call 46; (with_reducible refine (impl_in.calls a1 1 (l0_1.length : Int) false _ A5.out).mono ?_); rintro e w' ⟨rfl, ⟨nd, rfl⟩⟩))
  go_ret2
  exact ⟨ng_, bl_⟩
 subst c6
 have H1 : (if 0 ≤ (wrap64 (a1 - 1)) then (if (wrap64 (a1 - 1)) < (l0_1.length : Int) then (if ((rd_T54 l0_1 (wrap64 (a1 - 1))).f2 = true) then (some ((rd_T54 l0_1 (wrap64 (a1 - 1))).f3, true)) else (some ((⟨#[]⟩ : ByteArray), false))) else (none)) else (none)) = some (r1, r2) := by rw [if_pos rfl] at H; exact H
 clear H
 have H := H1
 clear H1
 obtain ⟨ji7, hji7⟩ : ∃ j_ : Int, (wrap64 (a1 - 1)) = j_ := ⟨_, rfl⟩
 replace H : (if 0 ≤ (ji7) then (if (ji7) < (l0_1.length : Int) then (if ((rd_T54 l0_1 (ji7)).f2 = true) then (some ((rd_T54 l0_1 (ji7)).f3, true)) else (some ((⟨#[]⟩ : ByteArray), false))) else (none)) else (none)) = some (r1, r2) := by first | (rw [hji7] at H; exact H) | (simp only [hji7] at H ⊢; exact H)
 (try rw [hji7] at A3)
 (try rw [hji7] at A5)
 have hji7w : (IntKind.i64.wrap (a1 - 1)) = ji7 := (i64_w _).trans hji7
 by_cases c8 : 0 ≤ (ji7)
 rotate_left
 ·rw [if_neg c8] at H
  exact absurd H (by simp)
 rw [if_pos c8] at H
 have c8b0 : decide (0 ≤ (ji7)) = true := decide_eq_true c8
 clear c8
 by_cases c9 : (ji7) < (l0_1.length : Int)
 rotate_left
 ·rw [if_neg c9] at H
  exact absurd H (by simp)
 rw [if_pos c9] at H
 have c9b0 : decide ((ji7) < (l0_1.length : Int)) = true := decide_eq_true c9
 clear c9
 obtain ⟨bq10, hbq10⟩ : ∃ b_ : Bool, b_ = ((rd_T54 l0_1 (ji7)).f2) := ⟨_, rfl⟩
 replace H : (if (bq10 = true) then (some ((rd_T54 l0_1 (ji7)).f3, true)) else (some ((⟨#[]⟩ : ByteArray), false))) = some (r1, r2) := by rw [← hbq10] at H; exact H
 have Nbq10 := Aside0.mk hbq10
 clear hbq10
 by_cases c11 : (bq10 = true)
 rotate_left
 ·replace c11 := Bool.eq_false_iff.mpr c11
  subst c11
  have H1 : (some ((⟨#[]⟩ : ByteArray), false)) = some (r1, r2) := by rw [if_neg (show ¬ (false = true) by decide)] at H; exact H
  clear H
  have H := H1
  clear H1
  simp only [Option.some.injEq, Prod.mk.injEq] at H
  obtain ⟨rfl, rfl⟩ := H
  go_enter Try.func24, Try.ntmps24
  go_wp2_with (first | ((with_reducible refine gate_dst (N := 2) rfl ?_); (try (refine gate_guard (by rfl) ?_; dsimp only)); refine box_event rfl (N := 2) rfl (cs := #[.slice A0_0 l0_0.length c0_0, .slice A0_1 l0_1.length c0_1]) (t := 33) gs_ ?_; intro gb281 hg w16 hbox hb; have BK281 := Aside0.mk (hbox); have GW281 := Aside0.mk ((by rw [hg]; exact bz_ : w.heap.size ≤ gb281)); have GE281 := GW281; replace HB := Aside0.mk (below_step bl_ hb); clear hb hbox hg; have hcz17_0 : w16.cell? ⟨gb281, 0, none⟩ = some (.slice A0_0 l0_0.length c0_0) := bc_ BK281.out 0; have hcz17_1 : w16.cell? ⟨gb281, 1, none⟩ = some (.slice A0_1 l0_1.length c0_1) := bc_ BK281.out 1; have hfz17_0 := blk_frozen BK281.out 0; have hfz17_1 := blk_frozen BK281.out 1) | ((with_reducible refine gate_callee (f := 30) rfl ?_); refine goesL_ (some 7) rfl rfl Try.func30 (by kernel_rfl) rfl #[.agg #[.slice A0_0 l0_0.length c0_0, .slice A0_1 l0_1.length c0_1]] rfl nc_ ?_; (with_reducible refine (impl_isSynod.calls k _ _ l0_0 _ _ l0_1 true _ ?side1 ?side2 ?side3 ?side4 A3.out).mono ?_); (case side1 => exact kc_ (Kd.C_below HR0_0.out HB.out)); (case side2 => exact HC0_0.out); (case side3 => exact kc_ (Kd.C_below HR0_1.out HB.out)); (case side4 => exact HC0_1.out); rintro e w18 ⟨rfl, hb⟩; refine ⟨_, rfl, ?_⟩; replace BK281 := bb_ BK281 hb; replace HB := Aside0.mk (below_step bl_ hb); clear hb; have hcz19_0 : w18.cell? ⟨gb281, 0, none⟩ = some (.slice A0_0 l0_0.length c0_0) := bc_ BK281.out 0; have hcz19_1 : w18.cell? ⟨gb281, 1, none⟩ = some (.slice A0_1 l0_1.length c0_1) := bc_ BK281.out 1; have hfz19_0 := blk_frozen BK281.out 0; have hfz19_1 := blk_frozen BK281.out 1) | (go_at_call 46; (with_reducible refine (impl_in.calls a1 1 (l0_1.length : Int) true _ A5.out).mono ?_); rintro e w' ⟨rfl, ⟨nd, rfl⟩⟩; have p284 : 0 ≤ ((ji7) : Int) := of_decide_eq_true (by first | (with_reducible assumption) | assumption); have q284 : (ji7) < (l0_1.length : Int) := of_decide_eq_true (by first | (with_reducible assumption) | assumption); obtain ⟨ad284, A284_1, c284_1, A284_4, c284_4, e284, hx284_0, hx284_1, hx284_2, hx284_3, hx284_4, hl284_1, hi284_1, hl284_4, hi284_4⟩ := at_T54 HR0_1.out (ji7) p284 q284; (try rw [← Nbq10.out] at hx284_2); cases e284; replace hx284_0 := (HB.out.cell (World.block_lt_of_cell? w _ hx284_0)).trans hx284_0; replace hx284_1 := (HB.out.cell (World.block_lt_of_cell? w _ hx284_1)).trans hx284_1; replace hx284_2 := (HB.out.cell (World.block_lt_of_cell? w _ hx284_2)).trans hx284_2; replace hx284_3 := (HB.out.cell (World.block_lt_of_cell? w _ hx284_3)).trans hx284_3; replace hx284_4 := (HB.out.cell (World.block_lt_of_cell? w _ hx284_4)).trans hx284_4; have HR284_1 := Aside0.mk hi284_1; have HC284_1 := Aside0.mk hl284_1; clear hi284_1 hl284_1; have HR284_4 := Aside0.mk hi284_4; have HC284_4 := Aside0.mk hl284_4; clear hi284_4 hl284_4; replace p284 := eq_true p284; replace q284 := eq_true q284))
  go_ret2
  exact ⟨by first | rfl | (simp [errW_none, errW_some] <;> rfl) | (simp only [← hji7]; first | rfl | (simp [errW_none, errW_some] <;> rfl)) | (simp [*, errW_none, errW_some] <;> rfl), bl_⟩
 subst c11
 have H1 : (some ((rd_T54 l0_1 (ji7)).f3, true)) = some (r1, r2) := by rw [if_pos rfl] at H; exact H
 clear H
 have H := H1
 clear H1
 simp only [Option.some.injEq, Prod.mk.injEq] at H
 obtain ⟨rfl, rfl⟩ := H
 go_enter Try.func24, Try.ntmps24
 go_wp2_with (first | ((with_reducible refine gate_dst (N := 2) rfl ?_); (try (refine gate_guard (by rfl) ?_; dsimp only)); refine box_event rfl (N := 2) rfl (cs := #[.slice A0_0 l0_0.length c0_0, .slice A0_1 l0_1.length c0_1]) (t := 33) gs_ ?_; intro gb281 hg w12 hbox hb; have BK281 := Aside0.mk (hbox); have GW281 := Aside0.mk ((by rw [hg]; exact bz_ : w.heap.size ≤ gb281)); have GE281 := GW281; replace HB := Aside0.mk (below_step bl_ hb); clear hb hbox hg; have hcz13_0 : w12.cell? ⟨gb281, 0, none⟩ = some (.slice A0_0 l0_0.length c0_0) := bc_ BK281.out 0; have hcz13_1 : w12.cell? ⟨gb281, 1, none⟩ = some (.slice A0_1 l0_1.length c0_1) := bc_ BK281.out 1; have hfz13_0 := blk_frozen BK281.out 0; have hfz13_1 := blk_frozen BK281.out 1) | ((with_reducible refine gate_callee (f := 30) rfl ?_); refine goesL_ (some 7) rfl rfl Try.func30 (by kernel_rfl) rfl #[.agg #[.slice A0_0 l0_0.length c0_0, .slice A0_1 l0_1.length c0_1]] rfl nc_ ?_; (with_reducible refine (impl_isSynod.calls k _ _ l0_0 _ _ l0_1 true _ ?side1 ?side2 ?side3 ?side4 A3.out).mono ?_); (case side1 => exact kc_ (Kd.C_below HR0_0.out HB.out)); (case side2 => exact HC0_0.out); (case side3 => exact kc_ (Kd.C_below HR0_1.out HB.out)); (case side4 => exact HC0_1.out); rintro e w14 ⟨rfl, hb⟩; refine ⟨_, rfl, ?_⟩; replace BK281 := bb_ BK281 hb; replace HB := Aside0.mk (below_step bl_ hb); clear hb; have hcz15_0 : w14.cell? ⟨gb281, 0, none⟩ = some (.slice A0_0 l0_0.length c0_0) := bc_ BK281.out 0; have hcz15_1 : w14.cell? ⟨gb281, 1, none⟩ = some (.slice A0_1 l0_1.length c0_1) := bc_ BK281.out 1; have hfz15_0 := blk_frozen BK281.out 0; have hfz15_1 := blk_frozen BK281.out 1) | (go_at_call 46; (with_reducible refine (impl_in.calls a1 1 (l0_1.length : Int) true _ A5.out).mono ?_); rintro e w' ⟨rfl, ⟨nd, rfl⟩⟩; have p284 : 0 ≤ ((ji7) : Int) := of_decide_eq_true (by first | (with_reducible assumption) | assumption); have q284 : (ji7) < (l0_1.length : Int) := of_decide_eq_true (by first | (with_reducible assumption) | assumption); obtain ⟨ad284, A284_1, c284_1, A284_4, c284_4, e284, hx284_0, hx284_1, hx284_2, hx284_3, hx284_4, hl284_1, hi284_1, hl284_4, hi284_4⟩ := at_T54 HR0_1.out (ji7) p284 q284; (try rw [← Nbq10.out] at hx284_2); cases e284; replace hx284_0 := (HB.out.cell (World.block_lt_of_cell? w _ hx284_0)).trans hx284_0; replace hx284_1 := (HB.out.cell (World.block_lt_of_cell? w _ hx284_1)).trans hx284_1; replace hx284_2 := (HB.out.cell (World.block_lt_of_cell? w _ hx284_2)).trans hx284_2; replace hx284_3 := (HB.out.cell (World.block_lt_of_cell? w _ hx284_3)).trans hx284_3; replace hx284_4 := (HB.out.cell (World.block_lt_of_cell? w _ hx284_4)).trans hx284_4; have HR284_1 := Aside0.mk hi284_1; have HC284_1 := Aside0.mk hl284_1; clear hi284_1 hl284_1; have HR284_4 := Aside0.mk hi284_4; have HC284_4 := Aside0.mk hl284_4; clear hi284_4 hl284_4; replace p284 := eq_true p284; replace q284 := eq_true q284; have p285 : 0 ≤ ((ji7) : Int) := of_decide_eq_true (by first | (with_reducible assumption) | assumption); have q285 : (ji7) < (l0_1.length : Int) := of_decide_eq_true (by first | (with_reducible assumption) | assumption); obtain ⟨ad285, A285_1, c285_1, A285_4, c285_4, e285, hx285_0, hx285_1, hx285_2, hx285_3, hx285_4, hl285_1, hi285_1, hl285_4, hi285_4⟩ := at_T54 HR0_1.out (ji7) p285 q285; (try rw [← Nbq10.out] at hx285_2); obtain rfl : ad284 = ad285 := (by injection e285); replace hx285_0 := (HB.out.cell (World.block_lt_of_cell? w _ hx285_0)).trans hx285_0; replace hx285_1 := (HB.out.cell (World.block_lt_of_cell? w _ hx285_1)).trans hx285_1; replace hx285_2 := (HB.out.cell (World.block_lt_of_cell? w _ hx285_2)).trans hx285_2; replace hx285_3 := (HB.out.cell (World.block_lt_of_cell? w _ hx285_3)).trans hx285_3; replace hx285_4 := (HB.out.cell (World.block_lt_of_cell? w _ hx285_4)).trans hx285_4; have HR285_1 := Aside0.mk hi285_1; have HC285_1 := Aside0.mk hl285_1; clear hi285_1 hl285_1; have HR285_4 := Aside0.mk hi285_4; have HC285_4 := Aside0.mk hl285_4; clear hi285_4 hl285_4; replace p285 := eq_true p285; replace q285 := eq_true q285; have ea_ := Option.some.inj (hx284_1.symm.trans hx285_1); injection ea_ with ea_ en_ ec_; subst ea_; subst ec_; clear en_; have ea_ := Option.some.inj (hx284_4.symm.trans hx285_4); injection ea_ with ea_ en_ ec_; subst ea_; subst ec_; clear en_))
 go_ret2
 exact ⟨by first | rfl | (simp [errW_none, errW_some] <;> rfl) | (simp only [← hji7]; first | rfl | (simp [errW_none, errW_some] <;> rfl)) | (simp [*, errW_none, errW_some] <;> rfl), bl_⟩

/-! ### laws_FnExactValueAt: function 6 -/
def laws_FnExactValueAt.j0 : Nat → Bool → List (S76) → List (S80) → List (S70) → List (S54) → Option (Bool)
 | 0, _, _, _, _, _ => none
 | k + 1, x38, x287000, x287001, x303000, x303001 => if x38 = true then (none) else ((laws_toSynod.f k x287000 x287001).bind fun bt305 => ((laws_eqSynod.f k x303000 x303001 bt305.1 bt305.2).bind fun t311 => (if t311 = true then (some true) else (none))))
def laws_FnExactValueAt.f (k : Nat) (l0_0 : List (S76)) (l0_1 : List (S80)) (a1 : Int) : Option (Bool) := (laws_szSynod.f k l0_0 l0_1 1048576).bind fun t287 => (if t287 < 0 then (some true) else ((laws_toSynod.f k l0_0 l0_1).bind fun bt288 => ((spec_ValueAt.f k bt288.1 bt288.2 a1).bind fun bt294 => ((laws_toSynod.f k l0_0 l0_1).bind fun bt296 => ((impl_ValueAt.f k bt296.1 bt296.2 a1).bind fun bt303 => (if bt303.1.toList = bt294.1.toList then (laws_FnExactValueAt.j0 k (bt303.2 != bt294.2) l0_0 l0_1 bt296.1 bt296.2) else (none)))))))
theorem laws_FnExactValueAt.mono_l : ∀ k, (∀ y0 y1 y2 y3 y4, LeO (laws_FnExactValueAt.j0 k y0 y1 y2 y3 y4) (laws_FnExactValueAt.j0 (k + 1) y0 y1 y2 y3 y4))
 | 0 => fun _ _ _ _ _ r h => by simp [laws_FnExactValueAt.j0] at h
 | k + 1 => by
  have ih0 := laws_FnExactValueAt.mono_l k
  ·intro y0 y1 y2 y3 y4
   unfold laws_FnExactValueAt.j0
   repeat' first
   | (with_reducible exact ih0 _ _ _ _ _)
   | (with_reducible exact impl_ValueAt.mono _ _ _ _)
   | (with_reducible exact laws_eqSynod.mono _ _ _ _ _)
   | (with_reducible exact laws_szSynod.mono _ _ _ _)
   | (with_reducible exact laws_toSynod.mono _ _ _)
   | (with_reducible exact spec_ValueAt.mono _ _ _ _)
   | (with_reducible exact LeO.refl _)
   | (with_reducible exact LeO.none _)
   | (with_reducible refine LeO.ite ?_ ?_)
   | (with_reducible refine LeO.bind ?_ (fun _ => ?_))
   | exact ih0 _ _ _ _ _
   | exact impl_ValueAt.mono _ _ _ _
   | exact laws_eqSynod.mono _ _ _ _ _
   | exact laws_szSynod.mono _ _ _ _
   | exact laws_toSynod.mono _ _ _
   | exact spec_ValueAt.mono _ _ _ _
   | exact LeO.none _
   | refine LeO.ite ?_ ?_
   | refine LeO.bind ?_ (fun _ => ?_)
theorem laws_FnExactValueAt.mono : ∀ a0 a1 a2 k, LeO (laws_FnExactValueAt.f k a0 a1 a2) (laws_FnExactValueAt.f (k + 1) a0 a1 a2) := by
 intro a0 a1 a2 k
 have ih0 := laws_FnExactValueAt.mono_l k
 unfold laws_FnExactValueAt.f
 repeat' first
   | (with_reducible exact ih0 _ _ _ _ _)
   | (with_reducible exact impl_ValueAt.mono _ _ _ _)
   | (with_reducible exact laws_eqSynod.mono _ _ _ _ _)
   | (with_reducible exact laws_szSynod.mono _ _ _ _)
   | (with_reducible exact laws_toSynod.mono _ _ _)
   | (with_reducible exact spec_ValueAt.mono _ _ _ _)
   | (with_reducible exact LeO.refl _)
   | (with_reducible exact LeO.none _)
   | (with_reducible refine LeO.ite ?_ ?_)
   | (with_reducible refine LeO.bind ?_ (fun _ => ?_))
   | exact ih0 _ _ _ _ _
   | exact impl_ValueAt.mono _ _ _ _
   | exact laws_eqSynod.mono _ _ _ _ _
   | exact laws_szSynod.mono _ _ _ _
   | exact laws_toSynod.mono _ _ _
   | exact spec_ValueAt.mono _ _ _ _
   | exact LeO.none _
   | refine LeO.ite ?_ ?_
   | refine LeO.bind ?_ (fun _ => ?_)
set_option maxHeartbeats 8000000 in
set_option maxRecDepth 100000 in
theorem laws_FnExactValueAt.calls (k : Nat) (A0_0 : Option Addr) (c0_0 : Nat) (l0_0 : List (S76)) (A0_1 : Option Addr) (c0_1 : Nat) (l0_1 : List (S80)) (a1 : Int) (r : Bool) (w : World) (hr0_0 : Kd.C k76 w A0_0 l0_0.length l0_0) (hc0_0 : l0_0.length ≤ c0_0) (hr0_1 : Kd.C k80 w A0_1 l0_1.length l0_1) (hc0_1 : l0_1.length ≤ c0_1) (h : laws_FnExactValueAt.f k l0_0 l0_1 a1 = some r) :
  Calls Try.prog 6 #[.agg #[.slice A0_0 l0_0.length c0_0, .slice A0_1 l0_1.length c0_1], .int .i64 a1] w fun e w' => e = .returned (.bool r) ∧ Below w.heap.size w w' := by
 have hu25 := Try.underlying25
 have hu33 := Try.underlying33
 have HR0_0 := Aside0.mk hr0_0
 have HC0_0 := Aside0.mk hc0_0
 clear hr0_0 hc0_0
 have HR0_1 := Aside0.mk hr0_1
 have HC0_1 := Aside0.mk hc0_1
 clear hr0_1 hc0_1
 have HB := Aside0.mk (Below.refl w.heap.size w)
 have H : ((laws_szSynod.f k l0_0 l0_1 1048576).bind fun t287 => (if t287 < 0 then (some true) else ((laws_toSynod.f k l0_0 l0_1).bind fun bt288 => ((spec_ValueAt.f k bt288.1 bt288.2 a1).bind fun bt294 => ((laws_toSynod.f k l0_0 l0_1).bind fun bt296 => ((impl_ValueAt.f k bt296.1 bt296.2 a1).bind fun bt303 => (if bt303.1.toList = bt294.1.toList then (laws_FnExactValueAt.j0 k (bt303.2 != bt294.2) l0_0 l0_1 bt296.1 bt296.2) else (none)))))))) = some r := h
 clear h
 replace H := Option.bind_eq_some_iff.mp H
 obtain ⟨t287, A30, H⟩ := H
 replace H : (if t287 < 0 then (some true) else ((laws_toSynod.f k l0_0 l0_1).bind fun bt288 => ((spec_ValueAt.f k bt288.1 bt288.2 a1).bind fun bt294 => ((laws_toSynod.f k l0_0 l0_1).bind fun bt296 => ((impl_ValueAt.f k bt296.1 bt296.2 a1).bind fun bt303 => (if bt303.1.toList = bt294.1.toList then (laws_FnExactValueAt.j0 k (bt303.2 != bt294.2) l0_0 l0_1 bt296.1 bt296.2) else (none))))))) = some r := H
 have A3 := Aside0.mk A30
 clear A30
 by_cases c4 : t287 < 0
 ·rw [if_pos c4] at H
  have c4b0 : decide (t287 < 0) = true := decide_eq_true c4
  clear c4
  obtain rfl := Option.some.inj H
  go_enter Try.func6, Try.ntmps6
  go_wp2_with (first | ((with_reducible refine gate_dst (N := 2) rfl ?_); refine box_event rfl (N := 2) rfl (cs := #[.slice A0_0 l0_0.length c0_0, .slice A0_1 l0_1.length c0_1]) (t := 25) gs_ ?_; intro gb286 hg w5 hbox hb; have BK286 := Aside0.mk (hbox); have GW286 := Aside0.mk ((by rw [hg]; exact bz_ : w.heap.size ≤ gb286)); have GE286 := GW286; replace HB := Aside0.mk (below_step bl_ hb); clear hb hbox hg; have hcz6_0 : w5.cell? ⟨gb286, 0, none⟩ = some (.slice A0_0 l0_0.length c0_0) := bc_ BK286.out 0; have hcz6_1 : w5.cell? ⟨gb286, 1, none⟩ = some (.slice A0_1 l0_1.length c0_1) := bc_ BK286.out 1; have hfz6_0 := blk_frozen BK286.out 0; have hfz6_1 := blk_frozen BK286.out 1) | ((with_reducible refine gate_callee (f := 7) rfl ?_); refine goesL_ (some 13) rfl rfl Try.func7 (by kernel_rfl) rfl #[.agg #[.slice A0_0 l0_0.length c0_0, .slice A0_1 l0_1.length c0_1], .int .i64 1048576] rfl nc_ ?_; (with_reducible refine (laws_szSynod.calls k _ _ l0_0 _ _ l0_1 1048576 t287 _ ?side1 ?side2 ?side3 ?side4 A3.out).mono ?_); (case side1 => exact kc_ (Kd.C_below HR0_0.out HB.out)); (case side2 => exact HC0_0.out); (case side3 => exact kc_ (Kd.C_below HR0_1.out HB.out)); (case side4 => exact HC0_1.out); rintro e w7 ⟨rfl, hb⟩; refine ⟨_, rfl, ?_⟩; replace BK286 := bb_ BK286 hb; replace HB := Aside0.mk (below_step bl_ hb); clear hb))
  go_ret
  exact ⟨ng_, bl_⟩
 rw [if_neg c4] at H
 have c4b0 : decide (t287 < 0) = false := decide_eq_false c4
 clear c4
 replace H := Option.bind_eq_some_iff.mp H
 obtain ⟨⟨t288, t291⟩, A80, H⟩ := H
 replace H : ((spec_ValueAt.f k t288 t291 a1).bind fun bt294 => ((laws_toSynod.f k l0_0 l0_1).bind fun bt296 => ((impl_ValueAt.f k bt296.1 bt296.2 a1).bind fun bt303 => (if bt303.1.toList = bt294.1.toList then (laws_FnExactValueAt.j0 k (bt303.2 != bt294.2) l0_0 l0_1 bt296.1 bt296.2) else (none))))) = some r := H
 have A8 := Aside0.mk A80
 clear A80
 replace H := Option.bind_eq_some_iff.mp H
 obtain ⟨⟨t294, t295⟩, A90, H⟩ := H
 replace H : ((laws_toSynod.f k l0_0 l0_1).bind fun bt296 => ((impl_ValueAt.f k bt296.1 bt296.2 a1).bind fun bt303 => (if bt303.1.toList = t294.toList then (laws_FnExactValueAt.j0 k (bt303.2 != t295) l0_0 l0_1 bt296.1 bt296.2) else (none)))) = some r := H
 have A9 := Aside0.mk A90
 clear A90
 replace H := Option.bind_eq_some_iff.mp H
 obtain ⟨⟨t296, t299⟩, A100, H⟩ := H
 replace H : ((impl_ValueAt.f k t296 t299 a1).bind fun bt303 => (if bt303.1.toList = t294.toList then (laws_FnExactValueAt.j0 k (bt303.2 != t295) l0_0 l0_1 t296 t299) else (none))) = some r := H
 have A10 := Aside0.mk A100
 clear A100
 replace H := Option.bind_eq_some_iff.mp H
 obtain ⟨⟨t303, t304⟩, A110, H⟩ := H
 replace H : (if t303.toList = t294.toList then (laws_FnExactValueAt.j0 k (t304 != t295) l0_0 l0_1 t296 t299) else (none)) = some r := H
 have A11 := Aside0.mk A110
 clear A110
 have HC12 := Aside0.mk H
 clear H
 go_enter Try.func6, Try.ntmps6
 go_upto_region 8 with (first | ((with_reducible refine gate_dst (N := 2) rfl ?_); refine box_event rfl (N := 2) rfl (cs := #[.slice A0_0 l0_0.length c0_0, .slice A0_1 l0_1.length c0_1]) (t := 25) gs_ ?_; intro gb286 hg w13 hbox hb; have BK286 := Aside0.mk (hbox); have GW286 := Aside0.mk ((by rw [hg]; exact bz_ : w.heap.size ≤ gb286)); have GE286 := GW286; replace HB := Aside0.mk (below_step bl_ hb); clear hb hbox hg; have hcz14_0 : w13.cell? ⟨gb286, 0, none⟩ = some (.slice A0_0 l0_0.length c0_0) := bc_ BK286.out 0; have hcz14_1 : w13.cell? ⟨gb286, 1, none⟩ = some (.slice A0_1 l0_1.length c0_1) := bc_ BK286.out 1; have hfz14_0 := blk_frozen BK286.out 0; have hfz14_1 := blk_frozen BK286.out 1) | ((with_reducible refine gate_callee (f := 7) rfl ?_); refine goesL_ (some 13) rfl rfl Try.func7 (by kernel_rfl) rfl #[.agg #[.slice A0_0 l0_0.length c0_0, .slice A0_1 l0_1.length c0_1], .int .i64 1048576] rfl nc_ ?_; (with_reducible refine (laws_szSynod.calls k _ _ l0_0 _ _ l0_1 1048576 t287 _ ?side1 ?side2 ?side3 ?side4 A3.out).mono ?_); (case side1 => exact kc_ (Kd.C_below HR0_0.out HB.out)); (case side2 => exact HC0_0.out); (case side3 => exact kc_ (Kd.C_below HR0_1.out HB.out)); (case side4 => exact HC0_1.out); rintro e w15 ⟨rfl, hb⟩; refine ⟨_, rfl, ?_⟩; replace BK286 := bb_ BK286 hb; replace HB := Aside0.mk (below_step bl_ hb); clear hb; have hcz16_0 : w15.cell? ⟨gb286, 0, none⟩ = some (.slice A0_0 l0_0.length c0_0) := bc_ BK286.out 0; have hcz16_1 : w15.cell? ⟨gb286, 1, none⟩ = some (.slice A0_1 l0_1.length c0_1) := bc_ BK286.out 1; have hfz16_0 := blk_frozen BK286.out 0; have hfz16_1 := blk_frozen BK286.out 1) | ((with_reducible refine gate_callee (f := 9) rfl ?_); refine goesL_ (some 18) rfl rfl Try.func9 (by kernel_rfl) rfl #[.agg #[.slice A0_0 l0_0.length c0_0, .slice A0_1 l0_1.length c0_1]] rfl nc_ ?_; (with_reducible refine (laws_toSynod.calls k _ _ l0_0 _ _ l0_1 t288 t291 _ ?side1 ?side2 ?side3 ?side4 A8.out).mono ?_); (case side1 => exact kc_ (Kd.C_below HR0_0.out HB.out)); (case side2 => exact HC0_0.out); (case side3 => exact kc_ (Kd.C_below HR0_1.out HB.out)); (case side4 => exact HC0_1.out); rintro e w17 ⟨v289, v292, rfl, ho0, ho1, hb⟩; refine ⟨_, rfl, ?_⟩; have HO290 := Aside0.mk (Kd.R_lower ho0 bz_); have HO293 := Aside0.mk (Kd.S_lower ho1 bz_); replace BK286 := bb_ BK286 hb; replace HB := Aside0.mk (below_step bl_ hb); clear hb ho0 ho1; obtain ⟨Ao18, co18, eo18⟩ := Kd.R_slice HO290.out; subst eo18; obtain ⟨Ao19, co19, eo19⟩ := Kd.S_slice HO293.out; subst eo19) | ((with_reducible refine gate_callee (f := 23) rfl ?_); refine goesL_ (some 20) rfl rfl Try.func23 (by kernel_rfl) rfl #[.agg #[.slice Ao18 t288.length co18, .slice Ao19 t291.length co19], .int .i64 a1] rfl nc_ ?_; (with_reducible refine (spec_ValueAt.calls k _ _ t288 _ _ t291 a1 t294 t295 _ ?side1 ?side2 ?side3 ?side4 A9.out).mono ?_); (case side1 => exact kc_ (Kd.R_reads' HO290.out).2.2); (case side2 => exact (Kd.R_reads' HO290.out).2.1); (case side3 => exact kc_ (Kd.S_reads' HO293.out).2.2); (case side4 => exact (Kd.S_reads' HO293.out).2.1); rintro e w20 ⟨rfl, hb⟩; refine ⟨_, rfl, ?_⟩; replace HO290 := rb_ HO290 hb; replace HO293 := Aside0.mk (Kd.S_below (by (with_reducible repeat (first | apply Kd.S_alloc | apply Kd.S_drewN | apply Kd.S_drew)); exact HO293.out) hb); replace BK286 := bb_ BK286 hb; replace HB := Aside0.mk (below_step bl_ hb); clear hb; have hcz21_0 : w20.cell? ⟨gb286, 0, none⟩ = some (.slice A0_0 l0_0.length c0_0) := bc_ BK286.out 0; have hcz21_1 : w20.cell? ⟨gb286, 1, none⟩ = some (.slice A0_1 l0_1.length c0_1) := bc_ BK286.out 1; have hfz21_0 := blk_frozen BK286.out 0; have hfz21_1 := blk_frozen BK286.out 1) | ((with_reducible refine gate_callee (f := 9) rfl ?_); refine goesL_ (some 24) rfl rfl Try.func9 (by kernel_rfl) rfl #[.agg #[.slice A0_0 l0_0.length c0_0, .slice A0_1 l0_1.length c0_1]] rfl nc_ ?_; (with_reducible refine (laws_toSynod.calls k _ _ l0_0 _ _ l0_1 t296 t299 _ ?side1 ?side2 ?side3 ?side4 A10.out).mono ?_); (case side1 => exact kc_ (Kd.C_below HR0_0.out HB.out)); (case side2 => exact HC0_0.out); (case side3 => exact kc_ (Kd.C_below HR0_1.out HB.out)); (case side4 => exact HC0_1.out); rintro e w22 ⟨v297, v300, rfl, ho0, ho1, hb⟩; refine ⟨_, rfl, ?_⟩; have HO298 := Aside0.mk (Kd.R_lower (rn_ ho0 HO290.out) bz_); replace HO290 := Aside0.mk (Kd.R_elder' (kr_ HO290.out) (Kd.R_base ho0) hb); have HO301 := Aside0.mk (Kd.S_lower (Kd.S_new' ho1 (Kd.S_lt (by (with_reducible repeat (first | apply Kd.S_alloc | apply Kd.S_drewN | apply Kd.S_drew)); exact HO293.out))) bz_); replace HO293 := Aside0.mk (Kd.S_elder' (by (with_reducible repeat (first | apply Kd.S_alloc | apply Kd.S_drewN | apply Kd.S_drew)); exact HO293.out) (Kd.S_base ho1) hb); replace BK286 := bb_ BK286 hb; replace HB := Aside0.mk (below_step bl_ hb); clear hb ho0 ho1) | ((with_reducible refine gate_dst (N := 8) rfl ?_); refine box_event rfl (N := 8) rfl (cs := #[.slice none 0 0, .slice none 0 0]) (t := 33) gs_ ?_; intro gb302 hg w23 hbox hb; replace HO290 := rb_ HO290 hb; replace HO293 := Aside0.mk (Kd.S_below (by (with_reducible repeat (first | apply Kd.S_alloc | apply Kd.S_drewN | apply Kd.S_drew)); exact HO293.out) hb); replace HO298 := rb_ HO298 hb; replace HO301 := Aside0.mk (Kd.S_below (by (with_reducible repeat (first | apply Kd.S_alloc | apply Kd.S_drewN | apply Kd.S_drew)); exact HO301.out) hb); have BK302 := Aside0.mk (hbox); have GW302 := Aside0.mk ((by rw [hg]; exact bz_ : w.heap.size ≤ gb302)); have GE302 := GW302; replace HB := Aside0.mk (below_step bl_ hb); have NB286_302 := nl_ hg BK286; have NB302_286 := nm_ hg BK286; replace BK286 := bb_ BK286 hb; clear hb hbox hg; obtain ⟨Ao24, co24, eo24⟩ := Kd.R_slice HO298.out; subst eo24; have hnb25 := NB302_286.out; have hnc25 := NB286_302.out; have hcz26_0 : w23.cell? ⟨gb302, 0, none⟩ = some (.slice none 0 0) := bc_ BK302.out 0; have hcz26_1 : w23.cell? ⟨gb302, 1, none⟩ = some (.slice none 0 0) := bc_ BK302.out 1; have hfz26_0 := blk_frozen BK302.out 0; have hfz26_1 := blk_frozen BK302.out 1; obtain ⟨Ao27, co27, eo27⟩ := Kd.S_slice HO301.out; subst eo27) | ((with_reducible refine gate_callee (f := 24) rfl ?_); refine goesL_ (some 28) rfl rfl Try.func24 (by kernel_rfl) rfl #[.agg #[.slice Ao24 t296.length co24, .slice Ao27 t299.length co27], .int .i64 a1] rfl nc_ ?_; (with_reducible refine (impl_ValueAt.calls k _ _ t296 _ _ t299 a1 t303 t304 _ ?side1 ?side2 ?side3 ?side4 A11.out).mono ?_); (case side1 => exact (Kd.R_reads' (kr_ (rs2_ HO298.out BK302.out (.slice Ao24 t296.length co24) (.slice Ao27 t299.length co27)))).2.2); (case side2 => exact (Kd.R_reads' HO298.out).2.1); (case side3 => refine (Kd.S_reads' (e := 54) (base := w.heap.size) (ok := fun k_ => (True ∧ some k_ ≠ (.slice Ao19 t291.length co19 : Value).ownBlock)) (n := t299.length) (c := co27) ?_).2.2; exact (by (with_reducible repeat (first | apply Kd.S_alloc | apply Kd.S_drewN | apply Kd.S_drew)); exact (Kd.S_mono (Kd.S_far (p := ⟨gb302, 1, none⟩) (Kd.S_far (p := ⟨gb302, 0, none⟩) (Kd.S_types HO301.out BK302.out (by decide)) (fun _ hk => hk.2) (.slice Ao24 t296.length co24)) (fun _ hk => hk.2) (.slice Ao27 t299.length co27)) (fun _ h_ => h_.1)))); (case side4 => exact (Kd.S_reads' HO301.out).2.1); rintro e w28 ⟨rfl, hb⟩; refine ⟨_, rfl, ?_⟩; replace HO290 := Aside0.mk (Kd.R_below (kr_ (rs2_ HO290.out BK302.out (.slice Ao24 t296.length co24) (.slice Ao27 t299.length co27))) hb); replace HO293 := Aside0.mk (Kd.S_below (by (with_reducible repeat (first | apply Kd.S_alloc | apply Kd.S_drewN | apply Kd.S_drew)); exact (Kd.S_mono (Kd.S_far (p := ⟨gb302, 1, none⟩) (Kd.S_far (p := ⟨gb302, 0, none⟩) (Kd.S_types HO293.out BK302.out (by decide)) (fun _ hk => hk.2) (.slice Ao24 t296.length co24)) (fun _ hk => hk.2) (.slice Ao27 t299.length co27)) (fun _ h_ => h_.1))) hb); replace HO298 := Aside0.mk (Kd.R_below (kr_ (rs2_ HO298.out BK302.out (.slice Ao24 t296.length co24) (.slice Ao27 t299.length co27))) hb); replace HO301 := Aside0.mk (Kd.S_below (by (with_reducible repeat (first | apply Kd.S_alloc | apply Kd.S_drewN | apply Kd.S_drew)); exact (Kd.S_mono (Kd.S_far (p := ⟨gb302, 1, none⟩) (Kd.S_far (p := ⟨gb302, 0, none⟩) (Kd.S_types HO301.out BK302.out (by decide)) (fun _ hk => hk.2) (.slice Ao24 t296.length co24)) (fun _ hk => hk.2) (.slice Ao27 t299.length co27)) (fun _ h_ => h_.1))) hb); replace BK286 := Aside0.mk (blk_below (g := gb286) (o := .cells #[.slice A0_0 l0_0.length c0_0, .slice A0_1 l0_1.length c0_1] 25 (0, 0)) kz_ hb); replace BK302 := Aside0.mk (blk_below (g := gb302) (o := .cells #[.slice Ao24 t296.length co24, .slice Ao27 t299.length co27] 33 (0, 0)) (by (with_reducible repeat (first | refine blk_drewN ?_ _ | refine blk_drew ?_ | refine blk_alloc ?_ _)); refine blk_put (cs := #[.slice Ao24 t296.length co24, .slice none 0 0]) ?_ 1 _ rfl; (with_reducible repeat (first | refine blk_drewN ?_ _ | refine blk_drew ?_ | refine blk_alloc ?_ _)); refine blk_put (cs := #[.slice none 0 0, .slice none 0 0]) ?_ 0 _ rfl; exact kb_ BK302.out) hb); replace HB := Aside0.mk (below_step bl_ hb); clear hb))
 (try simp only [Act.put, List.setIfInBounds_toArray, List.set_cons_zero, List.set_cons_succ])
 go_cut [38] (fun v38 wc => ∃ (kq : Nat) (x38_11 : Bool), v38 = .bool x38_11 ∧ Aside0 (laws_FnExactValueAt.j0 kq x38_11 l0_0 l0_1 t296 t299 = some r) ∧ Aside0 (kq ≤ k) ∧ Aside0 (Kd.R k70 70 wc w.heap.size (fun _ => True) (.slice Ao24 t296.length co24) t296) ∧ Aside0 (Kd.S k54 54 wc w.heap.size (fun _ => True) (.slice Ao27 t299.length co27) t299) ∧ Aside0 (wc.heap[gb286]? = some (.cells #[(.slice A0_0 l0_0.length c0_0), (.slice A0_1 l0_1.length c0_1)] 25 (0, 0))) ∧ Aside0 (wc.heap[gb302]? = some (.cells #[(.slice Ao24 t296.length co24), (.slice Ao27 t299.length co27)] 33 (0, 0))) ∧ Aside0 (Below w.heap.size w wc))
 case first =>
  have H := HC12.out
  clear HC12
  by_cases c29 : t303.toList = t294.toList
  rotate_left
  ·rw [if_neg c29] at H
   exact absurd H (by simp)
  rw [if_pos c29] at H
  have c29b0 : (t303.toList == t294.toList) = true := beq_iff_eq.mpr c29
  have c29b1 : (t303.toList != t294.toList) = false := bne_eq_false_iff_eq.mpr c29
  clear c29
  (first | rw [c29b0] | (simp only [i64_w, i32_w]; rw [c29b0]) | skip)
  have H' := Aside0.mk H
  clear H
  go_wp2
  go_meet
  case rel => exact ⟨_, ((t304 != t295)), (by first | rfl | (simp; done) | (simp [*]; done)), H', ⟨by first | omega | exact Nat.le_refl _⟩, ⟨by exact kr_ (Kd.R_mono HO298.out (fun _ hk => trivial))⟩, ⟨by (with_reducible repeat (first | apply Kd.S_alloc | apply Kd.S_drewN | apply Kd.S_drew)); exact Kd.S_mono HO301.out (fun _ hk => trivial)⟩, ⟨by exact kb_ BK286.out⟩, ⟨by exact kb_ BK302.out⟩, ⟨bl_⟩⟩
 clear HC12
 try clear c2
 try clear p2
 try clear c4
 try clear c4b0
 try clear c6
 try clear c7
 try clear c9
 try clear c23
 try clear c24
 try clear c25
 try clear c29
 try clear c29b0
 try clear c29b1
 try clear hcz14_0
 try clear hcz14_1
 try clear hcz16_0
 try clear hcz16_1
 try clear hcz21_0
 try clear hcz21_1
 try clear hcz26_0
 try clear hcz26_1
 try clear hcz6_0
 try clear hcz6_1
 try clear hfz14_0
 try clear hfz14_1
 try clear hfz16_0
 try clear hfz16_1
 try clear hfz21_0
 try clear hfz21_1
 try clear hfz26_0
 try clear hfz26_1
 try clear hfz6_0
 try clear hfz6_1
 obtain ⟨kq, x38_11, rfl, HA, HJ11, HO_303000, HO_303001, BK286, BK302, HB⟩ := hcut
 cases kq with
 | zero => exact absurd HA.out (by simp [laws_FnExactValueAt.j0])
 | succ kj11 => ?_
 have H := HA.out
 clear HA
 simp only [laws_FnExactValueAt.j0] at H
 by_cases c30 : x38_11 = true
 ·subst c30
  have H1 : (none) = some r := by rw [if_pos rfl] at H; exact H
  clear H
  have H := H1
  clear H1
  exact absurd H (by simp)
 replace c30 := Bool.eq_false_iff.mpr c30
 subst c30
 have H1 : ((laws_toSynod.f kj11 l0_0 l0_1).bind fun bt305 => ((laws_eqSynod.f kj11 t296 t299 bt305.1 bt305.2).bind fun t311 => (if t311 = true then (some true) else (none)))) = some r := by rw [if_neg (show ¬ (false = true) by decide)] at H; exact H
 clear H
 have H := H1
 clear H1
 replace H := Option.bind_eq_some_iff.mp H
 obtain ⟨⟨t305, t308⟩, A310, H⟩ := H
 replace H : ((laws_eqSynod.f kj11 t296 t299 t305 t308).bind fun t311 => (if t311 = true then (some true) else (none))) = some r := H
 have A31 := Aside0.mk A310
 clear A310
 replace H := Option.bind_eq_some_iff.mp H
 obtain ⟨t311, A320, H⟩ := H
 replace H : (if t311 = true then (some true) else (none)) = some r := H
 have A32 := Aside0.mk A320
 clear A320
 by_cases c33 : t311 = true
 rotate_left
 ·replace c33 := Bool.eq_false_iff.mpr c33
  subst c33
  have H1 : (none) = some r := by rw [if_neg (show ¬ (false = true) by decide)] at H; exact H
  clear H
  have H := H1
  clear H1
  exact absurd H (by simp)
 subst c33
 have H1 : (some true) = some r := by rw [if_pos rfl] at H; exact H
 clear H
 have H := H1
 clear H1
 obtain rfl := Option.some.inj H
 try go_wp2
 replace HO_303000 := Aside0.mk (Kd.R_drew HO_303000.out)
 replace HO_303001 := Aside0.mk (Kd.S_drew HO_303001.out)
 replace BK286 := Aside0.mk (blk_drew BK286.out)
 replace BK302 := Aside0.mk (blk_drew BK302.out)
 replace HB := Aside0.mk (below_drew1 HB.out)
 refine start_ (n := 5) (S := fun w' => w'.cell? ⟨gb302, 0, none⟩ = some (.slice Ao24 t296.length co24) ∧ w'.cell? ⟨gb302, 1, none⟩ = some (.slice Ao27 t299.length co27) ∧ w'.cell? ⟨gb286, 0, none⟩ = some (.slice A0_0 l0_0.length c0_0) ∧ w'.cell? ⟨gb286, 1, none⟩ = some (.slice A0_1 l0_1.length c0_1)) (ds := []) #[false, false, false, false, false] (by kernel_rfl) rfl rfl ⟨bc_ BK302.out 0, bc_ BK302.out 1, bc_ BK286.out 0, bc_ BK286.out 1⟩ (fun hHeld => ?_)
 generalize wc.drew = w34 at HO_303000 HO_303001 BK286 BK302 HB hHeld ⊢
 refine tk4_ 0 (some 39) (h := ?_)
 refine tk4_ 1 (some 40) (h := ?_)
 refine on_ 2 (some 41) (h := fun K hK => ?_)
 refine goes_ Try.func9 (by kernel_rfl) rfl #[.agg #[.slice A0_0 l0_0.length c0_0, .slice A0_1 l0_1.length c0_1]] (by rfl) rfl rfl nc_ ?_
 with_reducible refine (laws_toSynod.calls kj11 _ _ l0_0 _ _ l0_1 t305 t308 _ ?side1 ?side2 ?side3 ?side4 A31.out).mono ?_
 (case side1 => exact kc_ (Kd.C_below HR0_0.out HB.out))
 (case side2 => exact HC0_0.out)
 (case side3 => exact kc_ (Kd.C_below HR0_1.out HB.out))
 (case side4 => exact HC0_1.out)
 rintro e w35 ⟨v306, v309, rfl, ho0, ho1, hb⟩
 refine ⟨_, rfl, ?_⟩
 have HO307 := Aside0.mk (Kd.R_lower (rn_ ho0 HO_303000.out) bz_)
 replace HO_303000 := Aside0.mk (Kd.R_elder' (kr_ HO_303000.out) (Kd.R_base ho0) hb)
 have HO310 := Aside0.mk (Kd.S_lower (Kd.S_new' ho1 (Kd.S_lt (by (with_reducible repeat (first | apply Kd.S_alloc | apply Kd.S_drewN | apply Kd.S_drew)); exact HO_303001.out))) bz_)
 replace HO_303001 := Aside0.mk (Kd.S_elder' (by (with_reducible repeat (first | apply Kd.S_alloc | apply Kd.S_drewN | apply Kd.S_drew)); exact HO_303001.out) (Kd.S_base ho1) hb)
 replace BK286 := bb_ BK286 hb
 replace BK302 := bb_ BK302 hb
 replace HB := Aside0.mk (below_step bl_ hb)
 clear hb ho0 ho1
 obtain ⟨Ao36, co36, eo36⟩ := Kd.R_slice HO307.out
 (first | subst eo36 | (injection eo36 with f1_ f2_ f3_; have f4_ := f1_.symm; have f5_ := f3_.symm; clear f1_ f2_ f3_; subst f4_; subst f5_))
 obtain ⟨Ao37, co37, eo37⟩ := Kd.S_slice HO310.out
 (first | subst eo37 | (injection eo37 with f1_ f2_ f3_; have f4_ := f1_.symm; have f5_ := f3_.symm; clear f1_ f2_ f3_; subst f4_; subst f5_))
 refine hK.out _ _ ⟨bc_ BK302.out 0, bc_ BK302.out 1, bc_ BK286.out 0, bc_ BK286.out 1⟩ (fun hHeld => ?_)
 clear hK K
 refine norm_ nn_ ?_
 refine on_ 3 (some 42) (h := fun K hK => ?_)
 refine goes_ Try.func12 (by kernel_rfl) rfl #[.agg #[.slice Ao24 t296.length co24, .slice Ao27 t299.length co27], .agg #[.slice Ao36 t305.length co36, .slice Ao37 t308.length co37]] (by rfl) rfl rfl nc_ ?_
 with_reducible refine (laws_eqSynod.calls kj11 _ _ t296 _ _ t299 _ _ t305 _ _ t308 true _ ?side1 ?side2 ?side3 ?side4 ?side5 ?side6 ?side7 ?side8 A32.out).mono ?_
 (case side1 => exact kc_ (Kd.R_reads' HO_303000.out).2.2)
 (case side2 => exact (Kd.R_reads' HO_303000.out).2.1)
 (case side3 => exact kc_ (Kd.S_reads' HO_303001.out).2.2)
 (case side4 => exact (Kd.S_reads' HO_303001.out).2.1)
 (case side5 => exact kc_ (Kd.R_reads' HO307.out).2.2)
 (case side6 => exact (Kd.R_reads' HO307.out).2.1)
 (case side7 => exact kc_ (Kd.S_reads' HO310.out).2.2)
 (case side8 => exact (Kd.S_reads' HO310.out).2.1)
 rintro e w38 ⟨rfl, hb⟩
 refine ⟨_, rfl, ?_⟩
 replace HO_303000 := rb_ HO_303000 hb
 replace HO_303001 := Aside0.mk (Kd.S_below (by (with_reducible repeat (first | apply Kd.S_alloc | apply Kd.S_drewN | apply Kd.S_drew)); exact HO_303001.out) hb)
 replace HO307 := rb_ HO307 hb
 replace HO310 := Aside0.mk (Kd.S_below (by (with_reducible repeat (first | apply Kd.S_alloc | apply Kd.S_drewN | apply Kd.S_drew)); exact HO310.out) hb)
 replace BK286 := bb_ BK286 hb
 replace BK302 := bb_ BK302 hb
 replace HB := Aside0.mk (below_step bl_ hb)
 clear hb
 refine hK.out _ _ ⟨bc_ BK302.out 0, bc_ BK302.out 1, bc_ BK286.out 0, bc_ BK286.out 1⟩ (fun hHeld => ?_)
 clear hK K
 refine norm_ nn_ ?_
 refine pu_ 4 (some 43) (h := ?_)
 refine done_ (by kernel_rfl) ?_
 try go_wp2
 go_ret
 exact ⟨ng_, bl_⟩

end Go.Proofs.Ytjpaoeeeiklfnaa.PSY
