/- What this text proves: the machine calls of these functions return what the plain functions say. Conditions: as each theorem says. Printed by a program of this session out of the translation. -/
import Derived.Test.YtbnadnfggpnbgaaPSLx0
import Derived.Test.YtbnadnfggpnbgaaPSLx3
import Derived.Test.YtbnadnfggpnbgaaPSLx4
import Derived.Test.YtbnadnfggpnbgaaPSLx5
namespace Go.Proofs.Ytbnadnfggpnbgaa.PSL
open Go.RowKit Go.Proofs.YtbnadnfggpnbgaaW.PrintWords Go.Proofs.YtbnadnfggpnbgaaW.PrintLast Go.Proofs.YtbnadnfggpnbgaaW.PrintMore
attribute [local go_sem] max2_int min2_int max_two min_two max_three min_three max_four min_four   -- for this text's walks alone
set_option linter.unusedVariables false
set_option linter.unusedSimpArgs false

/-! ### spec_StepLease: function 28 -/
def spec_StepLease.f (k : Nat) (a0_0 : Int) (a0_1 : Int) (l0_2 : List Int) (a0_3 : Int) (a0_4 : Int) (l0_5 : List Int) (a1_0 : Int) (a1_1 : Int) (a1_2 : Int) : Option (Int × Int × List Int × Int × Int × List Int × Bool) := (spec_GoodLeases.f k a0_0 a0_1 l0_2 a0_3 a0_4 l0_5).bind fun t179 => (if t179 = true then ((spec_l11Own.f a0_0 a0_1 l0_2 a0_3 a0_4 l0_5).bind fun bt180 => ((spec_l11Step.f k bt180.1 bt180.2.1 bt180.2.2.1 bt180.2.2.2.1 bt180.2.2.2.2.1 bt180.2.2.2.2.2 a1_0 a1_1 a1_2).bind fun bt190 => (if bt190.2.2.2.2.2.2 = true then (some (bt190.1, bt190.2.1, bt190.2.2.1, bt190.2.2.2.1, bt190.2.2.2.2.1, bt190.2.2.2.2.2.1, true)) else (some (0, 0, ([] : List Int), 0, 0, ([] : List Int), false))))) else (some (0, 0, ([] : List Int), 0, 0, ([] : List Int), false)))
theorem spec_StepLease.mono : ∀ a0 a1 a2 a3 a4 a5 a6 a7 a8 k, LeO (spec_StepLease.f k a0 a1 a2 a3 a4 a5 a6 a7 a8) (spec_StepLease.f (k + 1) a0 a1 a2 a3 a4 a5 a6 a7 a8) := by
 intro a0 a1 a2 a3 a4 a5 a6 a7 a8 k
 unfold spec_StepLease.f
 repeat' first
   | (with_reducible exact spec_GoodLeases.mono _ _ _ _ _ _ _)
   | (with_reducible exact spec_l11Step.mono _ _ _ _ _ _ _ _ _ _)
   | (with_reducible exact LeO.refl _)
   | (with_reducible exact LeO.none _)
   | (with_reducible refine LeO.ite ?_ ?_)
   | (with_reducible refine LeO.bind ?_ (fun _ => ?_))
   | exact spec_GoodLeases.mono _ _ _ _ _ _ _
   | exact spec_l11Step.mono _ _ _ _ _ _ _ _ _ _
   | exact LeO.none _
   | refine LeO.ite ?_ ?_
   | refine LeO.bind ?_ (fun _ => ?_)
def spec_StepLease.T3 : Bool × List (List Nat × List Nat) := (true, [([], []), ([0], [0]), ([], []), ([1, 2, 1], [1, 2]), ([3], [3]), ([4], [4]), ([4], [4]), ([], []), ([7, 5, 3, 0, 1, 2, 3, 4, 5, 7], [5, 7]), ([6, 8, 0, 1, 2, 3, 4, 5, 6, 7, 8], [6])])
def spec_StepLease.B3 : List Nat := [0, 1, 0, 7, 15, 31, 31, 0, 191, 511]
theorem spec_StepLease.tab3 : rtab .any (opsOf Try.f28 3) = spec_StepLease.T3 := by kernel_rfl
theorem spec_StepLease.bits3 : waitsOk spec_StepLease.T3.2 spec_StepLease.B3 = true := by kernel_rfl
set_option maxHeartbeats 8000000 in
set_option maxRecDepth 100000 in
theorem spec_StepLease.calls (k : Nat) (a0_0 : Int) (a0_1 : Int) (A0_2 : Option Addr) (c0_2 : Nat) (l0_2 : List Int) (a0_3 : Int) (a0_4 : Int) (A0_5 : Option Addr) (c0_5 : Nat) (l0_5 : List Int) (a1_0 : Int) (a1_1 : Int) (a1_2 : Int) (r1 : Int) (r2 : Int) (r3 : List Int) (r4 : Int) (r5 : Int) (r6 : List Int) (r7 : Bool) (w : World) (hr0_2 : Kd.C (Kd.int .i64) w A0_2 l0_2.length l0_2) (hc0_2 : l0_2.length ≤ c0_2) (hr0_5 : Kd.C (Kd.int .i64) w A0_5 l0_5.length l0_5) (hc0_5 : l0_5.length ≤ c0_5) (h : spec_StepLease.f k a0_0 a0_1 l0_2 a0_3 a0_4 l0_5 a1_0 a1_1 a1_2 = some (r1, r2, r3, r4, r5, r6, r7)) :
  Calls Try.prog 28 #[.agg #[.int .i64 a0_0, .int .i64 a0_1, .slice A0_2 l0_2.length c0_2, .int .i64 a0_3, .int .i64 a0_4, .slice A0_5 l0_5.length c0_5], .agg #[.int .i64 a1_0, .int .i64 a1_1, .int .i64 a1_2]] w fun e w' => ∃ v2_ v5_ : Value, e = .returned (.tuple #[.agg #[.int .i64 r1, .int .i64 r2, v2_, .int .i64 r4, .int .i64 r5, v5_], .bool r7]) ∧ Kd.R (Kd.int .i64) 3 w' w.heap.size (fun k_ => some k_ ≠ (v5_ : Value).ownBlock) v2_ r3 ∧ Kd.R (Kd.int .i64) 3 w' w.heap.size (fun k_ => some k_ ≠ (v2_ : Value).ownBlock) v5_ r6 ∧ Below w.heap.size w w' := by
 have hu24 := Try.underlying24
 have hu45 := Try.underlying45
 have HR0_2 := Aside0.mk hr0_2
 have HC0_2 := Aside0.mk hc0_2
 clear hr0_2 hc0_2
 have HR0_5 := Aside0.mk hr0_5
 have HC0_5 := Aside0.mk hc0_5
 clear hr0_5 hc0_5
 have HB := Aside0.mk (Below.refl w.heap.size w)
 have H : ((spec_GoodLeases.f k a0_0 a0_1 l0_2 a0_3 a0_4 l0_5).bind fun t179 => (if t179 = true then ((spec_l11Own.f a0_0 a0_1 l0_2 a0_3 a0_4 l0_5).bind fun bt180 => ((spec_l11Step.f k bt180.1 bt180.2.1 bt180.2.2.1 bt180.2.2.2.1 bt180.2.2.2.2.1 bt180.2.2.2.2.2 a1_0 a1_1 a1_2).bind fun bt190 => (if bt190.2.2.2.2.2.2 = true then (some (bt190.1, bt190.2.1, bt190.2.2.1, bt190.2.2.2.1, bt190.2.2.2.2.1, bt190.2.2.2.2.2.1, true)) else (some (0, 0, ([] : List Int), 0, 0, ([] : List Int), false))))) else (some (0, 0, ([] : List Int), 0, 0, ([] : List Int), false)))) = some (r1, r2, r3, r4, r5, r6, r7) := h
 clear h
 replace H := Option.bind_eq_some_iff.mp H
 obtain ⟨t179, A30, H⟩ := H
 replace H : (if t179 = true then ((spec_l11Own.f a0_0 a0_1 l0_2 a0_3 a0_4 l0_5).bind fun bt180 => ((spec_l11Step.f k bt180.1 bt180.2.1 bt180.2.2.1 bt180.2.2.2.1 bt180.2.2.2.2.1 bt180.2.2.2.2.2 a1_0 a1_1 a1_2).bind fun bt190 => (if bt190.2.2.2.2.2.2 = true then (some (bt190.1, bt190.2.1, bt190.2.2.1, bt190.2.2.2.1, bt190.2.2.2.2.1, bt190.2.2.2.2.2.1, true)) else (some (0, 0, ([] : List Int), 0, 0, ([] : List Int), false))))) else (some (0, 0, ([] : List Int), 0, 0, ([] : List Int), false))) = some (r1, r2, r3, r4, r5, r6, r7) := H
 have A3 := Aside0.mk A30
 clear A30
 by_cases c4 : t179 = true
 rotate_left
 ·replace c4 := Bool.eq_false_iff.mpr c4
  subst c4
  have H1 : (some (0, 0, ([] : List Int), 0, 0, ([] : List Int), false)) = some (r1, r2, r3, r4, r5, r6, r7) := by rw [if_neg (show ¬ (false = true) by decide)] at H; exact H
  clear H
  have H := H1
  clear H1
  simp only [Option.some.injEq, Prod.mk.injEq] at H
  obtain ⟨rfl, rfl, rfl, rfl, rfl, rfl, rfl⟩ := H
  go_enter Try.func28, Try.ntmps28
  go_wp2_with (first | ((with_reducible refine gate_dst (N := 2) rfl ?_); refine box_event rfl (N := 2) rfl (cs := #[.int .i64 a0_0, .int .i64 a0_1, .slice A0_2 l0_2.length c0_2, .int .i64 a0_3, .int .i64 a0_4, .slice A0_5 l0_5.length c0_5]) (t := 24) gs_ ?_; intro gb176 hg w61 hbox hb; have BK176 := Aside0.mk (hbox); have GW176 := Aside0.mk ((by rw [hg]; exact bz_ : w.heap.size ≤ gb176)); have GE176 := GW176; replace HB := Aside0.mk (below_step bl_ hb); clear hb hbox hg) | ((with_reducible refine gate_dst (N := 3) rfl ?_); refine box_event rfl (N := 3) rfl (cs := #[.int .i64 a1_0, .int .i64 a1_1, .int .i64 a1_2]) (t := 45) gs_ ?_; intro gb177 hg w62 hbox hb; have BK177 := Aside0.mk (hbox); have GW177 := Aside0.mk ((by rw [hg]; exact bz_ : w.heap.size ≤ gb177)); have GE177 := GW177; replace HB := Aside0.mk (below_step bl_ hb); have NB176_177 := nl_ hg BK176; have NB177_176 := nm_ hg BK176; replace BK176 := bb_ BK176 hb; clear hb hbox hg) | ((with_reducible refine gate_dst (N := 4) rfl ?_); refine box_event rfl (N := 4) rfl (cs := #[.int .i64 0, .int .i64 0, .slice none 0 0, .int .i64 0, .int .i64 0, .slice none 0 0]) (t := 24) gs_ ?_; intro gb178 hg w63 hbox hb; have BK178 := Aside0.mk (hbox); have GW178 := Aside0.mk ((by rw [hg]; exact bz_ : w.heap.size ≤ gb178)); have GE178 := GW178; replace HB := Aside0.mk (below_step bl_ hb); have NB176_178 := nl_ hg BK176; have NB178_176 := nm_ hg BK176; replace BK176 := bb_ BK176 hb; have NB177_178 := nl_ hg BK177; have NB178_177 := nm_ hg BK177; replace BK177 := bb_ BK177 hb; clear hb hbox hg; have hnb64 := NB176_177.out; have hnc64 := NB177_176.out; have hnb65 := NB176_178.out; have hnc65 := NB178_176.out; have hcz66_0 : w63.cell? ⟨gb176, 0, none⟩ = some (.int .i64 a0_0) := bc_ BK176.out 0; have hcz66_1 : w63.cell? ⟨gb176, 1, none⟩ = some (.int .i64 a0_1) := bc_ BK176.out 1; have hcz66_2 : w63.cell? ⟨gb176, 2, none⟩ = some (.slice A0_2 l0_2.length c0_2) := bc_ BK176.out 2; have hcz66_3 : w63.cell? ⟨gb176, 3, none⟩ = some (.int .i64 a0_3) := bc_ BK176.out 3; have hcz66_4 : w63.cell? ⟨gb176, 4, none⟩ = some (.int .i64 a0_4) := bc_ BK176.out 4; have hcz66_5 : w63.cell? ⟨gb176, 5, none⟩ = some (.slice A0_5 l0_5.length c0_5) := bc_ BK176.out 5; have hfz66_0 := blk_frozen BK176.out 0; have hfz66_1 := blk_frozen BK176.out 1; have hfz66_2 := blk_frozen BK176.out 2; have hfz66_3 := blk_frozen BK176.out 3; have hfz66_4 := blk_frozen BK176.out 4; have hfz66_5 := blk_frozen BK176.out 5) | ((with_reducible refine gate_callee (f := 18) rfl ?_); refine goesL_ (some 9) rfl rfl Try.func18 (by kernel_rfl) rfl #[.agg #[.int .i64 a0_0, .int .i64 a0_1, .slice A0_2 l0_2.length c0_2, .int .i64 a0_3, .int .i64 a0_4, .slice A0_5 l0_5.length c0_5]] rfl nc_ ?_; (with_reducible refine (spec_GoodLeases.calls k a0_0 a0_1 _ _ l0_2 a0_3 a0_4 _ _ l0_5 false _ ?side1 ?side2 ?side3 ?side4 A3.out).mono ?_); (case side1 => exact kc_ (Kd.C_below HR0_2.out HB.out)); (case side2 => exact HC0_2.out); (case side3 => exact kc_ (Kd.C_below HR0_5.out HB.out)); (case side4 => exact HC0_5.out); rintro e w67 ⟨rfl, hb⟩; refine ⟨_, rfl, ?_⟩; replace BK176 := bb_ BK176 hb; replace BK177 := bb_ BK177 hb; replace BK178 := bb_ BK178 hb; replace HB := Aside0.mk (below_step bl_ hb); clear hb; have hnb68 := NB178_177.out; have hnc68 := NB177_178.out; have hcz69_0 : w67.cell? ⟨gb178, 0, none⟩ = some (.int .i64 0) := bc_ BK178.out 0; have hcz69_1 : w67.cell? ⟨gb178, 1, none⟩ = some (.int .i64 0) := bc_ BK178.out 1; have hcz69_2 : w67.cell? ⟨gb178, 2, none⟩ = some (.slice none 0 0) := bc_ BK178.out 2; have hcz69_3 : w67.cell? ⟨gb178, 3, none⟩ = some (.int .i64 0) := bc_ BK178.out 3; have hcz69_4 : w67.cell? ⟨gb178, 4, none⟩ = some (.int .i64 0) := bc_ BK178.out 4; have hcz69_5 : w67.cell? ⟨gb178, 5, none⟩ = some (.slice none 0 0) := bc_ BK178.out 5; have hfz69_0 := blk_frozen BK178.out 0; have hfz69_1 := blk_frozen BK178.out 1; have hfz69_2 := blk_frozen BK178.out 2; have hfz69_3 := blk_frozen BK178.out 3; have hfz69_4 := blk_frozen BK178.out 4; have hfz69_5 := blk_frozen BK178.out 5))
  refine bodyPost_ret (results_ct rfl _ _ gb178 24 #[.int .i64 0, .int .i64 0, .slice none 0 0, .int .i64 0, .int .i64 0, .slice none 0 0] (0, 0) _ rfl (by (with_reducible repeat (first | refine blk_drewN ?_ _ | refine blk_drew ?_ | refine blk_alloc ?_ _)); refine blk_put (cs := #[.int .i64 0, .int .i64 0, .slice none 0 0, .int .i64 0, .int .i64 0, .slice none 0 0]) ?_ 5 _ rfl; (with_reducible repeat (first | refine blk_drewN ?_ _ | refine blk_drew ?_ | refine blk_alloc ?_ _)); refine blk_put (cs := #[.int .i64 0, .int .i64 0, .slice none 0 0, .int .i64 0, .int .i64 0, .slice none 0 0]) ?_ 4 _ rfl; (with_reducible repeat (first | refine blk_drewN ?_ _ | refine blk_drew ?_ | refine blk_alloc ?_ _)); refine blk_put (cs := #[.int .i64 0, .int .i64 0, .slice none 0 0, .int .i64 0, .int .i64 0, .slice none 0 0]) ?_ 3 _ rfl; (with_reducible repeat (first | refine blk_drewN ?_ _ | refine blk_drew ?_ | refine blk_alloc ?_ _)); refine blk_put (cs := #[.int .i64 0, .int .i64 0, .slice none 0 0, .int .i64 0, .int .i64 0, .slice none 0 0]) ?_ 2 _ rfl; (with_reducible repeat (first | refine blk_drewN ?_ _ | refine blk_drew ?_ | refine blk_alloc ?_ _)); refine blk_put (cs := #[.int .i64 0, .int .i64 0, .slice none 0 0, .int .i64 0, .int .i64 0, .slice none 0 0]) ?_ 1 _ rfl; (with_reducible repeat (first | refine blk_drewN ?_ _ | refine blk_drew ?_ | refine blk_alloc ?_ _)); refine blk_put (cs := #[.int .i64 0, .int .i64 0, .slice none 0 0, .int .i64 0, .int .i64 0, .slice none 0 0]) ?_ 0 _ rfl; exact kb_ BK178.out) Try.underlying24 rfl (by kernel_rfl)) rfl ?_
  exact ⟨_, _, ng_, by first | exact Kd.R_nil _ _ _ _ _ | exact Kd.N_nil _ _ _ _ _ | exact Kd.V_nil _ _ _ _ _ | exact Kd.Q_nil _ _ _ _ _ | exact Kd.S_nil _ _ _ _ _, by first | exact Kd.R_nil _ _ _ _ _ | exact Kd.N_nil _ _ _ _ _ | exact Kd.V_nil _ _ _ _ _ | exact Kd.Q_nil _ _ _ _ _ | exact Kd.S_nil _ _ _ _ _, bl_⟩
 subst c4
 have H1 : ((spec_l11Own.f a0_0 a0_1 l0_2 a0_3 a0_4 l0_5).bind fun bt180 => ((spec_l11Step.f k bt180.1 bt180.2.1 bt180.2.2.1 bt180.2.2.2.1 bt180.2.2.2.2.1 bt180.2.2.2.2.2 a1_0 a1_1 a1_2).bind fun bt190 => (if bt190.2.2.2.2.2.2 = true then (some (bt190.1, bt190.2.1, bt190.2.2.1, bt190.2.2.2.1, bt190.2.2.2.2.1, bt190.2.2.2.2.2.1, true)) else (some (0, 0, ([] : List Int), 0, 0, ([] : List Int), false))))) = some (r1, r2, r3, r4, r5, r6, r7) := by rw [if_pos rfl] at H; exact H
 clear H
 have H := H1
 clear H1
 replace H := Option.bind_eq_some_iff.mp H
 obtain ⟨⟨t180, t181, t182, t185, t186, t187⟩, A50, H⟩ := H
 replace H : ((spec_l11Step.f k t180 t181 t182 t185 t186 t187 a1_0 a1_1 a1_2).bind fun bt190 => (if bt190.2.2.2.2.2.2 = true then (some (bt190.1, bt190.2.1, bt190.2.2.1, bt190.2.2.2.1, bt190.2.2.2.2.1, bt190.2.2.2.2.2.1, true)) else (some (0, 0, ([] : List Int), 0, 0, ([] : List Int), false)))) = some (r1, r2, r3, r4, r5, r6, r7) := H
 have A5 := Aside0.mk A50
 clear A50
 replace H := Option.bind_eq_some_iff.mp H
 obtain ⟨⟨t190, t191, t192, t195, t196, t197, t200⟩, A60, H⟩ := H
 replace H : (if t200 = true then (some (t190, t191, t192, t195, t196, t197, true)) else (some (0, 0, ([] : List Int), 0, 0, ([] : List Int), false))) = some (r1, r2, r3, r4, r5, r6, r7) := H
 have A6 := Aside0.mk A60
 clear A60
 by_cases c7 : t200 = true
 rotate_left
 ·replace c7 := Bool.eq_false_iff.mpr c7
  subst c7
  have H1 : (some (0, 0, ([] : List Int), 0, 0, ([] : List Int), false)) = some (r1, r2, r3, r4, r5, r6, r7) := by rw [if_neg (show ¬ (false = true) by decide)] at H; exact H
  clear H
  have H := H1
  clear H1
  simp only [Option.some.injEq, Prod.mk.injEq] at H
  obtain ⟨rfl, rfl, rfl, rfl, rfl, rfl, rfl⟩ := H
  go_enter Try.func28, Try.ntmps28
  try go_wp2_with (first | ((with_reducible refine gate_dst (N := 2) rfl ?_); refine box_event rfl (N := 2) rfl (cs := #[.int .i64 a0_0, .int .i64 a0_1, .slice A0_2 l0_2.length c0_2, .int .i64 a0_3, .int .i64 a0_4, .slice A0_5 l0_5.length c0_5]) (t := 24) gs_ ?_; intro gb176 hg w36 hbox hb; have BK176 := Aside0.mk (hbox); have GW176 := Aside0.mk ((by rw [hg]; exact bz_ : w.heap.size ≤ gb176)); have GE176 := GW176; replace HB := Aside0.mk (below_step bl_ hb); clear hb hbox hg) | ((with_reducible refine gate_dst (N := 3) rfl ?_); refine box_event rfl (N := 3) rfl (cs := #[.int .i64 a1_0, .int .i64 a1_1, .int .i64 a1_2]) (t := 45) gs_ ?_; intro gb177 hg w37 hbox hb; have BK177 := Aside0.mk (hbox); have GW177 := Aside0.mk ((by rw [hg]; exact bz_ : w.heap.size ≤ gb177)); have GE177 := GW177; replace HB := Aside0.mk (below_step bl_ hb); have NB176_177 := nl_ hg BK176; have NB177_176 := nm_ hg BK176; replace BK176 := bb_ BK176 hb; clear hb hbox hg) | ((with_reducible refine gate_dst (N := 4) rfl ?_); refine box_event rfl (N := 4) rfl (cs := #[.int .i64 0, .int .i64 0, .slice none 0 0, .int .i64 0, .int .i64 0, .slice none 0 0]) (t := 24) gs_ ?_; intro gb178 hg w38 hbox hb; have BK178 := Aside0.mk (hbox); have GW178 := Aside0.mk ((by rw [hg]; exact bz_ : w.heap.size ≤ gb178)); have GE178 := GW178; replace HB := Aside0.mk (below_step bl_ hb); have NB176_178 := nl_ hg BK176; have NB178_176 := nm_ hg BK176; replace BK176 := bb_ BK176 hb; have NB177_178 := nl_ hg BK177; have NB178_177 := nm_ hg BK177; replace BK177 := bb_ BK177 hb; clear hb hbox hg; have hnb39 := NB176_177.out; have hnc39 := NB177_176.out; have hnb40 := NB176_178.out; have hnc40 := NB178_176.out; have hcz41_0 : w38.cell? ⟨gb176, 0, none⟩ = some (.int .i64 a0_0) := bc_ BK176.out 0; have hcz41_1 : w38.cell? ⟨gb176, 1, none⟩ = some (.int .i64 a0_1) := bc_ BK176.out 1; have hcz41_2 : w38.cell? ⟨gb176, 2, none⟩ = some (.slice A0_2 l0_2.length c0_2) := bc_ BK176.out 2; have hcz41_3 : w38.cell? ⟨gb176, 3, none⟩ = some (.int .i64 a0_3) := bc_ BK176.out 3; have hcz41_4 : w38.cell? ⟨gb176, 4, none⟩ = some (.int .i64 a0_4) := bc_ BK176.out 4; have hcz41_5 : w38.cell? ⟨gb176, 5, none⟩ = some (.slice A0_5 l0_5.length c0_5) := bc_ BK176.out 5; have hfz41_0 := blk_frozen BK176.out 0; have hfz41_1 := blk_frozen BK176.out 1; have hfz41_2 := blk_frozen BK176.out 2; have hfz41_3 := blk_frozen BK176.out 3; have hfz41_4 := blk_frozen BK176.out 4; have hfz41_5 := blk_frozen BK176.out 5) | ((with_reducible refine gate_callee (f := 18) rfl ?_); refine goesL_ (some 9) rfl rfl Try.func18 (by kernel_rfl) rfl #[.agg #[.int .i64 a0_0, .int .i64 a0_1, .slice A0_2 l0_2.length c0_2, .int .i64 a0_3, .int .i64 a0_4, .slice A0_5 l0_5.length c0_5]] rfl nc_ ?_; (with_reducible refine (spec_GoodLeases.calls k a0_0 a0_1 _ _ l0_2 a0_3 a0_4 _ _ l0_5 true _ ?side1 ?side2 ?side3 ?side4 A3.out).mono ?_); (case side1 => exact kc_ (Kd.C_below HR0_2.out HB.out)); (case side2 => exact HC0_2.out); (case side3 => exact kc_ (Kd.C_below HR0_5.out HB.out)); (case side4 => exact HC0_5.out); rintro e w42 ⟨rfl, hb⟩; refine ⟨_, rfl, ?_⟩; replace BK176 := bb_ BK176 hb; replace BK177 := bb_ BK177 hb; replace BK178 := bb_ BK178 hb; replace HB := Aside0.mk (below_step bl_ hb); clear hb))
  replace BK176 := Aside0.mk (blk_drew BK176.out)
  replace BK177 := Aside0.mk (blk_drew BK177.out)
  replace BK178 := Aside0.mk (blk_drew BK178.out)
  replace HB := Aside0.mk (below_drew1 HB.out)
  refine start_ (n := 10) (S := fun w' => w'.cell? ⟨gb176, 0, none⟩ = some (.int .i64 a0_0) ∧ w'.cell? ⟨gb176, 1, none⟩ = some (.int .i64 a0_1) ∧ w'.cell? ⟨gb176, 2, none⟩ = some (.slice A0_2 l0_2.length c0_2) ∧ w'.cell? ⟨gb176, 3, none⟩ = some (.int .i64 a0_3) ∧ w'.cell? ⟨gb176, 4, none⟩ = some (.int .i64 a0_4) ∧ w'.cell? ⟨gb176, 5, none⟩ = some (.slice A0_5 l0_5.length c0_5) ∧ w'.cell? ⟨gb177, 0, none⟩ = some (.int .i64 a1_0) ∧ w'.cell? ⟨gb177, 1, none⟩ = some (.int .i64 a1_1) ∧ w'.cell? ⟨gb177, 2, none⟩ = some (.int .i64 a1_2)) (ds := []) #[false, false, false, false, false, false, false, false, false, false] (by kernel_rfl) rfl rfl ⟨bc_ BK176.out 0, bc_ BK176.out 1, bc_ BK176.out 2, bc_ BK176.out 3, bc_ BK176.out 4, bc_ BK176.out 5, bc_ BK177.out 0, bc_ BK177.out 1, bc_ BK177.out 2⟩ (fun hHeld => ?_); refine with_tabW spec_StepLease.tab3 spec_StepLease.bits3 (fun HT_ HW_ => ?_)
  generalize w42.drew = w43 at BK176 BK177 BK178 HB hHeld ⊢
  refine tk9_ 0 (some 13) (h := ?_)
  refine tk9_ 2 (some 15) (h := ?_)
  refine join_ (σ := Value × Value × Value × Value × Nat) 2 #[true, true, true, true, true, true, true, true, false, false] (fun s_ => [(14, .agg #[.int .i64 t180, .int .i64 t181, s_.1, .int .i64 t185, .int .i64 t186, s_.2.1]), (16, .tuple #[.agg #[.int .i64 t190, .int .i64 t191, s_.2.2.1, .int .i64 t195, .int .i64 t196, s_.2.2.2.1], .bool false]), (6, .pointer (some ⟨s_.2.2.2.2, 0, none⟩)), (12, .tuple #[.agg #[.int .i64 t190, .int .i64 t191, s_.2.2.1, .int .i64 t195, .int .i64 t196, s_.2.2.2.1], .bool false]), (17, .agg #[.int .i64 t190, .int .i64 t191, s_.2.2.1, .int .i64 t195, .int .i64 t196, s_.2.2.2.1]), (18, .bool false)]) (fun s_ w' => (w'.cell? ⟨gb176, 0, none⟩ = some (.int .i64 a0_0) ∧ w'.cell? ⟨gb176, 1, none⟩ = some (.int .i64 a0_1) ∧ w'.cell? ⟨gb176, 2, none⟩ = some (.slice A0_2 l0_2.length c0_2) ∧ w'.cell? ⟨gb176, 3, none⟩ = some (.int .i64 a0_3) ∧ w'.cell? ⟨gb176, 4, none⟩ = some (.int .i64 a0_4) ∧ w'.cell? ⟨gb176, 5, none⟩ = some (.slice A0_5 l0_5.length c0_5) ∧ w'.cell? ⟨gb177, 0, none⟩ = some (.int .i64 a1_0) ∧ w'.cell? ⟨gb177, 1, none⟩ = some (.int .i64 a1_1) ∧ w'.cell? ⟨gb177, 2, none⟩ = some (.int .i64 a1_2)) ∧ (Kd.R (Kd.int .i64) 3 w' w.heap.size (fun k_ => some k_ ≠ (s_.2.2.2.1 : Value).ownBlock) s_.2.2.1 t192) ∧ (Kd.R (Kd.int .i64) 3 w' w.heap.size (fun k_ => some k_ ≠ (s_.2.2.1 : Value).ownBlock) s_.2.2.2.1 t197) ∧ (w'.heap[gb176]? = some (.cells #[.int .i64 a0_0, .int .i64 a0_1, .slice A0_2 l0_2.length c0_2, .int .i64 a0_3, .int .i64 a0_4, .slice A0_5 l0_5.length c0_5] 24 (0, 0))) ∧ (w'.heap[gb177]? = some (.cells #[.int .i64 a1_0, .int .i64 a1_1, .int .i64 a1_2] 45 (0, 0))) ∧ (w'.heap[gb178]? = some (.cells #[.int .i64 0, .int .i64 0, .slice none 0 0, .int .i64 0, .int .i64 0, .slice none 0 0] 24 (0, 0))) ∧ (w'.heap[s_.2.2.2.2]? = some (.cells #[.int .i64 0, .int .i64 0, .slice none 0 0, .int .i64 0, .int .i64 0, .slice none 0 0] 24 (0, 0))) ∧ (w.heap.size ≤ s_.2.2.2.2) ∧ (w.heap.size ≤ s_.2.2.2.2) ∧ (gb176 ≠ s_.2.2.2.2) ∧ (s_.2.2.2.2 ≠ gb176) ∧ (gb177 ≠ s_.2.2.2.2) ∧ (s_.2.2.2.2 ≠ gb177) ∧ (gb178 ≠ s_.2.2.2.2) ∧ (s_.2.2.2.2 ≠ gb178) ∧ (Below w.heap.size w w')) ?_ ?_
  rotate_left
  ·intro hCont
   refine tw_ 1 7 (some 14) (some 6) (h1 := fun K hK => ?_) (h2 := fun K hK => ?_)
   ·skip
    refine goes_ Try.func54 (by kernel_rfl) rfl #[.agg #[.int .i64 a0_0, .int .i64 a0_1, .slice A0_2 l0_2.length c0_2, .int .i64 a0_3, .int .i64 a0_4, .slice A0_5 l0_5.length c0_5]] (by rfl) rfl rfl nc_ ?_
    with_reducible refine (spec_l11Own.calls a0_0 a0_1 _ _ l0_2 a0_3 a0_4 _ _ l0_5 t180 t181 t182 t185 t186 t187 _ ?side1 ?side2 ?side3 ?side4 A5.out).mono ?_
    (case side1 => exact kc_ (Kd.C_below HR0_2.out HB.out))
    (case side2 => exact HC0_2.out)
    (case side3 => exact kc_ (Kd.C_below HR0_5.out HB.out))
    (case side4 => exact HC0_5.out)
    rintro e w44 ⟨v183, v188, rfl, ho0, ho1, hb⟩
    refine ⟨_, rfl, ?_⟩
    have HO184 := Aside0.mk (Kd.R_lower ho0 bz_)
    have HO189 := Aside0.mk (Kd.R_lower ho1 bz_)
    replace BK176 := bb_ BK176 hb
    replace BK177 := bb_ BK177 hb
    replace BK178 := bb_ BK178 hb
    replace HB := Aside0.mk (below_step bl_ hb)
    clear hb ho0 ho1
    obtain ⟨Ao45, co45, eo45⟩ := Kd.R_slice HO184.out
    (first | subst eo45 | (injection eo45 with f1_ f2_ f3_; have f4_ := f1_.symm; have f5_ := f3_.symm; clear f1_ f2_ f3_; subst f4_; subst f5_))
    obtain ⟨Ao46, co46, eo46⟩ := Kd.R_slice HO189.out
    (first | subst eo46 | (injection eo46 with f1_ f2_ f3_; have f4_ := f1_.symm; have f5_ := f3_.symm; clear f1_ f2_ f3_; subst f4_; subst f5_))
    refine hK.out _ _ ⟨bc_ BK176.out 0, bc_ BK176.out 1, bc_ BK176.out 2, bc_ BK176.out 3, bc_ BK176.out 4, bc_ BK176.out 5, bc_ BK177.out 0, bc_ BK177.out 1, bc_ BK177.out 2⟩ (fun hHeld => ?_)
    clear hK K
    refine norm_ nn_ ?_
    refine tw_ 3 7 (some 16) (some 6) (h1 := fun K hK => ?_) (h2 := fun K hK => ?_)
    ·skip
     refine goes_ Try.func53 (by kernel_rfl) rfl #[.agg #[.int .i64 t180, .int .i64 t181, .slice Ao45 t182.length co45, .int .i64 t185, .int .i64 t186, .slice Ao46 t187.length co46], .agg #[.int .i64 a1_0, .int .i64 a1_1, .int .i64 a1_2]] (by rfl) rfl rfl nc_ ?_
     with_reducible refine (spec_l11Step.calls k t180 t181 (fun k_ => some k_ = (.slice Ao45 t182.length co45 : Value).ownBlock) (.slice Ao45 t182.length co45) t182 t185 t186 (fun k_ => some k_ = (.slice Ao46 t187.length co46 : Value).ownBlock) (.slice Ao46 t187.length co46) t187 a1_0 a1_1 a1_2 t190 t191 t192 t195 t196 t197 false w _ ?side1 ?side2 ?side3 ?side4 ?side5 A6.out).mono ?_
     (case side1 => repeat (first | (with_reducible first | exact HB.out | apply below_alloc | apply pw_below_drewN | apply below_drew1 | refine below_set ?_ GE176.out | refine below_set ?_ GE177.out | refine below_set ?_ GE178.out) | exact HB.out))
     (case side2 => exact Kd.R_tight rfl HO184.out)
     (case side3 => exact fun k_ e_ => (HO184.out.1 k_ e_.symm))
     (case side4 => exact Kd.R_tight rfl HO189.out)
     (case side5 => exact fun k_ e_ => (HO189.out.1 k_ e_.symm))
     rintro e w47 ⟨v193, v198, rfl, ho0, ho1, hb, hkp⟩
     refine ⟨_, rfl, ?_⟩
     replace BK176 := Aside0.mk (blk_kept (kb_ BK176.out) hkp (fun hs_ => Or.elim hs_ (fun e_ => (fun e_ => (Kd.R_ne HO184.out BK176.out (by decide)) e_) e_) (fun e_ => (fun e_ => (Kd.R_ne HO189.out BK176.out (by decide)) e_) e_)))
     replace BK177 := Aside0.mk (blk_kept (kb_ BK177.out) hkp (fun hs_ => Or.elim hs_ (fun e_ => (fun e_ => (Kd.R_ne HO184.out BK177.out (by decide)) e_) e_) (fun e_ => (fun e_ => (Kd.R_ne HO189.out BK177.out (by decide)) e_) e_)))
     replace BK178 := Aside0.mk (blk_kept (kb_ BK178.out) hkp (fun hs_ => Or.elim hs_ (fun e_ => (fun e_ => (Kd.R_ne HO184.out BK178.out (by decide)) e_) e_) (fun e_ => (fun e_ => (Kd.R_ne HO189.out BK178.out (by decide)) e_) e_)))
     have HO194 := Aside0.mk (Kd.R_mono (ok' := fun k_ => some k_ ≠ (v198 : Value).ownBlock) ho0 (fun k_ hk_ => hk_.2))
     have HO199 := Aside0.mk (Kd.R_mono (ok' := fun k_ => some k_ ≠ (v193 : Value).ownBlock) ho1 (fun k_ hk_ => hk_.2))
     replace HB := Aside0.mk (hb)
     clear HO184 HO189 hb ho0 ho1
     refine hK.out _ _ ⟨bc_ BK176.out 0, bc_ BK176.out 1, bc_ BK176.out 2, bc_ BK176.out 3, bc_ BK176.out 4, bc_ BK176.out 5, bc_ BK177.out 0, bc_ BK177.out 1, bc_ BK177.out 2⟩ (fun hHeld => ?_)
     clear hK K
     refine norm_ nn_ ?_
     refine pu_ 4 (some 12) (h := ?_)
     refine pu_ 5 (some 17) (h := ?_)
     refine pu_ 6 (some 18) (h := ?_)
     refine on_ 7 (some 6) (h := fun K hK => ?_)
     refine box_step rfl (N := 6) rfl (cs := #[.int .i64 0, .int .i64 0, .slice none 0 0, .int .i64 0, .int .i64 0, .slice none 0 0]) (t := 24) gs_ ?_
     intro gb201 hg w48 hbox hb
     replace HO194 := rb_ HO194 hb
     replace HO199 := rb_ HO199 hb
     have BK201 := Aside0.mk (hbox)
     have GW201 := Aside0.mk ((by rw [hg]; exact bz_ : w.heap.size ≤ gb201))
     have GE201 := GW201
     replace HB := Aside0.mk (below_step bl_ hb)
     have NB176_201 := nl_ hg BK176
     have NB201_176 := nm_ hg BK176
     replace BK176 := bb_ BK176 hb
     have NB177_201 := nl_ hg BK177
     have NB201_177 := nm_ hg BK177
     replace BK177 := bb_ BK177 hb
     have NB178_201 := nl_ hg BK178
     have NB201_178 := nm_ hg BK178
     replace BK178 := bb_ BK178 hb
     clear hb hbox hg
     refine hK.out _ _ ⟨bc_ BK176.out 0, bc_ BK176.out 1, bc_ BK176.out 2, bc_ BK176.out 3, bc_ BK176.out 4, bc_ BK176.out 5, bc_ BK177.out 0, bc_ BK177.out 1, bc_ BK177.out 2⟩ (fun hHeld => ?_)
     clear hK K
     refine norm_ nn_ ?_
     exact norm_ (by simp only [putAll, Act.put, List.setIfInBounds_toArray, List.set_cons_zero, List.set_cons_succ]) (hCont (.slice Ao45 t182.length co45, .slice Ao46 t187.length co46, v193, v198, gb201) _ ⟨hHeld, kr_ HO194.out, kr_ HO199.out, kb_ BK176.out, kb_ BK177.out, kb_ BK178.out, kb_ BK201.out, GW201.out, GE201.out, NB176_201.out, NB201_176.out, NB177_201.out, NB201_177.out, NB178_201.out, NB201_178.out, bl_⟩)
    ·skip
     refine box_step rfl (N := 6) rfl (cs := #[.int .i64 0, .int .i64 0, .slice none 0 0, .int .i64 0, .int .i64 0, .slice none 0 0]) (t := 24) gs_ ?_
     intro gb201 hg w45 hbox hb
     replace HO184 := rb_ HO184 hb
     replace HO189 := rb_ HO189 hb
     have BK201 := Aside0.mk (hbox)
     have GW201 := Aside0.mk ((by rw [hg]; exact bz_ : w.heap.size ≤ gb201))
     have GE201 := GW201
     replace HB := Aside0.mk (below_step bl_ hb)
     have NB176_201 := nl_ hg BK176
     have NB201_176 := nm_ hg BK176
     replace BK176 := bb_ BK176 hb
     have NB177_201 := nl_ hg BK177
     have NB201_177 := nm_ hg BK177
     replace BK177 := bb_ BK177 hb
     have NB178_201 := nl_ hg BK178
     have NB201_178 := nm_ hg BK178
     replace BK178 := bb_ BK178 hb
     clear hb hbox hg
     obtain ⟨Ao46, co46, eo46⟩ := Kd.R_slice HO184.out
     (first | subst eo46 | (injection eo46 with f1_ f2_ f3_; have f4_ := f1_.symm; have f5_ := f3_.symm; clear f1_ f2_ f3_; subst f4_; subst f5_))
     obtain ⟨Ao47, co47, eo47⟩ := Kd.R_slice HO189.out
     (first | subst eo47 | (injection eo47 with f1_ f2_ f3_; have f4_ := f1_.symm; have f5_ := f3_.symm; clear f1_ f2_ f3_; subst f4_; subst f5_))
     refine hK.out _ _ ⟨bc_ BK176.out 0, bc_ BK176.out 1, bc_ BK176.out 2, bc_ BK176.out 3, bc_ BK176.out 4, bc_ BK176.out 5, bc_ BK177.out 0, bc_ BK177.out 1, bc_ BK177.out 2⟩ (fun hHeld => ?_)
     clear hK K
     refine norm_ nn_ ?_
     refine on_ 3 (some 16) (h := fun K hK => ?_)
     refine goes_ Try.func53 (by kernel_rfl) rfl #[.agg #[.int .i64 t180, .int .i64 t181, .slice Ao46 t182.length co46, .int .i64 t185, .int .i64 t186, .slice Ao47 t187.length co47], .agg #[.int .i64 a1_0, .int .i64 a1_1, .int .i64 a1_2]] (by rfl) rfl rfl nc_ ?_
     with_reducible refine (spec_l11Step.calls k t180 t181 (fun k_ => some k_ = (.slice Ao46 t182.length co46 : Value).ownBlock) (.slice Ao46 t182.length co46) t182 t185 t186 (fun k_ => some k_ = (.slice Ao47 t187.length co47 : Value).ownBlock) (.slice Ao47 t187.length co47) t187 a1_0 a1_1 a1_2 t190 t191 t192 t195 t196 t197 false w _ ?side1 ?side2 ?side3 ?side4 ?side5 A6.out).mono ?_
     (case side1 => repeat (first | (with_reducible first | exact HB.out | apply below_alloc | apply pw_below_drewN | apply below_drew1 | refine below_set ?_ GE176.out | refine below_set ?_ GE177.out | refine below_set ?_ GE178.out | refine below_set ?_ GE201.out) | exact HB.out))
     (case side2 => exact Kd.R_tight rfl HO184.out)
     (case side3 => exact fun k_ e_ => (HO184.out.1 k_ e_.symm))
     (case side4 => exact Kd.R_tight rfl HO189.out)
     (case side5 => exact fun k_ e_ => (HO189.out.1 k_ e_.symm))
     rintro e w48 ⟨v193, v198, rfl, ho0, ho1, hb, hkp⟩
     refine ⟨_, rfl, ?_⟩
     replace BK176 := Aside0.mk (blk_kept (kb_ BK176.out) hkp (fun hs_ => Or.elim hs_ (fun e_ => (fun e_ => (Kd.R_ne HO184.out BK176.out (by decide)) e_) e_) (fun e_ => (fun e_ => (Kd.R_ne HO189.out BK176.out (by decide)) e_) e_)))
     replace BK177 := Aside0.mk (blk_kept (kb_ BK177.out) hkp (fun hs_ => Or.elim hs_ (fun e_ => (fun e_ => (Kd.R_ne HO184.out BK177.out (by decide)) e_) e_) (fun e_ => (fun e_ => (Kd.R_ne HO189.out BK177.out (by decide)) e_) e_)))
     replace BK178 := Aside0.mk (blk_kept (kb_ BK178.out) hkp (fun hs_ => Or.elim hs_ (fun e_ => (fun e_ => (Kd.R_ne HO184.out BK178.out (by decide)) e_) e_) (fun e_ => (fun e_ => (Kd.R_ne HO189.out BK178.out (by decide)) e_) e_)))
     replace BK201 := Aside0.mk (blk_kept (kb_ BK201.out) hkp (fun hs_ => Or.elim hs_ (fun e_ => (fun e_ => (Kd.R_ne HO184.out BK201.out (by decide)) e_) e_) (fun e_ => (fun e_ => (Kd.R_ne HO189.out BK201.out (by decide)) e_) e_)))
     have HO194 := Aside0.mk (Kd.R_mono (ok' := fun k_ => some k_ ≠ (v198 : Value).ownBlock) ho0 (fun k_ hk_ => hk_.2))
     have HO199 := Aside0.mk (Kd.R_mono (ok' := fun k_ => some k_ ≠ (v193 : Value).ownBlock) ho1 (fun k_ hk_ => hk_.2))
     replace HB := Aside0.mk (hb)
     clear HO184 HO189 hb ho0 ho1
     refine hK.out _ _ ⟨bc_ BK176.out 0, bc_ BK176.out 1, bc_ BK176.out 2, bc_ BK176.out 3, bc_ BK176.out 4, bc_ BK176.out 5, bc_ BK177.out 0, bc_ BK177.out 1, bc_ BK177.out 2⟩ (fun hHeld => ?_)
     clear hK K
     refine norm_ nn_ ?_
     refine pu_ 4 (some 12) (h := ?_)
     refine pu_ 5 (some 17) (h := ?_)
     refine pu_ 6 (some 18) (h := ?_)
     exact norm_ (by simp only [putAll, Act.put, List.setIfInBounds_toArray, List.set_cons_zero, List.set_cons_succ]) (hCont (.slice Ao46 t182.length co46, .slice Ao47 t187.length co47, v193, v198, gb201) _ ⟨hHeld, kr_ HO194.out, kr_ HO199.out, kb_ BK176.out, kb_ BK177.out, kb_ BK178.out, kb_ BK201.out, GW201.out, GE201.out, NB176_201.out, NB201_176.out, NB177_201.out, NB201_177.out, NB178_201.out, NB201_178.out, bl_⟩)
   ·skip
    refine box_step rfl (N := 6) rfl (cs := #[.int .i64 0, .int .i64 0, .slice none 0 0, .int .i64 0, .int .i64 0, .slice none 0 0]) (t := 24) gs_ ?_
    intro gb201 hg w44 hbox hb
    have BK201 := Aside0.mk (hbox)
    have GW201 := Aside0.mk ((by rw [hg]; exact bz_ : w.heap.size ≤ gb201))
    have GE201 := GW201
    replace HB := Aside0.mk (below_step bl_ hb)
    have NB176_201 := nl_ hg BK176
    have NB201_176 := nm_ hg BK176
    replace BK176 := bb_ BK176 hb
    have NB177_201 := nl_ hg BK177
    have NB201_177 := nm_ hg BK177
    replace BK177 := bb_ BK177 hb
    have NB178_201 := nl_ hg BK178
    have NB201_178 := nm_ hg BK178
    replace BK178 := bb_ BK178 hb
    clear hb hbox hg
    refine hK.out _ _ ⟨bc_ BK176.out 0, bc_ BK176.out 1, bc_ BK176.out 2, bc_ BK176.out 3, bc_ BK176.out 4, bc_ BK176.out 5, bc_ BK177.out 0, bc_ BK177.out 1, bc_ BK177.out 2⟩ (fun hHeld => ?_)
    clear hK K
    refine norm_ nn_ ?_
    refine on_ 1 (some 14) (h := fun K hK => ?_)
    refine goes_ Try.func54 (by kernel_rfl) rfl #[.agg #[.int .i64 a0_0, .int .i64 a0_1, .slice A0_2 l0_2.length c0_2, .int .i64 a0_3, .int .i64 a0_4, .slice A0_5 l0_5.length c0_5]] (by rfl) rfl rfl nc_ ?_
    with_reducible refine (spec_l11Own.calls a0_0 a0_1 _ _ l0_2 a0_3 a0_4 _ _ l0_5 t180 t181 t182 t185 t186 t187 _ ?side1 ?side2 ?side3 ?side4 A5.out).mono ?_
    (case side1 => exact kc_ (Kd.C_below HR0_2.out HB.out))
    (case side2 => exact HC0_2.out)
    (case side3 => exact kc_ (Kd.C_below HR0_5.out HB.out))
    (case side4 => exact HC0_5.out)
    rintro e w45 ⟨v183, v188, rfl, ho0, ho1, hb⟩
    refine ⟨_, rfl, ?_⟩
    have HO184 := Aside0.mk (Kd.R_lower ho0 bz_)
    have HO189 := Aside0.mk (Kd.R_lower ho1 bz_)
    replace BK176 := bb_ BK176 hb
    replace BK177 := bb_ BK177 hb
    replace BK178 := bb_ BK178 hb
    replace BK201 := bb_ BK201 hb
    replace HB := Aside0.mk (below_step bl_ hb)
    clear hb ho0 ho1
    obtain ⟨Ao46, co46, eo46⟩ := Kd.R_slice HO184.out
    (first | subst eo46 | (injection eo46 with f1_ f2_ f3_; have f4_ := f1_.symm; have f5_ := f3_.symm; clear f1_ f2_ f3_; subst f4_; subst f5_))
    obtain ⟨Ao47, co47, eo47⟩ := Kd.R_slice HO189.out
    (first | subst eo47 | (injection eo47 with f1_ f2_ f3_; have f4_ := f1_.symm; have f5_ := f3_.symm; clear f1_ f2_ f3_; subst f4_; subst f5_))
    refine hK.out _ _ ⟨bc_ BK176.out 0, bc_ BK176.out 1, bc_ BK176.out 2, bc_ BK176.out 3, bc_ BK176.out 4, bc_ BK176.out 5, bc_ BK177.out 0, bc_ BK177.out 1, bc_ BK177.out 2⟩ (fun hHeld => ?_)
    clear hK K
    refine norm_ nn_ ?_
    refine on_ 3 (some 16) (h := fun K hK => ?_)
    refine goes_ Try.func53 (by kernel_rfl) rfl #[.agg #[.int .i64 t180, .int .i64 t181, .slice Ao46 t182.length co46, .int .i64 t185, .int .i64 t186, .slice Ao47 t187.length co47], .agg #[.int .i64 a1_0, .int .i64 a1_1, .int .i64 a1_2]] (by rfl) rfl rfl nc_ ?_
    with_reducible refine (spec_l11Step.calls k t180 t181 (fun k_ => some k_ = (.slice Ao46 t182.length co46 : Value).ownBlock) (.slice Ao46 t182.length co46) t182 t185 t186 (fun k_ => some k_ = (.slice Ao47 t187.length co47 : Value).ownBlock) (.slice Ao47 t187.length co47) t187 a1_0 a1_1 a1_2 t190 t191 t192 t195 t196 t197 false w _ ?side1 ?side2 ?side3 ?side4 ?side5 A6.out).mono ?_
    (case side1 => repeat (first | (with_reducible first | exact HB.out | apply below_alloc | apply pw_below_drewN | apply below_drew1 | refine below_set ?_ GE176.out | refine below_set ?_ GE177.out | refine below_set ?_ GE178.out | refine below_set ?_ GE201.out) | exact HB.out))
    (case side2 => exact Kd.R_tight rfl HO184.out)
    (case side3 => exact fun k_ e_ => (HO184.out.1 k_ e_.symm))
    (case side4 => exact Kd.R_tight rfl HO189.out)
    (case side5 => exact fun k_ e_ => (HO189.out.1 k_ e_.symm))
    rintro e w48 ⟨v193, v198, rfl, ho0, ho1, hb, hkp⟩
    refine ⟨_, rfl, ?_⟩
    replace BK176 := Aside0.mk (blk_kept (kb_ BK176.out) hkp (fun hs_ => Or.elim hs_ (fun e_ => (fun e_ => (Kd.R_ne HO184.out BK176.out (by decide)) e_) e_) (fun e_ => (fun e_ => (Kd.R_ne HO189.out BK176.out (by decide)) e_) e_)))
    replace BK177 := Aside0.mk (blk_kept (kb_ BK177.out) hkp (fun hs_ => Or.elim hs_ (fun e_ => (fun e_ => (Kd.R_ne HO184.out BK177.out (by decide)) e_) e_) (fun e_ => (fun e_ => (Kd.R_ne HO189.out BK177.out (by decide)) e_) e_)))
    replace BK178 := Aside0.mk (blk_kept (kb_ BK178.out) hkp (fun hs_ => Or.elim hs_ (fun e_ => (fun e_ => (Kd.R_ne HO184.out BK178.out (by decide)) e_) e_) (fun e_ => (fun e_ => (Kd.R_ne HO189.out BK178.out (by decide)) e_) e_)))
    replace BK201 := Aside0.mk (blk_kept (kb_ BK201.out) hkp (fun hs_ => Or.elim hs_ (fun e_ => (fun e_ => (Kd.R_ne HO184.out BK201.out (by decide)) e_) e_) (fun e_ => (fun e_ => (Kd.R_ne HO189.out BK201.out (by decide)) e_) e_)))
    have HO194 := Aside0.mk (Kd.R_mono (ok' := fun k_ => some k_ ≠ (v198 : Value).ownBlock) ho0 (fun k_ hk_ => hk_.2))
    have HO199 := Aside0.mk (Kd.R_mono (ok' := fun k_ => some k_ ≠ (v193 : Value).ownBlock) ho1 (fun k_ hk_ => hk_.2))
    replace HB := Aside0.mk (hb)
    clear HO184 HO189 hb ho0 ho1
    refine hK.out _ _ ⟨bc_ BK176.out 0, bc_ BK176.out 1, bc_ BK176.out 2, bc_ BK176.out 3, bc_ BK176.out 4, bc_ BK176.out 5, bc_ BK177.out 0, bc_ BK177.out 1, bc_ BK177.out 2⟩ (fun hHeld => ?_)
    clear hK K
    refine norm_ nn_ ?_
    refine pu_ 4 (some 12) (h := ?_)
    refine pu_ 5 (some 17) (h := ?_)
    refine pu_ 6 (some 18) (h := ?_)
    exact norm_ (by simp only [putAll, Act.put, List.setIfInBounds_toArray, List.set_cons_zero, List.set_cons_succ]) (hCont (.slice Ao46 t182.length co46, .slice Ao47 t187.length co47, v193, v198, gb201) _ ⟨hHeld, kr_ HO194.out, kr_ HO199.out, kb_ BK176.out, kb_ BK177.out, kb_ BK178.out, kb_ BK201.out, GW201.out, GE201.out, NB176_201.out, NB201_176.out, NB177_201.out, NB201_177.out, NB178_201.out, NB201_178.out, bl_⟩)
  rintro ⟨v183, v188, v193, v198, gb201⟩ w49 ⟨hS_, h0_, h1_, h2_, h3_, h4_, h5_, h6_, h7_, h8_, h9_, h10_, h11_, h12_, h13_, h14_⟩
  dsimp only at h0_ h1_ h2_ h3_ h4_ h5_ h6_ h7_ h8_ h9_ h10_ h11_ h12_ h13_ h14_
  have HO194 := Aside0.mk h0_
  have HO199 := Aside0.mk h1_
  replace BK176 := Aside0.mk h2_
  replace BK177 := Aside0.mk h3_
  replace BK178 := Aside0.mk h4_
  have BK201 := Aside0.mk h5_
  have GW201 := Aside0.mk h6_
  have GE201 := Aside0.mk h7_
  have NB176_201 := Aside0.mk h8_
  have NB201_176 := Aside0.mk h9_
  have NB177_201 := Aside0.mk h10_
  have NB201_177 := Aside0.mk h11_
  have NB178_201 := Aside0.mk h12_
  have NB201_178 := Aside0.mk h13_
  replace HB := Aside0.mk h14_
  clear h0_ h1_ h2_ h3_ h4_ h5_ h6_ h7_ h8_ h9_ h10_ h11_ h12_ h13_ h14_
  try dsimp only at hS_
  have hHeld := hS_
  obtain ⟨Ao52, co52, eo52⟩ := Kd.R_slice HO194.out
  (first | subst eo52 | (injection eo52 with f1_ f2_ f3_; have f4_ := f1_.symm; have f5_ := f3_.symm; clear f1_ f2_ f3_; subst f4_; subst f5_))
  obtain ⟨Ao56, co56, eo56⟩ := Kd.R_slice HO199.out
  (first | subst eo56 | (injection eo56 with f1_ f2_ f3_; have f4_ := f1_.symm; have f5_ := f3_.symm; clear f1_ f2_ f3_; subst f4_; subst f5_))
  refine norm_ np_ ?_
  refine on_ 8 none (h := fun K hK => ?_)
  have hs50 : w49.cell? ⟨gb201, 0, none⟩ = some (.int .i64 0) := bc_ BK201.out 0
  have hfs50 := blk_frozen BK201.out 0
  have hns50_0 := NB176_201.out
  have hns50_1 := NB177_201.out
  have hns50_2 := NB178_201.out
  have hms50_0 := NB201_176.out
  have hms50_1 := NB201_177.out
  have hms50_2 := NB201_178.out
  have hs51 : w49.cell? ⟨gb201, 1, none⟩ = some (.int .i64 0) := bc_ BK201.out 1
  have hfs51 := blk_frozen BK201.out 1
  have hns51_0 := NB176_201.out
  have hns51_1 := NB177_201.out
  have hns51_2 := NB178_201.out
  have hms51_0 := NB201_176.out
  have hms51_1 := NB201_177.out
  have hms51_2 := NB201_178.out
  have hs53 : w49.cell? ⟨gb201, 2, none⟩ = some (.slice none 0 0) := bc_ BK201.out 2
  have hfs53 := blk_frozen BK201.out 2
  have hns53_0 := NB176_201.out
  have hns53_1 := NB177_201.out
  have hns53_2 := NB178_201.out
  have hms53_0 := NB201_176.out
  have hms53_1 := NB201_177.out
  have hms53_2 := NB201_178.out
  have hs54 : w49.cell? ⟨gb201, 3, none⟩ = some (.int .i64 0) := bc_ BK201.out 3
  have hfs54 := blk_frozen BK201.out 3
  have hns54_0 := NB176_201.out
  have hns54_1 := NB177_201.out
  have hns54_2 := NB178_201.out
  have hms54_0 := NB201_176.out
  have hms54_1 := NB201_177.out
  have hms54_2 := NB201_178.out
  have hs55 : w49.cell? ⟨gb201, 4, none⟩ = some (.int .i64 0) := bc_ BK201.out 4
  have hfs55 := blk_frozen BK201.out 4
  have hns55_0 := NB176_201.out
  have hns55_1 := NB177_201.out
  have hns55_2 := NB178_201.out
  have hms55_0 := NB201_176.out
  have hms55_1 := NB201_177.out
  have hms55_2 := NB201_178.out
  have hs57 : w49.cell? ⟨gb201, 5, none⟩ = some (.slice none 0 0) := bc_ BK201.out 5
  have hfs57 := blk_frozen BK201.out 5
  have hns57_0 := NB176_201.out
  have hns57_1 := NB177_201.out
  have hns57_2 := NB178_201.out
  have hms57_0 := NB201_176.out
  have hms57_1 := NB201_177.out
  have hms57_2 := NB201_178.out
  refine skip_ (w1 := ?_) (by rfl) rfl ?_ ?_
  rotate_left
  ·go_simp
   rfl
  refine hK.out _ _ ⟨((cell_far (p := ⟨gb201, _, none⟩) NB176_201.out _).trans (((cell_far (p := ⟨gb201, _, none⟩) NB176_201.out _).trans (((cell_far (p := ⟨gb201, _, none⟩) NB176_201.out _).trans (((cell_far (p := ⟨gb201, _, none⟩) NB176_201.out _).trans (((cell_far (p := ⟨gb201, _, none⟩) NB176_201.out _).trans (((cell_far (p := ⟨gb201, _, none⟩) NB176_201.out _).trans (hHeld.1)))))))))))), ((cell_far (p := ⟨gb201, _, none⟩) NB176_201.out _).trans (((cell_far (p := ⟨gb201, _, none⟩) NB176_201.out _).trans (((cell_far (p := ⟨gb201, _, none⟩) NB176_201.out _).trans (((cell_far (p := ⟨gb201, _, none⟩) NB176_201.out _).trans (((cell_far (p := ⟨gb201, _, none⟩) NB176_201.out _).trans (((cell_far (p := ⟨gb201, _, none⟩) NB176_201.out _).trans (hHeld.2.1)))))))))))), ((cell_far (p := ⟨gb201, _, none⟩) NB176_201.out _).trans (((cell_far (p := ⟨gb201, _, none⟩) NB176_201.out _).trans (((cell_far (p := ⟨gb201, _, none⟩) NB176_201.out _).trans (((cell_far (p := ⟨gb201, _, none⟩) NB176_201.out _).trans (((cell_far (p := ⟨gb201, _, none⟩) NB176_201.out _).trans (((cell_far (p := ⟨gb201, _, none⟩) NB176_201.out _).trans (hHeld.2.2.1)))))))))))), ((cell_far (p := ⟨gb201, _, none⟩) NB176_201.out _).trans (((cell_far (p := ⟨gb201, _, none⟩) NB176_201.out _).trans (((cell_far (p := ⟨gb201, _, none⟩) NB176_201.out _).trans (((cell_far (p := ⟨gb201, _, none⟩) NB176_201.out _).trans (((cell_far (p := ⟨gb201, _, none⟩) NB176_201.out _).trans (((cell_far (p := ⟨gb201, _, none⟩) NB176_201.out _).trans (hHeld.2.2.2.1)))))))))))), ((cell_far (p := ⟨gb201, _, none⟩) NB176_201.out _).trans (((cell_far (p := ⟨gb201, _, none⟩) NB176_201.out _).trans (((cell_far (p := ⟨gb201, _, none⟩) NB176_201.out _).trans (((cell_far (p := ⟨gb201, _, none⟩) NB176_201.out _).trans (((cell_far (p := ⟨gb201, _, none⟩) NB176_201.out _).trans (((cell_far (p := ⟨gb201, _, none⟩) NB176_201.out _).trans (hHeld.2.2.2.2.1)))))))))))), ((cell_far (p := ⟨gb201, _, none⟩) NB176_201.out _).trans (((cell_far (p := ⟨gb201, _, none⟩) NB176_201.out _).trans (((cell_far (p := ⟨gb201, _, none⟩) NB176_201.out _).trans (((cell_far (p := ⟨gb201, _, none⟩) NB176_201.out _).trans (((cell_far (p := ⟨gb201, _, none⟩) NB176_201.out _).trans (((cell_far (p := ⟨gb201, _, none⟩) NB176_201.out _).trans (hHeld.2.2.2.2.2.1)))))))))))), ((cell_far (p := ⟨gb201, _, none⟩) NB177_201.out _).trans (((cell_far (p := ⟨gb201, _, none⟩) NB177_201.out _).trans (((cell_far (p := ⟨gb201, _, none⟩) NB177_201.out _).trans (((cell_far (p := ⟨gb201, _, none⟩) NB177_201.out _).trans (((cell_far (p := ⟨gb201, _, none⟩) NB177_201.out _).trans (((cell_far (p := ⟨gb201, _, none⟩) NB177_201.out _).trans (hHeld.2.2.2.2.2.2.1)))))))))))), ((cell_far (p := ⟨gb201, _, none⟩) NB177_201.out _).trans (((cell_far (p := ⟨gb201, _, none⟩) NB177_201.out _).trans (((cell_far (p := ⟨gb201, _, none⟩) NB177_201.out _).trans (((cell_far (p := ⟨gb201, _, none⟩) NB177_201.out _).trans (((cell_far (p := ⟨gb201, _, none⟩) NB177_201.out _).trans (((cell_far (p := ⟨gb201, _, none⟩) NB177_201.out _).trans (hHeld.2.2.2.2.2.2.2.1)))))))))))), ((cell_far (p := ⟨gb201, _, none⟩) NB177_201.out _).trans (((cell_far (p := ⟨gb201, _, none⟩) NB177_201.out _).trans (((cell_far (p := ⟨gb201, _, none⟩) NB177_201.out _).trans (((cell_far (p := ⟨gb201, _, none⟩) NB177_201.out _).trans (((cell_far (p := ⟨gb201, _, none⟩) NB177_201.out _).trans (((cell_far (p := ⟨gb201, _, none⟩) NB177_201.out _).trans (hHeld.2.2.2.2.2.2.2.2))))))))))))⟩ (fun hHeld => ?_)
  clear hK K
  refine pu_ 9 (some 7) (h := ?_)
  refine done_ (done_of HT_.out (by kernel_rfl)) ?_
  have hnb58 := NB178_177.out
  have hnc58 := NB177_178.out
  have hnb59 := NB178_201.out
  have hnc59 := NB201_178.out
  have hcz60_0 : w49.cell? ⟨gb178, 0, none⟩ = some (.int .i64 0) := bc_ BK178.out 0
  have hcz60_1 : w49.cell? ⟨gb178, 1, none⟩ = some (.int .i64 0) := bc_ BK178.out 1
  have hcz60_2 : w49.cell? ⟨gb178, 2, none⟩ = some (.slice none 0 0) := bc_ BK178.out 2
  have hcz60_3 : w49.cell? ⟨gb178, 3, none⟩ = some (.int .i64 0) := bc_ BK178.out 3
  have hcz60_4 : w49.cell? ⟨gb178, 4, none⟩ = some (.int .i64 0) := bc_ BK178.out 4
  have hcz60_5 : w49.cell? ⟨gb178, 5, none⟩ = some (.slice none 0 0) := bc_ BK178.out 5
  have hfz60_0 := blk_frozen BK178.out 0
  have hfz60_1 := blk_frozen BK178.out 1
  have hfz60_2 := blk_frozen BK178.out 2
  have hfz60_3 := blk_frozen BK178.out 3
  have hfz60_4 := blk_frozen BK178.out 4
  have hfz60_5 := blk_frozen BK178.out 5
  try go_wp2
  refine bodyPost_ret (results_ct rfl _ _ gb178 24 #[.int .i64 0, .int .i64 0, .slice none 0 0, .int .i64 0, .int .i64 0, .slice none 0 0] (0, 0) _ rfl (by (with_reducible repeat (first | refine blk_drewN ?_ _ | refine blk_drew ?_ | refine blk_alloc ?_ _)); refine blk_put (cs := #[.int .i64 0, .int .i64 0, .slice none 0 0, .int .i64 0, .int .i64 0, .slice none 0 0]) ?_ 5 _ rfl; (with_reducible repeat (first | refine blk_drewN ?_ _ | refine blk_drew ?_ | refine blk_alloc ?_ _)); refine blk_put (cs := #[.int .i64 0, .int .i64 0, .slice none 0 0, .int .i64 0, .int .i64 0, .slice none 0 0]) ?_ 4 _ rfl; (with_reducible repeat (first | refine blk_drewN ?_ _ | refine blk_drew ?_ | refine blk_alloc ?_ _)); refine blk_put (cs := #[.int .i64 0, .int .i64 0, .slice none 0 0, .int .i64 0, .int .i64 0, .slice none 0 0]) ?_ 3 _ rfl; (with_reducible repeat (first | refine blk_drewN ?_ _ | refine blk_drew ?_ | refine blk_alloc ?_ _)); refine blk_put (cs := #[.int .i64 0, .int .i64 0, .slice none 0 0, .int .i64 0, .int .i64 0, .slice none 0 0]) ?_ 2 _ rfl; (with_reducible repeat (first | refine blk_drewN ?_ _ | refine blk_drew ?_ | refine blk_alloc ?_ _)); refine blk_put (cs := #[.int .i64 0, .int .i64 0, .slice none 0 0, .int .i64 0, .int .i64 0, .slice none 0 0]) ?_ 1 _ rfl; (with_reducible repeat (first | refine blk_drewN ?_ _ | refine blk_drew ?_ | refine blk_alloc ?_ _)); refine blk_put (cs := #[.int .i64 0, .int .i64 0, .slice none 0 0, .int .i64 0, .int .i64 0, .slice none 0 0]) ?_ 0 _ rfl; (with_reducible repeat (first | refine blk_drewN ?_ _ | refine blk_drew ?_ | refine blk_alloc ?_ _)); refine blk_far ?_ NB178_201.out _; (with_reducible repeat (first | refine blk_drewN ?_ _ | refine blk_drew ?_ | refine blk_alloc ?_ _)); refine blk_far ?_ NB178_201.out _; (with_reducible repeat (first | refine blk_drewN ?_ _ | refine blk_drew ?_ | refine blk_alloc ?_ _)); refine blk_far ?_ NB178_201.out _; (with_reducible repeat (first | refine blk_drewN ?_ _ | refine blk_drew ?_ | refine blk_alloc ?_ _)); refine blk_far ?_ NB178_201.out _; (with_reducible repeat (first | refine blk_drewN ?_ _ | refine blk_drew ?_ | refine blk_alloc ?_ _)); refine blk_far ?_ NB178_201.out _; (with_reducible repeat (first | refine blk_drewN ?_ _ | refine blk_drew ?_ | refine blk_alloc ?_ _)); refine blk_far ?_ NB178_201.out _; exact kb_ BK178.out) Try.underlying24 rfl (by kernel_rfl)) rfl ?_
  exact ⟨_, _, ng_, by first | exact Kd.R_nil _ _ _ _ _ | exact Kd.N_nil _ _ _ _ _ | exact Kd.V_nil _ _ _ _ _ | exact Kd.Q_nil _ _ _ _ _ | exact Kd.S_nil _ _ _ _ _, by first | exact Kd.R_nil _ _ _ _ _ | exact Kd.N_nil _ _ _ _ _ | exact Kd.V_nil _ _ _ _ _ | exact Kd.Q_nil _ _ _ _ _ | exact Kd.S_nil _ _ _ _ _, bl_⟩
 subst c7
 have H1 : (some (t190, t191, t192, t195, t196, t197, true)) = some (r1, r2, r3, r4, r5, r6, r7) := by rw [if_pos rfl] at H; exact H
 clear H
 have H := H1
 clear H1
 simp only [Option.some.injEq, Prod.mk.injEq] at H
 obtain ⟨rfl, rfl, rfl, rfl, rfl, rfl, rfl⟩ := H
 go_enter Try.func28, Try.ntmps28
 try go_wp2_with (first | ((with_reducible refine gate_dst (N := 2) rfl ?_); refine box_event rfl (N := 2) rfl (cs := #[.int .i64 a0_0, .int .i64 a0_1, .slice A0_2 l0_2.length c0_2, .int .i64 a0_3, .int .i64 a0_4, .slice A0_5 l0_5.length c0_5]) (t := 24) gs_ ?_; intro gb176 hg w8 hbox hb; have BK176 := Aside0.mk (hbox); have GW176 := Aside0.mk ((by rw [hg]; exact bz_ : w.heap.size ≤ gb176)); have GE176 := GW176; replace HB := Aside0.mk (below_step bl_ hb); clear hb hbox hg) | ((with_reducible refine gate_dst (N := 3) rfl ?_); refine box_event rfl (N := 3) rfl (cs := #[.int .i64 a1_0, .int .i64 a1_1, .int .i64 a1_2]) (t := 45) gs_ ?_; intro gb177 hg w9 hbox hb; have BK177 := Aside0.mk (hbox); have GW177 := Aside0.mk ((by rw [hg]; exact bz_ : w.heap.size ≤ gb177)); have GE177 := GW177; replace HB := Aside0.mk (below_step bl_ hb); have NB176_177 := nl_ hg BK176; have NB177_176 := nm_ hg BK176; replace BK176 := bb_ BK176 hb; clear hb hbox hg) | ((with_reducible refine gate_dst (N := 4) rfl ?_); refine box_event rfl (N := 4) rfl (cs := #[.int .i64 0, .int .i64 0, .slice none 0 0, .int .i64 0, .int .i64 0, .slice none 0 0]) (t := 24) gs_ ?_; intro gb178 hg w10 hbox hb; have BK178 := Aside0.mk (hbox); have GW178 := Aside0.mk ((by rw [hg]; exact bz_ : w.heap.size ≤ gb178)); have GE178 := GW178; replace HB := Aside0.mk (below_step bl_ hb); have NB176_178 := nl_ hg BK176; have NB178_176 := nm_ hg BK176; replace BK176 := bb_ BK176 hb; have NB177_178 := nl_ hg BK177; have NB178_177 := nm_ hg BK177; replace BK177 := bb_ BK177 hb; clear hb hbox hg; have hnb11 := NB176_177.out; have hnc11 := NB177_176.out; have hnb12 := NB176_178.out; have hnc12 := NB178_176.out; have hcz13_0 : w10.cell? ⟨gb176, 0, none⟩ = some (.int .i64 a0_0) := bc_ BK176.out 0; have hcz13_1 : w10.cell? ⟨gb176, 1, none⟩ = some (.int .i64 a0_1) := bc_ BK176.out 1; have hcz13_2 : w10.cell? ⟨gb176, 2, none⟩ = some (.slice A0_2 l0_2.length c0_2) := bc_ BK176.out 2; have hcz13_3 : w10.cell? ⟨gb176, 3, none⟩ = some (.int .i64 a0_3) := bc_ BK176.out 3; have hcz13_4 : w10.cell? ⟨gb176, 4, none⟩ = some (.int .i64 a0_4) := bc_ BK176.out 4; have hcz13_5 : w10.cell? ⟨gb176, 5, none⟩ = some (.slice A0_5 l0_5.length c0_5) := bc_ BK176.out 5; have hfz13_0 := blk_frozen BK176.out 0; have hfz13_1 := blk_frozen BK176.out 1; have hfz13_2 := blk_frozen BK176.out 2; have hfz13_3 := blk_frozen BK176.out 3; have hfz13_4 := blk_frozen BK176.out 4; have hfz13_5 := blk_frozen BK176.out 5) | ((with_reducible refine gate_callee (f := 18) rfl ?_); refine goesL_ (some 9) rfl rfl Try.func18 (by kernel_rfl) rfl #[.agg #[.int .i64 a0_0, .int .i64 a0_1, .slice A0_2 l0_2.length c0_2, .int .i64 a0_3, .int .i64 a0_4, .slice A0_5 l0_5.length c0_5]] rfl nc_ ?_; (with_reducible refine (spec_GoodLeases.calls k a0_0 a0_1 _ _ l0_2 a0_3 a0_4 _ _ l0_5 true _ ?side1 ?side2 ?side3 ?side4 A3.out).mono ?_); (case side1 => exact kc_ (Kd.C_below HR0_2.out HB.out)); (case side2 => exact HC0_2.out); (case side3 => exact kc_ (Kd.C_below HR0_5.out HB.out)); (case side4 => exact HC0_5.out); rintro e w14 ⟨rfl, hb⟩; refine ⟨_, rfl, ?_⟩; replace BK176 := bb_ BK176 hb; replace BK177 := bb_ BK177 hb; replace BK178 := bb_ BK178 hb; replace HB := Aside0.mk (below_step bl_ hb); clear hb))
 replace BK176 := Aside0.mk (blk_drew BK176.out)
 replace BK177 := Aside0.mk (blk_drew BK177.out)
 replace BK178 := Aside0.mk (blk_drew BK178.out)
 replace HB := Aside0.mk (below_drew1 HB.out)
 refine start_ (n := 10) (S := fun w' => w'.cell? ⟨gb176, 0, none⟩ = some (.int .i64 a0_0) ∧ w'.cell? ⟨gb176, 1, none⟩ = some (.int .i64 a0_1) ∧ w'.cell? ⟨gb176, 2, none⟩ = some (.slice A0_2 l0_2.length c0_2) ∧ w'.cell? ⟨gb176, 3, none⟩ = some (.int .i64 a0_3) ∧ w'.cell? ⟨gb176, 4, none⟩ = some (.int .i64 a0_4) ∧ w'.cell? ⟨gb176, 5, none⟩ = some (.slice A0_5 l0_5.length c0_5) ∧ w'.cell? ⟨gb177, 0, none⟩ = some (.int .i64 a1_0) ∧ w'.cell? ⟨gb177, 1, none⟩ = some (.int .i64 a1_1) ∧ w'.cell? ⟨gb177, 2, none⟩ = some (.int .i64 a1_2)) (ds := []) #[false, false, false, false, false, false, false, false, false, false] (by kernel_rfl) rfl rfl ⟨bc_ BK176.out 0, bc_ BK176.out 1, bc_ BK176.out 2, bc_ BK176.out 3, bc_ BK176.out 4, bc_ BK176.out 5, bc_ BK177.out 0, bc_ BK177.out 1, bc_ BK177.out 2⟩ (fun hHeld => ?_); refine with_tabW spec_StepLease.tab3 spec_StepLease.bits3 (fun HT_ HW_ => ?_)
 generalize w14.drew = w15 at BK176 BK177 BK178 HB hHeld ⊢
 refine tk9_ 0 (some 13) (h := ?_)
 refine tk9_ 2 (some 15) (h := ?_)
 refine join_ (σ := Value × Value × Value × Value × Nat) 2 #[true, true, true, true, true, true, true, true, false, false] (fun s_ => [(14, .agg #[.int .i64 t180, .int .i64 t181, s_.1, .int .i64 t185, .int .i64 t186, s_.2.1]), (16, .tuple #[.agg #[.int .i64 t190, .int .i64 t191, s_.2.2.1, .int .i64 t195, .int .i64 t196, s_.2.2.2.1], .bool true]), (6, .pointer (some ⟨s_.2.2.2.2, 0, none⟩)), (12, .tuple #[.agg #[.int .i64 t190, .int .i64 t191, s_.2.2.1, .int .i64 t195, .int .i64 t196, s_.2.2.2.1], .bool true]), (17, .agg #[.int .i64 t190, .int .i64 t191, s_.2.2.1, .int .i64 t195, .int .i64 t196, s_.2.2.2.1]), (18, .bool true)]) (fun s_ w' => (w'.cell? ⟨gb176, 0, none⟩ = some (.int .i64 a0_0) ∧ w'.cell? ⟨gb176, 1, none⟩ = some (.int .i64 a0_1) ∧ w'.cell? ⟨gb176, 2, none⟩ = some (.slice A0_2 l0_2.length c0_2) ∧ w'.cell? ⟨gb176, 3, none⟩ = some (.int .i64 a0_3) ∧ w'.cell? ⟨gb176, 4, none⟩ = some (.int .i64 a0_4) ∧ w'.cell? ⟨gb176, 5, none⟩ = some (.slice A0_5 l0_5.length c0_5) ∧ w'.cell? ⟨gb177, 0, none⟩ = some (.int .i64 a1_0) ∧ w'.cell? ⟨gb177, 1, none⟩ = some (.int .i64 a1_1) ∧ w'.cell? ⟨gb177, 2, none⟩ = some (.int .i64 a1_2)) ∧ (Kd.R (Kd.int .i64) 3 w' w.heap.size (fun k_ => some k_ ≠ (s_.2.2.2.1 : Value).ownBlock) s_.2.2.1 t192) ∧ (Kd.R (Kd.int .i64) 3 w' w.heap.size (fun k_ => some k_ ≠ (s_.2.2.1 : Value).ownBlock) s_.2.2.2.1 t197) ∧ (w'.heap[gb176]? = some (.cells #[.int .i64 a0_0, .int .i64 a0_1, .slice A0_2 l0_2.length c0_2, .int .i64 a0_3, .int .i64 a0_4, .slice A0_5 l0_5.length c0_5] 24 (0, 0))) ∧ (w'.heap[gb177]? = some (.cells #[.int .i64 a1_0, .int .i64 a1_1, .int .i64 a1_2] 45 (0, 0))) ∧ (w'.heap[gb178]? = some (.cells #[.int .i64 0, .int .i64 0, .slice none 0 0, .int .i64 0, .int .i64 0, .slice none 0 0] 24 (0, 0))) ∧ (w'.heap[s_.2.2.2.2]? = some (.cells #[.int .i64 0, .int .i64 0, .slice none 0 0, .int .i64 0, .int .i64 0, .slice none 0 0] 24 (0, 0))) ∧ (w.heap.size ≤ s_.2.2.2.2) ∧ (w.heap.size ≤ s_.2.2.2.2) ∧ (gb176 ≠ s_.2.2.2.2) ∧ (s_.2.2.2.2 ≠ gb176) ∧ (gb177 ≠ s_.2.2.2.2) ∧ (s_.2.2.2.2 ≠ gb177) ∧ (gb178 ≠ s_.2.2.2.2) ∧ (s_.2.2.2.2 ≠ gb178) ∧ (Below w.heap.size w w')) ?_ ?_
 rotate_left
 ·intro hCont
  refine tw_ 1 7 (some 14) (some 6) (h1 := fun K hK => ?_) (h2 := fun K hK => ?_)
  ·skip
   refine goes_ Try.func54 (by kernel_rfl) rfl #[.agg #[.int .i64 a0_0, .int .i64 a0_1, .slice A0_2 l0_2.length c0_2, .int .i64 a0_3, .int .i64 a0_4, .slice A0_5 l0_5.length c0_5]] (by rfl) rfl rfl nc_ ?_
   with_reducible refine (spec_l11Own.calls a0_0 a0_1 _ _ l0_2 a0_3 a0_4 _ _ l0_5 t180 t181 t182 t185 t186 t187 _ ?side1 ?side2 ?side3 ?side4 A5.out).mono ?_
   (case side1 => exact kc_ (Kd.C_below HR0_2.out HB.out))
   (case side2 => exact HC0_2.out)
   (case side3 => exact kc_ (Kd.C_below HR0_5.out HB.out))
   (case side4 => exact HC0_5.out)
   rintro e w16 ⟨v183, v188, rfl, ho0, ho1, hb⟩
   refine ⟨_, rfl, ?_⟩
   have HO184 := Aside0.mk (Kd.R_lower ho0 bz_)
   have HO189 := Aside0.mk (Kd.R_lower ho1 bz_)
   replace BK176 := bb_ BK176 hb
   replace BK177 := bb_ BK177 hb
   replace BK178 := bb_ BK178 hb
   replace HB := Aside0.mk (below_step bl_ hb)
   clear hb ho0 ho1
   obtain ⟨Ao17, co17, eo17⟩ := Kd.R_slice HO184.out
   (first | subst eo17 | (injection eo17 with f1_ f2_ f3_; have f4_ := f1_.symm; have f5_ := f3_.symm; clear f1_ f2_ f3_; subst f4_; subst f5_))
   obtain ⟨Ao18, co18, eo18⟩ := Kd.R_slice HO189.out
   (first | subst eo18 | (injection eo18 with f1_ f2_ f3_; have f4_ := f1_.symm; have f5_ := f3_.symm; clear f1_ f2_ f3_; subst f4_; subst f5_))
   refine hK.out _ _ ⟨bc_ BK176.out 0, bc_ BK176.out 1, bc_ BK176.out 2, bc_ BK176.out 3, bc_ BK176.out 4, bc_ BK176.out 5, bc_ BK177.out 0, bc_ BK177.out 1, bc_ BK177.out 2⟩ (fun hHeld => ?_)
   clear hK K
   refine norm_ nn_ ?_
   refine tw_ 3 7 (some 16) (some 6) (h1 := fun K hK => ?_) (h2 := fun K hK => ?_)
   ·skip
    refine goes_ Try.func53 (by kernel_rfl) rfl #[.agg #[.int .i64 t180, .int .i64 t181, .slice Ao17 t182.length co17, .int .i64 t185, .int .i64 t186, .slice Ao18 t187.length co18], .agg #[.int .i64 a1_0, .int .i64 a1_1, .int .i64 a1_2]] (by rfl) rfl rfl nc_ ?_
    with_reducible refine (spec_l11Step.calls k t180 t181 (fun k_ => some k_ = (.slice Ao17 t182.length co17 : Value).ownBlock) (.slice Ao17 t182.length co17) t182 t185 t186 (fun k_ => some k_ = (.slice Ao18 t187.length co18 : Value).ownBlock) (.slice Ao18 t187.length co18) t187 a1_0 a1_1 a1_2 t190 t191 t192 t195 t196 t197 true w _ ?side1 ?side2 ?side3 ?side4 ?side5 A6.out).mono ?_
    (case side1 => repeat (first | (with_reducible first | exact HB.out | apply below_alloc | apply pw_below_drewN | apply below_drew1 | refine below_set ?_ GE176.out | refine below_set ?_ GE177.out | refine below_set ?_ GE178.out) | exact HB.out))
    (case side2 => exact Kd.R_tight rfl HO184.out)
    (case side3 => exact fun k_ e_ => (HO184.out.1 k_ e_.symm))
    (case side4 => exact Kd.R_tight rfl HO189.out)
    (case side5 => exact fun k_ e_ => (HO189.out.1 k_ e_.symm))
    rintro e w19 ⟨v193, v198, rfl, ho0, ho1, hb, hkp⟩
    refine ⟨_, rfl, ?_⟩
    replace BK176 := Aside0.mk (blk_kept (kb_ BK176.out) hkp (fun hs_ => Or.elim hs_ (fun e_ => (fun e_ => (Kd.R_ne HO184.out BK176.out (by decide)) e_) e_) (fun e_ => (fun e_ => (Kd.R_ne HO189.out BK176.out (by decide)) e_) e_)))
    replace BK177 := Aside0.mk (blk_kept (kb_ BK177.out) hkp (fun hs_ => Or.elim hs_ (fun e_ => (fun e_ => (Kd.R_ne HO184.out BK177.out (by decide)) e_) e_) (fun e_ => (fun e_ => (Kd.R_ne HO189.out BK177.out (by decide)) e_) e_)))
    replace BK178 := Aside0.mk (blk_kept (kb_ BK178.out) hkp (fun hs_ => Or.elim hs_ (fun e_ => (fun e_ => (Kd.R_ne HO184.out BK178.out (by decide)) e_) e_) (fun e_ => (fun e_ => (Kd.R_ne HO189.out BK178.out (by decide)) e_) e_)))
    have HO194 := Aside0.mk (Kd.R_mono (ok' := fun k_ => some k_ ≠ (v198 : Value).ownBlock) ho0 (fun k_ hk_ => hk_.2))
    have HO199 := Aside0.mk (Kd.R_mono (ok' := fun k_ => some k_ ≠ (v193 : Value).ownBlock) ho1 (fun k_ hk_ => hk_.2))
    replace HB := Aside0.mk (hb)
    clear HO184 HO189 hb ho0 ho1
    refine hK.out _ _ ⟨bc_ BK176.out 0, bc_ BK176.out 1, bc_ BK176.out 2, bc_ BK176.out 3, bc_ BK176.out 4, bc_ BK176.out 5, bc_ BK177.out 0, bc_ BK177.out 1, bc_ BK177.out 2⟩ (fun hHeld => ?_)
    clear hK K
    refine norm_ nn_ ?_
    refine pu_ 4 (some 12) (h := ?_)
    refine pu_ 5 (some 17) (h := ?_)
    refine pu_ 6 (some 18) (h := ?_)
    refine on_ 7 (some 6) (h := fun K hK => ?_)
    refine box_step rfl (N := 6) rfl (cs := #[.int .i64 0, .int .i64 0, .slice none 0 0, .int .i64 0, .int .i64 0, .slice none 0 0]) (t := 24) gs_ ?_
    intro gb201 hg w20 hbox hb
    replace HO194 := rb_ HO194 hb
    replace HO199 := rb_ HO199 hb
    have BK201 := Aside0.mk (hbox)
    have GW201 := Aside0.mk ((by rw [hg]; exact bz_ : w.heap.size ≤ gb201))
    have GE201 := GW201
    replace HB := Aside0.mk (below_step bl_ hb)
    have NB176_201 := nl_ hg BK176
    have NB201_176 := nm_ hg BK176
    replace BK176 := bb_ BK176 hb
    have NB177_201 := nl_ hg BK177
    have NB201_177 := nm_ hg BK177
    replace BK177 := bb_ BK177 hb
    have NB178_201 := nl_ hg BK178
    have NB201_178 := nm_ hg BK178
    replace BK178 := bb_ BK178 hb
    clear hb hbox hg
    refine hK.out _ _ ⟨bc_ BK176.out 0, bc_ BK176.out 1, bc_ BK176.out 2, bc_ BK176.out 3, bc_ BK176.out 4, bc_ BK176.out 5, bc_ BK177.out 0, bc_ BK177.out 1, bc_ BK177.out 2⟩ (fun hHeld => ?_)
    clear hK K
    refine norm_ nn_ ?_
    exact norm_ (by simp only [putAll, Act.put, List.setIfInBounds_toArray, List.set_cons_zero, List.set_cons_succ]) (hCont (.slice Ao17 t182.length co17, .slice Ao18 t187.length co18, v193, v198, gb201) _ ⟨hHeld, kr_ HO194.out, kr_ HO199.out, kb_ BK176.out, kb_ BK177.out, kb_ BK178.out, kb_ BK201.out, GW201.out, GE201.out, NB176_201.out, NB201_176.out, NB177_201.out, NB201_177.out, NB178_201.out, NB201_178.out, bl_⟩)
   ·skip
    refine box_step rfl (N := 6) rfl (cs := #[.int .i64 0, .int .i64 0, .slice none 0 0, .int .i64 0, .int .i64 0, .slice none 0 0]) (t := 24) gs_ ?_
    intro gb201 hg w17 hbox hb
    replace HO184 := rb_ HO184 hb
    replace HO189 := rb_ HO189 hb
    have BK201 := Aside0.mk (hbox)
    have GW201 := Aside0.mk ((by rw [hg]; exact bz_ : w.heap.size ≤ gb201))
    have GE201 := GW201
    replace HB := Aside0.mk (below_step bl_ hb)
    have NB176_201 := nl_ hg BK176
    have NB201_176 := nm_ hg BK176
    replace BK176 := bb_ BK176 hb
    have NB177_201 := nl_ hg BK177
    have NB201_177 := nm_ hg BK177
    replace BK177 := bb_ BK177 hb
    have NB178_201 := nl_ hg BK178
    have NB201_178 := nm_ hg BK178
    replace BK178 := bb_ BK178 hb
    clear hb hbox hg
    obtain ⟨Ao18, co18, eo18⟩ := Kd.R_slice HO184.out
    (first | subst eo18 | (injection eo18 with f1_ f2_ f3_; have f4_ := f1_.symm; have f5_ := f3_.symm; clear f1_ f2_ f3_; subst f4_; subst f5_))
    obtain ⟨Ao19, co19, eo19⟩ := Kd.R_slice HO189.out
    (first | subst eo19 | (injection eo19 with f1_ f2_ f3_; have f4_ := f1_.symm; have f5_ := f3_.symm; clear f1_ f2_ f3_; subst f4_; subst f5_))
    refine hK.out _ _ ⟨bc_ BK176.out 0, bc_ BK176.out 1, bc_ BK176.out 2, bc_ BK176.out 3, bc_ BK176.out 4, bc_ BK176.out 5, bc_ BK177.out 0, bc_ BK177.out 1, bc_ BK177.out 2⟩ (fun hHeld => ?_)
    clear hK K
    refine norm_ nn_ ?_
    refine on_ 3 (some 16) (h := fun K hK => ?_)
    refine goes_ Try.func53 (by kernel_rfl) rfl #[.agg #[.int .i64 t180, .int .i64 t181, .slice Ao18 t182.length co18, .int .i64 t185, .int .i64 t186, .slice Ao19 t187.length co19], .agg #[.int .i64 a1_0, .int .i64 a1_1, .int .i64 a1_2]] (by rfl) rfl rfl nc_ ?_
    with_reducible refine (spec_l11Step.calls k t180 t181 (fun k_ => some k_ = (.slice Ao18 t182.length co18 : Value).ownBlock) (.slice Ao18 t182.length co18) t182 t185 t186 (fun k_ => some k_ = (.slice Ao19 t187.length co19 : Value).ownBlock) (.slice Ao19 t187.length co19) t187 a1_0 a1_1 a1_2 t190 t191 t192 t195 t196 t197 true w _ ?side1 ?side2 ?side3 ?side4 ?side5 A6.out).mono ?_
    (case side1 => repeat (first | (with_reducible first | exact HB.out | apply below_alloc | apply pw_below_drewN | apply below_drew1 | refine below_set ?_ GE176.out | refine below_set ?_ GE177.out | refine below_set ?_ GE178.out | refine below_set ?_ GE201.out) | exact HB.out))
    (case side2 => exact Kd.R_tight rfl HO184.out)
    (case side3 => exact fun k_ e_ => (HO184.out.1 k_ e_.symm))
    (case side4 => exact Kd.R_tight rfl HO189.out)
    (case side5 => exact fun k_ e_ => (HO189.out.1 k_ e_.symm))
    rintro e w20 ⟨v193, v198, rfl, ho0, ho1, hb, hkp⟩
    refine ⟨_, rfl, ?_⟩
    replace BK176 := Aside0.mk (blk_kept (kb_ BK176.out) hkp (fun hs_ => Or.elim hs_ (fun e_ => (fun e_ => (Kd.R_ne HO184.out BK176.out (by decide)) e_) e_) (fun e_ => (fun e_ => (Kd.R_ne HO189.out BK176.out (by decide)) e_) e_)))
    replace BK177 := Aside0.mk (blk_kept (kb_ BK177.out) hkp (fun hs_ => Or.elim hs_ (fun e_ => (fun e_ => (Kd.R_ne HO184.out BK177.out (by decide)) e_) e_) (fun e_ => (fun e_ => (Kd.R_ne HO189.out BK177.out (by decide)) e_) e_)))
    replace BK178 := Aside0.mk (blk_kept (kb_ BK178.out) hkp (fun hs_ => Or.elim hs_ (fun e_ => (fun e_ => (Kd.R_ne HO184.out BK178.out (by decide)) e_) e_) (fun e_ => (fun e_ => (Kd.R_ne HO189.out BK178.out (by decide)) e_) e_)))
    replace BK201 := Aside0.mk (blk_kept (kb_ BK201.out) hkp (fun hs_ => Or.elim hs_ (fun e_ => (fun e_ => (Kd.R_ne HO184.out BK201.out (by decide)) e_) e_) (fun e_ => (fun e_ => (Kd.R_ne HO189.out BK201.out (by decide)) e_) e_)))
    have HO194 := Aside0.mk (Kd.R_mono (ok' := fun k_ => some k_ ≠ (v198 : Value).ownBlock) ho0 (fun k_ hk_ => hk_.2))
    have HO199 := Aside0.mk (Kd.R_mono (ok' := fun k_ => some k_ ≠ (v193 : Value).ownBlock) ho1 (fun k_ hk_ => hk_.2))
    replace HB := Aside0.mk (hb)
    clear HO184 HO189 hb ho0 ho1
    refine hK.out _ _ ⟨bc_ BK176.out 0, bc_ BK176.out 1, bc_ BK176.out 2, bc_ BK176.out 3, bc_ BK176.out 4, bc_ BK176.out 5, bc_ BK177.out 0, bc_ BK177.out 1, bc_ BK177.out 2⟩ (fun hHeld => ?_)
    clear hK K
    refine norm_ nn_ ?_
    refine pu_ 4 (some 12) (h := ?_)
    refine pu_ 5 (some 17) (h := ?_)
    refine pu_ 6 (some 18) (h := ?_)
    exact norm_ (by simp only [putAll, Act.put, List.setIfInBounds_toArray, List.set_cons_zero, List.set_cons_succ]) (hCont (.slice Ao18 t182.length co18, .slice Ao19 t187.length co19, v193, v198, gb201) _ ⟨hHeld, kr_ HO194.out, kr_ HO199.out, kb_ BK176.out, kb_ BK177.out, kb_ BK178.out, kb_ BK201.out, GW201.out, GE201.out, NB176_201.out, NB201_176.out, NB177_201.out, NB201_177.out, NB178_201.out, NB201_178.out, bl_⟩)
  ·skip
   refine box_step rfl (N := 6) rfl (cs := #[.int .i64 0, .int .i64 0, .slice none 0 0, .int .i64 0, .int .i64 0, .slice none 0 0]) (t := 24) gs_ ?_
   intro gb201 hg w16 hbox hb
   have BK201 := Aside0.mk (hbox)
   have GW201 := Aside0.mk ((by rw [hg]; exact bz_ : w.heap.size ≤ gb201))
   have GE201 := GW201
   replace HB := Aside0.mk (below_step bl_ hb)
   have NB176_201 := nl_ hg BK176
   have NB201_176 := nm_ hg BK176
   replace BK176 := bb_ BK176 hb
   have NB177_201 := nl_ hg BK177
   have NB201_177 := nm_ hg BK177
   replace BK177 := bb_ BK177 hb
   have NB178_201 := nl_ hg BK178
   have NB201_178 := nm_ hg BK178
   replace BK178 := bb_ BK178 hb
   clear hb hbox hg
   refine hK.out _ _ ⟨bc_ BK176.out 0, bc_ BK176.out 1, bc_ BK176.out 2, bc_ BK176.out 3, bc_ BK176.out 4, bc_ BK176.out 5, bc_ BK177.out 0, bc_ BK177.out 1, bc_ BK177.out 2⟩ (fun hHeld => ?_)
   clear hK K
   refine norm_ nn_ ?_
   refine on_ 1 (some 14) (h := fun K hK => ?_)
   refine goes_ Try.func54 (by kernel_rfl) rfl #[.agg #[.int .i64 a0_0, .int .i64 a0_1, .slice A0_2 l0_2.length c0_2, .int .i64 a0_3, .int .i64 a0_4, .slice A0_5 l0_5.length c0_5]] (by rfl) rfl rfl nc_ ?_
   with_reducible refine (spec_l11Own.calls a0_0 a0_1 _ _ l0_2 a0_3 a0_4 _ _ l0_5 t180 t181 t182 t185 t186 t187 _ ?side1 ?side2 ?side3 ?side4 A5.out).mono ?_
   (case side1 => exact kc_ (Kd.C_below HR0_2.out HB.out))
   (case side2 => exact HC0_2.out)
   (case side3 => exact kc_ (Kd.C_below HR0_5.out HB.out))
   (case side4 => exact HC0_5.out)
   rintro e w17 ⟨v183, v188, rfl, ho0, ho1, hb⟩
   refine ⟨_, rfl, ?_⟩
   have HO184 := Aside0.mk (Kd.R_lower ho0 bz_)
   have HO189 := Aside0.mk (Kd.R_lower ho1 bz_)
   replace BK176 := bb_ BK176 hb
   replace BK177 := bb_ BK177 hb
   replace BK178 := bb_ BK178 hb
   replace BK201 := bb_ BK201 hb
   replace HB := Aside0.mk (below_step bl_ hb)
   clear hb ho0 ho1
   obtain ⟨Ao18, co18, eo18⟩ := Kd.R_slice HO184.out
   (first | subst eo18 | (injection eo18 with f1_ f2_ f3_; have f4_ := f1_.symm; have f5_ := f3_.symm; clear f1_ f2_ f3_; subst f4_; subst f5_))
   obtain ⟨Ao19, co19, eo19⟩ := Kd.R_slice HO189.out
   (first | subst eo19 | (injection eo19 with f1_ f2_ f3_; have f4_ := f1_.symm; have f5_ := f3_.symm; clear f1_ f2_ f3_; subst f4_; subst f5_))
   refine hK.out _ _ ⟨bc_ BK176.out 0, bc_ BK176.out 1, bc_ BK176.out 2, bc_ BK176.out 3, bc_ BK176.out 4, bc_ BK176.out 5, bc_ BK177.out 0, bc_ BK177.out 1, bc_ BK177.out 2⟩ (fun hHeld => ?_)
   clear hK K
   refine norm_ nn_ ?_
   refine on_ 3 (some 16) (h := fun K hK => ?_)
   refine goes_ Try.func53 (by kernel_rfl) rfl #[.agg #[.int .i64 t180, .int .i64 t181, .slice Ao18 t182.length co18, .int .i64 t185, .int .i64 t186, .slice Ao19 t187.length co19], .agg #[.int .i64 a1_0, .int .i64 a1_1, .int .i64 a1_2]] (by rfl) rfl rfl nc_ ?_
   with_reducible refine (spec_l11Step.calls k t180 t181 (fun k_ => some k_ = (.slice Ao18 t182.length co18 : Value).ownBlock) (.slice Ao18 t182.length co18) t182 t185 t186 (fun k_ => some k_ = (.slice Ao19 t187.length co19 : Value).ownBlock) (.slice Ao19 t187.length co19) t187 a1_0 a1_1 a1_2 t190 t191 t192 t195 t196 t197 true w _ ?side1 ?side2 ?side3 ?side4 ?side5 A6.out).mono ?_
   (case side1 => repeat (first | (with_reducible first | exact HB.out | apply below_alloc | apply pw_below_drewN | apply below_drew1 | refine below_set ?_ GE176.out | refine below_set ?_ GE177.out | refine below_set ?_ GE178.out | refine below_set ?_ GE201.out) | exact HB.out))
   (case side2 => exact Kd.R_tight rfl HO184.out)
   (case side3 => exact fun k_ e_ => (HO184.out.1 k_ e_.symm))
   (case side4 => exact Kd.R_tight rfl HO189.out)
   (case side5 => exact fun k_ e_ => (HO189.out.1 k_ e_.symm))
   rintro e w20 ⟨v193, v198, rfl, ho0, ho1, hb, hkp⟩
   refine ⟨_, rfl, ?_⟩
   replace BK176 := Aside0.mk (blk_kept (kb_ BK176.out) hkp (fun hs_ => Or.elim hs_ (fun e_ => (fun e_ => (Kd.R_ne HO184.out BK176.out (by decide)) e_) e_) (fun e_ => (fun e_ => (Kd.R_ne HO189.out BK176.out (by decide)) e_) e_)))
   replace BK177 := Aside0.mk (blk_kept (kb_ BK177.out) hkp (fun hs_ => Or.elim hs_ (fun e_ => (fun e_ => (Kd.R_ne HO184.out BK177.out (by decide)) e_) e_) (fun e_ => (fun e_ => (Kd.R_ne HO189.out BK177.out (by decide)) e_) e_)))
   replace BK178 := Aside0.mk (blk_kept (kb_ BK178.out) hkp (fun hs_ => Or.elim hs_ (fun e_ => (fun e_ => (Kd.R_ne HO184.out BK178.out (by decide)) e_) e_) (fun e_ => (fun e_ => (Kd.R_ne HO189.out BK178.out (by decide)) e_) e_)))
   replace BK201 := Aside0.mk (blk_kept (kb_ BK201.out) hkp (fun hs_ => Or.elim hs_ (fun e_ => (fun e_ => (Kd.R_ne HO184.out BK201.out (by decide)) e_) e_) (fun e_ => (fun e_ => (Kd.R_ne HO189.out BK201.out (by decide)) e_) e_)))
   have HO194 := Aside0.mk (Kd.R_mono (ok' := fun k_ => some k_ ≠ (v198 : Value).ownBlock) ho0 (fun k_ hk_ => hk_.2))
   have HO199 := Aside0.mk (Kd.R_mono (ok' := fun k_ => some k_ ≠ (v193 : Value).ownBlock) ho1 (fun k_ hk_ => hk_.2))
   replace HB := Aside0.mk (hb)
   clear HO184 HO189 hb ho0 ho1
   refine hK.out _ _ ⟨bc_ BK176.out 0, bc_ BK176.out 1, bc_ BK176.out 2, bc_ BK176.out 3, bc_ BK176.out 4, bc_ BK176.out 5, bc_ BK177.out 0, bc_ BK177.out 1, bc_ BK177.out 2⟩ (fun hHeld => ?_)
   clear hK K
   refine norm_ nn_ ?_
   refine pu_ 4 (some 12) (h := ?_)
   refine pu_ 5 (some 17) (h := ?_)
   refine pu_ 6 (some 18) (h := ?_)
   exact norm_ (by simp only [putAll, Act.put, List.setIfInBounds_toArray, List.set_cons_zero, List.set_cons_succ]) (hCont (.slice Ao18 t182.length co18, .slice Ao19 t187.length co19, v193, v198, gb201) _ ⟨hHeld, kr_ HO194.out, kr_ HO199.out, kb_ BK176.out, kb_ BK177.out, kb_ BK178.out, kb_ BK201.out, GW201.out, GE201.out, NB176_201.out, NB201_176.out, NB177_201.out, NB201_177.out, NB178_201.out, NB201_178.out, bl_⟩)
 rintro ⟨v183, v188, v193, v198, gb201⟩ w21 ⟨hS_, h0_, h1_, h2_, h3_, h4_, h5_, h6_, h7_, h8_, h9_, h10_, h11_, h12_, h13_, h14_⟩
 dsimp only at h0_ h1_ h2_ h3_ h4_ h5_ h6_ h7_ h8_ h9_ h10_ h11_ h12_ h13_ h14_
 have HO194 := Aside0.mk h0_
 have HO199 := Aside0.mk h1_
 replace BK176 := Aside0.mk h2_
 replace BK177 := Aside0.mk h3_
 replace BK178 := Aside0.mk h4_
 have BK201 := Aside0.mk h5_
 have GW201 := Aside0.mk h6_
 have GE201 := Aside0.mk h7_
 have NB176_201 := Aside0.mk h8_
 have NB201_176 := Aside0.mk h9_
 have NB177_201 := Aside0.mk h10_
 have NB201_177 := Aside0.mk h11_
 have NB178_201 := Aside0.mk h12_
 have NB201_178 := Aside0.mk h13_
 replace HB := Aside0.mk h14_
 clear h0_ h1_ h2_ h3_ h4_ h5_ h6_ h7_ h8_ h9_ h10_ h11_ h12_ h13_ h14_
 try dsimp only at hS_
 have hHeld := hS_
 obtain ⟨Ao24, co24, eo24⟩ := Kd.R_slice HO194.out
 (first | subst eo24 | (injection eo24 with f1_ f2_ f3_; have f4_ := f1_.symm; have f5_ := f3_.symm; clear f1_ f2_ f3_; subst f4_; subst f5_))
 obtain ⟨Ao28, co28, eo28⟩ := Kd.R_slice HO199.out
 (first | subst eo28 | (injection eo28 with f1_ f2_ f3_; have f4_ := f1_.symm; have f5_ := f3_.symm; clear f1_ f2_ f3_; subst f4_; subst f5_))
 refine norm_ np_ ?_
 refine on_ 8 none (h := fun K hK => ?_)
 have hs22 : w21.cell? ⟨gb201, 0, none⟩ = some (.int .i64 0) := bc_ BK201.out 0
 have hfs22 := blk_frozen BK201.out 0
 have hns22_0 := NB176_201.out
 have hns22_1 := NB177_201.out
 have hns22_2 := NB178_201.out
 have hms22_0 := NB201_176.out
 have hms22_1 := NB201_177.out
 have hms22_2 := NB201_178.out
 have hs23 : w21.cell? ⟨gb201, 1, none⟩ = some (.int .i64 0) := bc_ BK201.out 1
 have hfs23 := blk_frozen BK201.out 1
 have hns23_0 := NB176_201.out
 have hns23_1 := NB177_201.out
 have hns23_2 := NB178_201.out
 have hms23_0 := NB201_176.out
 have hms23_1 := NB201_177.out
 have hms23_2 := NB201_178.out
 have hs25 : w21.cell? ⟨gb201, 2, none⟩ = some (.slice none 0 0) := bc_ BK201.out 2
 have hfs25 := blk_frozen BK201.out 2
 have hns25_0 := NB176_201.out
 have hns25_1 := NB177_201.out
 have hns25_2 := NB178_201.out
 have hms25_0 := NB201_176.out
 have hms25_1 := NB201_177.out
 have hms25_2 := NB201_178.out
 have hs26 : w21.cell? ⟨gb201, 3, none⟩ = some (.int .i64 0) := bc_ BK201.out 3
 have hfs26 := blk_frozen BK201.out 3
 have hns26_0 := NB176_201.out
 have hns26_1 := NB177_201.out
 have hns26_2 := NB178_201.out
 have hms26_0 := NB201_176.out
 have hms26_1 := NB201_177.out
 have hms26_2 := NB201_178.out
 have hs27 : w21.cell? ⟨gb201, 4, none⟩ = some (.int .i64 0) := bc_ BK201.out 4
 have hfs27 := blk_frozen BK201.out 4
 have hns27_0 := NB176_201.out
 have hns27_1 := NB177_201.out
 have hns27_2 := NB178_201.out
 have hms27_0 := NB201_176.out
 have hms27_1 := NB201_177.out
 have hms27_2 := NB201_178.out
 have hs29 : w21.cell? ⟨gb201, 5, none⟩ = some (.slice none 0 0) := bc_ BK201.out 5
 have hfs29 := blk_frozen BK201.out 5
 have hns29_0 := NB176_201.out
 have hns29_1 := NB177_201.out
 have hns29_2 := NB178_201.out
 have hms29_0 := NB201_176.out
 have hms29_1 := NB201_177.out
 have hms29_2 := NB201_178.out
 refine skip_ (w1 := ?_) (by rfl) rfl ?_ ?_
 rotate_left
 ·go_simp
  rfl
 refine hK.out _ _ ⟨((cell_far (p := ⟨gb201, _, none⟩) NB176_201.out _).trans (((cell_far (p := ⟨gb201, _, none⟩) NB176_201.out _).trans (((cell_far (p := ⟨gb201, _, none⟩) NB176_201.out _).trans (((cell_far (p := ⟨gb201, _, none⟩) NB176_201.out _).trans (((cell_far (p := ⟨gb201, _, none⟩) NB176_201.out _).trans (((cell_far (p := ⟨gb201, _, none⟩) NB176_201.out _).trans (hHeld.1)))))))))))), ((cell_far (p := ⟨gb201, _, none⟩) NB176_201.out _).trans (((cell_far (p := ⟨gb201, _, none⟩) NB176_201.out _).trans (((cell_far (p := ⟨gb201, _, none⟩) NB176_201.out _).trans (((cell_far (p := ⟨gb201, _, none⟩) NB176_201.out _).trans (((cell_far (p := ⟨gb201, _, none⟩) NB176_201.out _).trans (((cell_far (p := ⟨gb201, _, none⟩) NB176_201.out _).trans (hHeld.2.1)))))))))))), ((cell_far (p := ⟨gb201, _, none⟩) NB176_201.out _).trans (((cell_far (p := ⟨gb201, _, none⟩) NB176_201.out _).trans (((cell_far (p := ⟨gb201, _, none⟩) NB176_201.out _).trans (((cell_far (p := ⟨gb201, _, none⟩) NB176_201.out _).trans (((cell_far (p := ⟨gb201, _, none⟩) NB176_201.out _).trans (((cell_far (p := ⟨gb201, _, none⟩) NB176_201.out _).trans (hHeld.2.2.1)))))))))))), ((cell_far (p := ⟨gb201, _, none⟩) NB176_201.out _).trans (((cell_far (p := ⟨gb201, _, none⟩) NB176_201.out _).trans (((cell_far (p := ⟨gb201, _, none⟩) NB176_201.out _).trans (((cell_far (p := ⟨gb201, _, none⟩) NB176_201.out _).trans (((cell_far (p := ⟨gb201, _, none⟩) NB176_201.out _).trans (((cell_far (p := ⟨gb201, _, none⟩) NB176_201.out _).trans (hHeld.2.2.2.1)))))))))))), ((cell_far (p := ⟨gb201, _, none⟩) NB176_201.out _).trans (((cell_far (p := ⟨gb201, _, none⟩) NB176_201.out _).trans (((cell_far (p := ⟨gb201, _, none⟩) NB176_201.out _).trans (((cell_far (p := ⟨gb201, _, none⟩) NB176_201.out _).trans (((cell_far (p := ⟨gb201, _, none⟩) NB176_201.out _).trans (((cell_far (p := ⟨gb201, _, none⟩) NB176_201.out _).trans (hHeld.2.2.2.2.1)))))))))))), ((cell_far (p := ⟨gb201, _, none⟩) NB176_201.out _).trans (((cell_far (p := ⟨gb201, _, none⟩) NB176_201.out _).trans (((cell_far (p := ⟨gb201, _, none⟩) NB176_201.out _).trans (((cell_far (p := ⟨gb201, _, none⟩) NB176_201.out _).trans (((cell_far (p := ⟨gb201, _, none⟩) NB176_201.out _).trans (((cell_far (p := ⟨gb201, _, none⟩) NB176_201.out _).trans (hHeld.2.2.2.2.2.1)))))))))))), ((cell_far (p := ⟨gb201, _, none⟩) NB177_201.out _).trans (((cell_far (p := ⟨gb201, _, none⟩) NB177_201.out _).trans (((cell_far (p := ⟨gb201, _, none⟩) NB177_201.out _).trans (((cell_far (p := ⟨gb201, _, none⟩) NB177_201.out _).trans (((cell_far (p := ⟨gb201, _, none⟩) NB177_201.out _).trans (((cell_far (p := ⟨gb201, _, none⟩) NB177_201.out _).trans (hHeld.2.2.2.2.2.2.1)))))))))))), ((cell_far (p := ⟨gb201, _, none⟩) NB177_201.out _).trans (((cell_far (p := ⟨gb201, _, none⟩) NB177_201.out _).trans (((cell_far (p := ⟨gb201, _, none⟩) NB177_201.out _).trans (((cell_far (p := ⟨gb201, _, none⟩) NB177_201.out _).trans (((cell_far (p := ⟨gb201, _, none⟩) NB177_201.out _).trans (((cell_far (p := ⟨gb201, _, none⟩) NB177_201.out _).trans (hHeld.2.2.2.2.2.2.2.1)))))))))))), ((cell_far (p := ⟨gb201, _, none⟩) NB177_201.out _).trans (((cell_far (p := ⟨gb201, _, none⟩) NB177_201.out _).trans (((cell_far (p := ⟨gb201, _, none⟩) NB177_201.out _).trans (((cell_far (p := ⟨gb201, _, none⟩) NB177_201.out _).trans (((cell_far (p := ⟨gb201, _, none⟩) NB177_201.out _).trans (((cell_far (p := ⟨gb201, _, none⟩) NB177_201.out _).trans (hHeld.2.2.2.2.2.2.2.2))))))))))))⟩ (fun hHeld => ?_)
 clear hK K
 refine pu_ 9 (some 7) (h := ?_)
 refine done_ (done_of HT_.out (by kernel_rfl)) ?_
 have hnb30 := NB201_176.out
 have hnc30 := NB176_201.out
 have hnb31 := NB201_177.out
 have hnc31 := NB177_201.out
 have hnb32 := NB201_178.out
 have hnc32 := NB178_201.out
 have hcz33_0 : w21.cell? ⟨gb201, 0, none⟩ = some (.int .i64 0) := bc_ BK201.out 0
 have hcz33_1 : w21.cell? ⟨gb201, 1, none⟩ = some (.int .i64 0) := bc_ BK201.out 1
 have hcz33_2 : w21.cell? ⟨gb201, 2, none⟩ = some (.slice none 0 0) := bc_ BK201.out 2
 have hcz33_3 : w21.cell? ⟨gb201, 3, none⟩ = some (.int .i64 0) := bc_ BK201.out 3
 have hcz33_4 : w21.cell? ⟨gb201, 4, none⟩ = some (.int .i64 0) := bc_ BK201.out 4
 have hcz33_5 : w21.cell? ⟨gb201, 5, none⟩ = some (.slice none 0 0) := bc_ BK201.out 5
 have hfz33_0 := blk_frozen BK201.out 0
 have hfz33_1 := blk_frozen BK201.out 1
 have hfz33_2 := blk_frozen BK201.out 2
 have hfz33_3 := blk_frozen BK201.out 3
 have hfz33_4 := blk_frozen BK201.out 4
 have hfz33_5 := blk_frozen BK201.out 5
 have hnb34 := NB178_177.out
 have hnc34 := NB177_178.out
 have hcz35_0 : w21.cell? ⟨gb178, 0, none⟩ = some (.int .i64 0) := bc_ BK178.out 0
 have hcz35_1 : w21.cell? ⟨gb178, 1, none⟩ = some (.int .i64 0) := bc_ BK178.out 1
 have hcz35_2 : w21.cell? ⟨gb178, 2, none⟩ = some (.slice none 0 0) := bc_ BK178.out 2
 have hcz35_3 : w21.cell? ⟨gb178, 3, none⟩ = some (.int .i64 0) := bc_ BK178.out 3
 have hcz35_4 : w21.cell? ⟨gb178, 4, none⟩ = some (.int .i64 0) := bc_ BK178.out 4
 have hcz35_5 : w21.cell? ⟨gb178, 5, none⟩ = some (.slice none 0 0) := bc_ BK178.out 5
 have hfz35_0 := blk_frozen BK178.out 0
 have hfz35_1 := blk_frozen BK178.out 1
 have hfz35_2 := blk_frozen BK178.out 2
 have hfz35_3 := blk_frozen BK178.out 3
 have hfz35_4 := blk_frozen BK178.out 4
 have hfz35_5 := blk_frozen BK178.out 5
 try go_wp2
 refine bodyPost_ret (results_ct rfl _ _ gb178 24 #[.int .i64 t190, .int .i64 t191, .slice Ao24 t192.length co24, .int .i64 t195, .int .i64 t196, .slice Ao28 t197.length co28] (0, 0) _ rfl (by (with_reducible repeat (first | refine blk_drewN ?_ _ | refine blk_drew ?_ | refine blk_alloc ?_ _)); refine blk_put (cs := #[.int .i64 t190, .int .i64 t191, .slice Ao24 t192.length co24, .int .i64 t195, .int .i64 t196, .slice none 0 0]) ?_ 5 _ rfl; (with_reducible repeat (first | refine blk_drewN ?_ _ | refine blk_drew ?_ | refine blk_alloc ?_ _)); refine blk_put (cs := #[.int .i64 t190, .int .i64 t191, .slice Ao24 t192.length co24, .int .i64 t195, .int .i64 0, .slice none 0 0]) ?_ 4 _ rfl; (with_reducible repeat (first | refine blk_drewN ?_ _ | refine blk_drew ?_ | refine blk_alloc ?_ _)); refine blk_put (cs := #[.int .i64 t190, .int .i64 t191, .slice Ao24 t192.length co24, .int .i64 0, .int .i64 0, .slice none 0 0]) ?_ 3 _ rfl; (with_reducible repeat (first | refine blk_drewN ?_ _ | refine blk_drew ?_ | refine blk_alloc ?_ _)); refine blk_put (cs := #[.int .i64 t190, .int .i64 t191, .slice none 0 0, .int .i64 0, .int .i64 0, .slice none 0 0]) ?_ 2 _ rfl; (with_reducible repeat (first | refine blk_drewN ?_ _ | refine blk_drew ?_ | refine blk_alloc ?_ _)); refine blk_put (cs := #[.int .i64 t190, .int .i64 0, .slice none 0 0, .int .i64 0, .int .i64 0, .slice none 0 0]) ?_ 1 _ rfl; (with_reducible repeat (first | refine blk_drewN ?_ _ | refine blk_drew ?_ | refine blk_alloc ?_ _)); refine blk_put (cs := #[.int .i64 0, .int .i64 0, .slice none 0 0, .int .i64 0, .int .i64 0, .slice none 0 0]) ?_ 0 _ rfl; (with_reducible repeat (first | refine blk_drewN ?_ _ | refine blk_drew ?_ | refine blk_alloc ?_ _)); refine blk_far ?_ NB178_201.out _; (with_reducible repeat (first | refine blk_drewN ?_ _ | refine blk_drew ?_ | refine blk_alloc ?_ _)); refine blk_far ?_ NB178_201.out _; (with_reducible repeat (first | refine blk_drewN ?_ _ | refine blk_drew ?_ | refine blk_alloc ?_ _)); refine blk_far ?_ NB178_201.out _; (with_reducible repeat (first | refine blk_drewN ?_ _ | refine blk_drew ?_ | refine blk_alloc ?_ _)); refine blk_far ?_ NB178_201.out _; (with_reducible repeat (first | refine blk_drewN ?_ _ | refine blk_drew ?_ | refine blk_alloc ?_ _)); refine blk_far ?_ NB178_201.out _; (with_reducible repeat (first | refine blk_drewN ?_ _ | refine blk_drew ?_ | refine blk_alloc ?_ _)); refine blk_far ?_ NB178_201.out _; exact kb_ BK178.out) Try.underlying24 rfl (by kernel_rfl)) rfl ?_
 exact ⟨_, _, ng_, by exact kr_ (Kd.R_mono (Kd.R_far (p := ⟨gb178, 5, none⟩) (Kd.R_far (p := ⟨gb178, 4, none⟩) (Kd.R_far (p := ⟨gb178, 3, none⟩) (Kd.R_far (p := ⟨gb178, 2, none⟩) (Kd.R_far (p := ⟨gb178, 1, none⟩) (Kd.R_far (p := ⟨gb178, 0, none⟩) (Kd.R_far (p := ⟨gb201, 5, none⟩) (Kd.R_far (p := ⟨gb201, 4, none⟩) (Kd.R_far (p := ⟨gb201, 3, none⟩) (Kd.R_far (p := ⟨gb201, 2, none⟩) (Kd.R_far (p := ⟨gb201, 1, none⟩) (Kd.R_far (p := ⟨gb201, 0, none⟩) (Kd.R_types (Kd.R_types HO194.out BK201.out (by decide)) BK178.out (by decide)) (fun _ hk => hk.1.2) (.int .i64 t190)) (fun _ hk => hk.1.2) (.int .i64 t191)) (fun _ hk => hk.1.2) (.slice Ao24 t192.length co24)) (fun _ hk => hk.1.2) (.int .i64 t195)) (fun _ hk => hk.1.2) (.int .i64 t196)) (fun _ hk => hk.1.2) (.slice Ao28 t197.length co28)) (fun _ hk => hk.2) (.int .i64 t190)) (fun _ hk => hk.2) (.int .i64 t191)) (fun _ hk => hk.2) (.slice Ao24 t192.length co24)) (fun _ hk => hk.2) (.int .i64 t195)) (fun _ hk => hk.2) (.int .i64 t196)) (fun _ hk => hk.2) (.slice Ao28 t197.length co28)) (fun _ hk => hk.1.1)), by exact kr_ (Kd.R_mono (Kd.R_far (p := ⟨gb178, 5, none⟩) (Kd.R_far (p := ⟨gb178, 4, none⟩) (Kd.R_far (p := ⟨gb178, 3, none⟩) (Kd.R_far (p := ⟨gb178, 2, none⟩) (Kd.R_far (p := ⟨gb178, 1, none⟩) (Kd.R_far (p := ⟨gb178, 0, none⟩) (Kd.R_far (p := ⟨gb201, 5, none⟩) (Kd.R_far (p := ⟨gb201, 4, none⟩) (Kd.R_far (p := ⟨gb201, 3, none⟩) (Kd.R_far (p := ⟨gb201, 2, none⟩) (Kd.R_far (p := ⟨gb201, 1, none⟩) (Kd.R_far (p := ⟨gb201, 0, none⟩) (Kd.R_types (Kd.R_types HO199.out BK201.out (by decide)) BK178.out (by decide)) (fun _ hk => hk.1.2) (.int .i64 t190)) (fun _ hk => hk.1.2) (.int .i64 t191)) (fun _ hk => hk.1.2) (.slice Ao24 t192.length co24)) (fun _ hk => hk.1.2) (.int .i64 t195)) (fun _ hk => hk.1.2) (.int .i64 t196)) (fun _ hk => hk.1.2) (.slice Ao28 t197.length co28)) (fun _ hk => hk.2) (.int .i64 t190)) (fun _ hk => hk.2) (.int .i64 t191)) (fun _ hk => hk.2) (.slice Ao24 t192.length co24)) (fun _ hk => hk.2) (.int .i64 t195)) (fun _ hk => hk.2) (.int .i64 t196)) (fun _ hk => hk.2) (.slice Ao28 t197.length co28)) (fun _ hk => hk.1.1)), bl_⟩

end Go.Proofs.Ytbnadnfggpnbgaa.PSL
