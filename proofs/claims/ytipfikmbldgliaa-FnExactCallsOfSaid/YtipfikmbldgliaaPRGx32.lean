/- What this text proves: the machine calls of these functions return what the plain functions say. Conditions: as each theorem says. Printed by a program of this session out of the translation. -/
import Derived.Test.YtipfikmbldgliaaPRGx0
import Derived.Test.YtipfikmbldgliaaPRGx27
namespace Go.Proofs.Ytipfikmbldgliaa.PRG
open Go.RowKit Go.Proofs.YtipfikmbldgliaaW.PrintWords Go.Proofs.YtipfikmbldgliaaW.PrintLast Go.Proofs.YtipfikmbldgliaaW.PrintMore
attribute [local go_sem] max2_int min2_int max_two min_two max_three min_three max_four min_four   -- for this text's walks alone
set_option linter.unusedVariables false
set_option linter.unusedSimpArgs false

/-! ### laws_eqCall: function 62 -/
def laws_eqCall.f (a0_0 : Int) (a0_1 : Bool) (a0_2 : ByteArray) (a0_3 : ByteArray) (a0_4 : Int) (a0_5 : Int) (a1_0 : Int) (a1_1 : Bool) (a1_2 : ByteArray) (a1_3 : ByteArray) (a1_4 : Int) (a1_5 : Int) : Option (Bool) := if a0_0 = a1_0 then (if (a0_1 != a1_1) = true then (some false) else (if a0_2.toList = a1_2.toList then (if a0_3.toList = a1_3.toList then (if a0_4 = a1_4 then (if a0_5 = a1_5 then (some true) else (some false)) else (some false)) else (some false)) else (some false))) else (some false)
set_option maxHeartbeats 8000000 in
set_option maxRecDepth 100000 in
theorem laws_eqCall.calls (a0_0 : Int) (a0_1 : Bool) (a0_2 : ByteArray) (a0_3 : ByteArray) (a0_4 : Int) (a0_5 : Int) (a1_0 : Int) (a1_1 : Bool) (a1_2 : ByteArray) (a1_3 : ByteArray) (a1_4 : Int) (a1_5 : Int) (r : Bool) (w : World) (h : laws_eqCall.f a0_0 a0_1 a0_2 a0_3 a0_4 a0_5 a1_0 a1_1 a1_2 a1_3 a1_4 a1_5 = some r) :
  Calls Try.prog 62 #[.agg #[.int .i64 a0_0, .bool a0_1, .string a0_2, .string a0_3, .int .i64 a0_4, .int .i64 a0_5], .agg #[.int .i64 a1_0, .bool a1_1, .string a1_2, .string a1_3, .int .i64 a1_4, .int .i64 a1_5]] w fun e w' => e = .returned (.bool r) ∧ Below w.heap.size w w' := by
 have hu88 := Try.underlying88
 have HB := Aside0.mk (Below.refl w.heap.size w)
 have H : (if a0_0 = a1_0 then (if (a0_1 != a1_1) = true then (some false) else (if a0_2.toList = a1_2.toList then (if a0_3.toList = a1_3.toList then (if a0_4 = a1_4 then (if a0_5 = a1_5 then (some true) else (some false)) else (some false)) else (some false)) else (some false))) else (some false)) = some r := h
 clear h
 by_cases c3 : a0_0 = a1_0
 rotate_left
 ·rw [if_neg c3] at H
  have c3b0 : (a0_0 == a1_0) = false := beq_eq_false_iff_ne.mpr c3
  have c3b1 : (a0_0 != a1_0) = true := bne_iff_ne.mpr c3
  obtain rfl := Option.some.inj H
  go_enter Try.func62, Try.ntmps62
  go_wp2_with (first | ((with_reducible refine gate_dst (N := 2) rfl ?_); refine box_event rfl (N := 2) rfl (cs := #[.int .i64 a0_0, .bool a0_1, .string a0_2, .string a0_3, .int .i64 a0_4, .int .i64 a0_5]) (t := 88) gs_ ?_; intro gb367 hg w39 hbox hb; have BK367 := Aside0.mk (hbox); have GW367 := Aside0.mk ((by rw [hg]; exact bz_ : w.heap.size ≤ gb367)); have GE367 := GW367; replace HB := Aside0.mk (below_step bl_ hb); clear hb hbox hg) | ((with_reducible refine gate_dst (N := 3) rfl ?_); refine box_event rfl (N := 3) rfl (cs := #[.int .i64 a1_0, .bool a1_1, .string a1_2, .string a1_3, .int .i64 a1_4, .int .i64 a1_5]) (t := 88) gs_ ?_; intro gb368 hg w40 hbox hb; have BK368 := Aside0.mk (hbox); have GW368 := Aside0.mk ((by rw [hg]; exact bz_ : w.heap.size ≤ gb368)); have GE368 := GW368; replace HB := Aside0.mk (below_step bl_ hb); have NB367_368 := nl_ hg BK367; have NB368_367 := nm_ hg BK367; replace BK367 := bb_ BK367 hb; clear hb hbox hg; have hnb41 := NB367_368.out; have hnc41 := NB368_367.out; have hcz42_0 : w40.cell? ⟨gb367, 0, none⟩ = some (.int .i64 a0_0) := bc_ BK367.out 0; have hcz42_1 : w40.cell? ⟨gb367, 1, none⟩ = some (.bool a0_1) := bc_ BK367.out 1; have hcz42_2 : w40.cell? ⟨gb367, 2, none⟩ = some (.string a0_2) := bc_ BK367.out 2; have hcz42_3 : w40.cell? ⟨gb367, 3, none⟩ = some (.string a0_3) := bc_ BK367.out 3; have hcz42_4 : w40.cell? ⟨gb367, 4, none⟩ = some (.int .i64 a0_4) := bc_ BK367.out 4; have hcz42_5 : w40.cell? ⟨gb367, 5, none⟩ = some (.int .i64 a0_5) := bc_ BK367.out 5; have hfz42_0 := blk_frozen BK367.out 0; have hfz42_1 := blk_frozen BK367.out 1; have hfz42_2 := blk_frozen BK367.out 2; have hfz42_3 := blk_frozen BK367.out 3; have hfz42_4 := blk_frozen BK367.out 4; have hfz42_5 := blk_frozen BK367.out 5; have hcz43_0 : w40.cell? ⟨gb368, 0, none⟩ = some (.int .i64 a1_0) := bc_ BK368.out 0; have hcz43_1 : w40.cell? ⟨gb368, 1, none⟩ = some (.bool a1_1) := bc_ BK368.out 1; have hcz43_2 : w40.cell? ⟨gb368, 2, none⟩ = some (.string a1_2) := bc_ BK368.out 2; have hcz43_3 : w40.cell? ⟨gb368, 3, none⟩ = some (.string a1_3) := bc_ BK368.out 3; have hcz43_4 : w40.cell? ⟨gb368, 4, none⟩ = some (.int .i64 a1_4) := bc_ BK368.out 4; have hcz43_5 : w40.cell? ⟨gb368, 5, none⟩ = some (.int .i64 a1_5) := bc_ BK368.out 5; have hfz43_0 := blk_frozen BK368.out 0; have hfz43_1 := blk_frozen BK368.out 1; have hfz43_2 := blk_frozen BK368.out 2; have hfz43_3 := blk_frozen BK368.out 3; have hfz43_4 := blk_frozen BK368.out 4; have hfz43_5 := blk_frozen BK368.out 5))
  go_ret
  exact ⟨ng_, bl_⟩
 rw [if_pos c3] at H
 have c3b0 : (a0_0 == a1_0) = true := beq_iff_eq.mpr c3
 have c3b1 : (a0_0 != a1_0) = false := bne_eq_false_iff_eq.mpr c3
 clear c3
 by_cases c4 : (a0_1 != a1_1) = true
 ·rw [if_pos c4] at H
  have c4b0 : (a0_1 != a1_1) = true := c4
  (try (have c4b1 : decide (a0_1 = a1_1) = false := by simpa using c4))
  (try (have c4b2 : (a0_1 == a1_1) = false := by simpa using c4))
  (try (have c4b3 : ¬ (a0_1 = a1_1) := by simpa using c4))
  clear c4
  obtain rfl := Option.some.inj H
  go_enter Try.func62, Try.ntmps62
  go_wp2_with (first | ((with_reducible refine gate_dst (N := 2) rfl ?_); refine box_event rfl (N := 2) rfl (cs := #[.int .i64 a0_0, .bool a0_1, .string a0_2, .string a0_3, .int .i64 a0_4, .int .i64 a0_5]) (t := 88) gs_ ?_; intro gb367 hg w5 hbox hb; have BK367 := Aside0.mk (hbox); have GW367 := Aside0.mk ((by rw [hg]; exact bz_ : w.heap.size ≤ gb367)); have GE367 := GW367; replace HB := Aside0.mk (below_step bl_ hb); clear hb hbox hg) | ((with_reducible refine gate_dst (N := 3) rfl ?_); refine box_event rfl (N := 3) rfl (cs := #[.int .i64 a1_0, .bool a1_1, .string a1_2, .string a1_3, .int .i64 a1_4, .int .i64 a1_5]) (t := 88) gs_ ?_; intro gb368 hg w6 hbox hb; have BK368 := Aside0.mk (hbox); have GW368 := Aside0.mk ((by rw [hg]; exact bz_ : w.heap.size ≤ gb368)); have GE368 := GW368; replace HB := Aside0.mk (below_step bl_ hb); have NB367_368 := nl_ hg BK367; have NB368_367 := nm_ hg BK367; replace BK367 := bb_ BK367 hb; clear hb hbox hg; have hnb7 := NB367_368.out; have hnc7 := NB368_367.out; have hcz8_0 : w6.cell? ⟨gb367, 0, none⟩ = some (.int .i64 a0_0) := bc_ BK367.out 0; have hcz8_1 : w6.cell? ⟨gb367, 1, none⟩ = some (.bool a0_1) := bc_ BK367.out 1; have hcz8_2 : w6.cell? ⟨gb367, 2, none⟩ = some (.string a0_2) := bc_ BK367.out 2; have hcz8_3 : w6.cell? ⟨gb367, 3, none⟩ = some (.string a0_3) := bc_ BK367.out 3; have hcz8_4 : w6.cell? ⟨gb367, 4, none⟩ = some (.int .i64 a0_4) := bc_ BK367.out 4; have hcz8_5 : w6.cell? ⟨gb367, 5, none⟩ = some (.int .i64 a0_5) := bc_ BK367.out 5; have hfz8_0 := blk_frozen BK367.out 0; have hfz8_1 := blk_frozen BK367.out 1; have hfz8_2 := blk_frozen BK367.out 2; have hfz8_3 := blk_frozen BK367.out 3; have hfz8_4 := blk_frozen BK367.out 4; have hfz8_5 := blk_frozen BK367.out 5; have hcz9_0 : w6.cell? ⟨gb368, 0, none⟩ = some (.int .i64 a1_0) := bc_ BK368.out 0; have hcz9_1 : w6.cell? ⟨gb368, 1, none⟩ = some (.bool a1_1) := bc_ BK368.out 1; have hcz9_2 : w6.cell? ⟨gb368, 2, none⟩ = some (.string a1_2) := bc_ BK368.out 2; have hcz9_3 : w6.cell? ⟨gb368, 3, none⟩ = some (.string a1_3) := bc_ BK368.out 3; have hcz9_4 : w6.cell? ⟨gb368, 4, none⟩ = some (.int .i64 a1_4) := bc_ BK368.out 4; have hcz9_5 : w6.cell? ⟨gb368, 5, none⟩ = some (.int .i64 a1_5) := bc_ BK368.out 5; have hfz9_0 := blk_frozen BK368.out 0; have hfz9_1 := blk_frozen BK368.out 1; have hfz9_2 := blk_frozen BK368.out 2; have hfz9_3 := blk_frozen BK368.out 3; have hfz9_4 := blk_frozen BK368.out 4; have hfz9_5 := blk_frozen BK368.out 5))
  go_ret
  exact ⟨ng_, bl_⟩
 rw [if_neg c4] at H
 have c4b0 : (a0_1 != a1_1) = false := by simpa using c4
 (try (have c4b1 : decide (a0_1 = a1_1) = true := by simpa using c4))
 (try (have c4b2 : (a0_1 == a1_1) = true := by simpa using c4))
 clear c4
 by_cases c10 : a0_2.toList = a1_2.toList
 rotate_left
 ·rw [if_neg c10] at H
  have c10b0 : (a0_2.toList == a1_2.toList) = false := beq_eq_false_iff_ne.mpr c10
  have c10b1 : (a0_2.toList != a1_2.toList) = true := bne_iff_ne.mpr c10
  obtain rfl := Option.some.inj H
  go_enter Try.func62, Try.ntmps62
  go_wp2_with (first | ((with_reducible refine gate_dst (N := 2) rfl ?_); refine box_event rfl (N := 2) rfl (cs := #[.int .i64 a0_0, .bool a0_1, .string a0_2, .string a0_3, .int .i64 a0_4, .int .i64 a0_5]) (t := 88) gs_ ?_; intro gb367 hg w34 hbox hb; have BK367 := Aside0.mk (hbox); have GW367 := Aside0.mk ((by rw [hg]; exact bz_ : w.heap.size ≤ gb367)); have GE367 := GW367; replace HB := Aside0.mk (below_step bl_ hb); clear hb hbox hg) | ((with_reducible refine gate_dst (N := 3) rfl ?_); refine box_event rfl (N := 3) rfl (cs := #[.int .i64 a1_0, .bool a1_1, .string a1_2, .string a1_3, .int .i64 a1_4, .int .i64 a1_5]) (t := 88) gs_ ?_; intro gb368 hg w35 hbox hb; have BK368 := Aside0.mk (hbox); have GW368 := Aside0.mk ((by rw [hg]; exact bz_ : w.heap.size ≤ gb368)); have GE368 := GW368; replace HB := Aside0.mk (below_step bl_ hb); have NB367_368 := nl_ hg BK367; have NB368_367 := nm_ hg BK367; replace BK367 := bb_ BK367 hb; clear hb hbox hg; have hnb36 := NB367_368.out; have hnc36 := NB368_367.out; have hcz37_0 : w35.cell? ⟨gb367, 0, none⟩ = some (.int .i64 a0_0) := bc_ BK367.out 0; have hcz37_1 : w35.cell? ⟨gb367, 1, none⟩ = some (.bool a0_1) := bc_ BK367.out 1; have hcz37_2 : w35.cell? ⟨gb367, 2, none⟩ = some (.string a0_2) := bc_ BK367.out 2; have hcz37_3 : w35.cell? ⟨gb367, 3, none⟩ = some (.string a0_3) := bc_ BK367.out 3; have hcz37_4 : w35.cell? ⟨gb367, 4, none⟩ = some (.int .i64 a0_4) := bc_ BK367.out 4; have hcz37_5 : w35.cell? ⟨gb367, 5, none⟩ = some (.int .i64 a0_5) := bc_ BK367.out 5; have hfz37_0 := blk_frozen BK367.out 0; have hfz37_1 := blk_frozen BK367.out 1; have hfz37_2 := blk_frozen BK367.out 2; have hfz37_3 := blk_frozen BK367.out 3; have hfz37_4 := blk_frozen BK367.out 4; have hfz37_5 := blk_frozen BK367.out 5; have hcz38_0 : w35.cell? ⟨gb368, 0, none⟩ = some (.int .i64 a1_0) := bc_ BK368.out 0; have hcz38_1 : w35.cell? ⟨gb368, 1, none⟩ = some (.bool a1_1) := bc_ BK368.out 1; have hcz38_2 : w35.cell? ⟨gb368, 2, none⟩ = some (.string a1_2) := bc_ BK368.out 2; have hcz38_3 : w35.cell? ⟨gb368, 3, none⟩ = some (.string a1_3) := bc_ BK368.out 3; have hcz38_4 : w35.cell? ⟨gb368, 4, none⟩ = some (.int .i64 a1_4) := bc_ BK368.out 4; have hcz38_5 : w35.cell? ⟨gb368, 5, none⟩ = some (.int .i64 a1_5) := bc_ BK368.out 5; have hfz38_0 := blk_frozen BK368.out 0; have hfz38_1 := blk_frozen BK368.out 1; have hfz38_2 := blk_frozen BK368.out 2; have hfz38_3 := blk_frozen BK368.out 3; have hfz38_4 := blk_frozen BK368.out 4; have hfz38_5 := blk_frozen BK368.out 5))
  go_ret
  exact ⟨ng_, bl_⟩
 rw [if_pos c10] at H
 have c10b0 : (a0_2.toList == a1_2.toList) = true := beq_iff_eq.mpr c10
 have c10b1 : (a0_2.toList != a1_2.toList) = false := bne_eq_false_iff_eq.mpr c10
 clear c10
 by_cases c11 : a0_3.toList = a1_3.toList
 rotate_left
 ·rw [if_neg c11] at H
  have c11b0 : (a0_3.toList == a1_3.toList) = false := beq_eq_false_iff_ne.mpr c11
  have c11b1 : (a0_3.toList != a1_3.toList) = true := bne_iff_ne.mpr c11
  obtain rfl := Option.some.inj H
  go_enter Try.func62, Try.ntmps62
  go_wp2_with (first | ((with_reducible refine gate_dst (N := 2) rfl ?_); refine box_event rfl (N := 2) rfl (cs := #[.int .i64 a0_0, .bool a0_1, .string a0_2, .string a0_3, .int .i64 a0_4, .int .i64 a0_5]) (t := 88) gs_ ?_; intro gb367 hg w29 hbox hb; have BK367 := Aside0.mk (hbox); have GW367 := Aside0.mk ((by rw [hg]; exact bz_ : w.heap.size ≤ gb367)); have GE367 := GW367; replace HB := Aside0.mk (below_step bl_ hb); clear hb hbox hg) | ((with_reducible refine gate_dst (N := 3) rfl ?_); refine box_event rfl (N := 3) rfl (cs := #[.int .i64 a1_0, .bool a1_1, .string a1_2, .string a1_3, .int .i64 a1_4, .int .i64 a1_5]) (t := 88) gs_ ?_; intro gb368 hg w30 hbox hb; have BK368 := Aside0.mk (hbox); have GW368 := Aside0.mk ((by rw [hg]; exact bz_ : w.heap.size ≤ gb368)); have GE368 := GW368; replace HB := Aside0.mk (below_step bl_ hb); have NB367_368 := nl_ hg BK367; have NB368_367 := nm_ hg BK367; replace BK367 := bb_ BK367 hb; clear hb hbox hg; have hnb31 := NB367_368.out; have hnc31 := NB368_367.out; have hcz32_0 : w30.cell? ⟨gb367, 0, none⟩ = some (.int .i64 a0_0) := bc_ BK367.out 0; have hcz32_1 : w30.cell? ⟨gb367, 1, none⟩ = some (.bool a0_1) := bc_ BK367.out 1; have hcz32_2 : w30.cell? ⟨gb367, 2, none⟩ = some (.string a0_2) := bc_ BK367.out 2; have hcz32_3 : w30.cell? ⟨gb367, 3, none⟩ = some (.string a0_3) := bc_ BK367.out 3; have hcz32_4 : w30.cell? ⟨gb367, 4, none⟩ = some (.int .i64 a0_4) := bc_ BK367.out 4; have hcz32_5 : w30.cell? ⟨gb367, 5, none⟩ = some (.int .i64 a0_5) := bc_ BK367.out 5; have hfz32_0 := blk_frozen BK367.out 0; have hfz32_1 := blk_frozen BK367.out 1; have hfz32_2 := blk_frozen BK367.out 2; have hfz32_3 := blk_frozen BK367.out 3; have hfz32_4 := blk_frozen BK367.out 4; have hfz32_5 := blk_frozen BK367.out 5; have hcz33_0 : w30.cell? ⟨gb368, 0, none⟩ = some (.int .i64 a1_0) := bc_ BK368.out 0; have hcz33_1 : w30.cell? ⟨gb368, 1, none⟩ = some (.bool a1_1) := bc_ BK368.out 1; have hcz33_2 : w30.cell? ⟨gb368, 2, none⟩ = some (.string a1_2) := bc_ BK368.out 2; have hcz33_3 : w30.cell? ⟨gb368, 3, none⟩ = some (.string a1_3) := bc_ BK368.out 3; have hcz33_4 : w30.cell? ⟨gb368, 4, none⟩ = some (.int .i64 a1_4) := bc_ BK368.out 4; have hcz33_5 : w30.cell? ⟨gb368, 5, none⟩ = some (.int .i64 a1_5) := bc_ BK368.out 5; have hfz33_0 := blk_frozen BK368.out 0; have hfz33_1 := blk_frozen BK368.out 1; have hfz33_2 := blk_frozen BK368.out 2; have hfz33_3 := blk_frozen BK368.out 3; have hfz33_4 := blk_frozen BK368.out 4; have hfz33_5 := blk_frozen BK368.out 5))
  go_ret
  exact ⟨ng_, bl_⟩
 rw [if_pos c11] at H
 have c11b0 : (a0_3.toList == a1_3.toList) = true := beq_iff_eq.mpr c11
 have c11b1 : (a0_3.toList != a1_3.toList) = false := bne_eq_false_iff_eq.mpr c11
 clear c11
 by_cases c12 : a0_4 = a1_4
 rotate_left
 ·rw [if_neg c12] at H
  have c12b0 : (a0_4 == a1_4) = false := beq_eq_false_iff_ne.mpr c12
  have c12b1 : (a0_4 != a1_4) = true := bne_iff_ne.mpr c12
  obtain rfl := Option.some.inj H
  go_enter Try.func62, Try.ntmps62
  go_wp2_with (first | ((with_reducible refine gate_dst (N := 2) rfl ?_); refine box_event rfl (N := 2) rfl (cs := #[.int .i64 a0_0, .bool a0_1, .string a0_2, .string a0_3, .int .i64 a0_4, .int .i64 a0_5]) (t := 88) gs_ ?_; intro gb367 hg w24 hbox hb; have BK367 := Aside0.mk (hbox); have GW367 := Aside0.mk ((by rw [hg]; exact bz_ : w.heap.size ≤ gb367)); have GE367 := GW367; replace HB := Aside0.mk (below_step bl_ hb); clear hb hbox hg) | ((with_reducible refine gate_dst (N := 3) rfl ?_); refine box_event rfl (N := 3) rfl (cs := #[.int .i64 a1_0, .bool a1_1, .string a1_2, .string a1_3, .int .i64 a1_4, .int .i64 a1_5]) (t := 88) gs_ ?_; intro gb368 hg w25 hbox hb; have BK368 := Aside0.mk (hbox); have GW368 := Aside0.mk ((by rw [hg]; exact bz_ : w.heap.size ≤ gb368)); have GE368 := GW368; replace HB := Aside0.mk (below_step bl_ hb); have NB367_368 := nl_ hg BK367; have NB368_367 := nm_ hg BK367; replace BK367 := bb_ BK367 hb; clear hb hbox hg; have hnb26 := NB367_368.out; have hnc26 := NB368_367.out; have hcz27_0 : w25.cell? ⟨gb367, 0, none⟩ = some (.int .i64 a0_0) := bc_ BK367.out 0; have hcz27_1 : w25.cell? ⟨gb367, 1, none⟩ = some (.bool a0_1) := bc_ BK367.out 1; have hcz27_2 : w25.cell? ⟨gb367, 2, none⟩ = some (.string a0_2) := bc_ BK367.out 2; have hcz27_3 : w25.cell? ⟨gb367, 3, none⟩ = some (.string a0_3) := bc_ BK367.out 3; have hcz27_4 : w25.cell? ⟨gb367, 4, none⟩ = some (.int .i64 a0_4) := bc_ BK367.out 4; have hcz27_5 : w25.cell? ⟨gb367, 5, none⟩ = some (.int .i64 a0_5) := bc_ BK367.out 5; have hfz27_0 := blk_frozen BK367.out 0; have hfz27_1 := blk_frozen BK367.out 1; have hfz27_2 := blk_frozen BK367.out 2; have hfz27_3 := blk_frozen BK367.out 3; have hfz27_4 := blk_frozen BK367.out 4; have hfz27_5 := blk_frozen BK367.out 5; have hcz28_0 : w25.cell? ⟨gb368, 0, none⟩ = some (.int .i64 a1_0) := bc_ BK368.out 0; have hcz28_1 : w25.cell? ⟨gb368, 1, none⟩ = some (.bool a1_1) := bc_ BK368.out 1; have hcz28_2 : w25.cell? ⟨gb368, 2, none⟩ = some (.string a1_2) := bc_ BK368.out 2; have hcz28_3 : w25.cell? ⟨gb368, 3, none⟩ = some (.string a1_3) := bc_ BK368.out 3; have hcz28_4 : w25.cell? ⟨gb368, 4, none⟩ = some (.int .i64 a1_4) := bc_ BK368.out 4; have hcz28_5 : w25.cell? ⟨gb368, 5, none⟩ = some (.int .i64 a1_5) := bc_ BK368.out 5; have hfz28_0 := blk_frozen BK368.out 0; have hfz28_1 := blk_frozen BK368.out 1; have hfz28_2 := blk_frozen BK368.out 2; have hfz28_3 := blk_frozen BK368.out 3; have hfz28_4 := blk_frozen BK368.out 4; have hfz28_5 := blk_frozen BK368.out 5))
  go_ret
  exact ⟨ng_, bl_⟩
 rw [if_pos c12] at H
 have c12b0 : (a0_4 == a1_4) = true := beq_iff_eq.mpr c12
 have c12b1 : (a0_4 != a1_4) = false := bne_eq_false_iff_eq.mpr c12
 clear c12
 by_cases c13 : a0_5 = a1_5
 rotate_left
 ·rw [if_neg c13] at H
  have c13b0 : (a0_5 == a1_5) = false := beq_eq_false_iff_ne.mpr c13
  have c13b1 : (a0_5 != a1_5) = true := bne_iff_ne.mpr c13
  obtain rfl := Option.some.inj H
  go_enter Try.func62, Try.ntmps62
  go_wp2_with (first | ((with_reducible refine gate_dst (N := 2) rfl ?_); refine box_event rfl (N := 2) rfl (cs := #[.int .i64 a0_0, .bool a0_1, .string a0_2, .string a0_3, .int .i64 a0_4, .int .i64 a0_5]) (t := 88) gs_ ?_; intro gb367 hg w19 hbox hb; have BK367 := Aside0.mk (hbox); have GW367 := Aside0.mk ((by rw [hg]; exact bz_ : w.heap.size ≤ gb367)); have GE367 := GW367; replace HB := Aside0.mk (below_step bl_ hb); clear hb hbox hg) | ((with_reducible refine gate_dst (N := 3) rfl ?_); refine box_event rfl (N := 3) rfl (cs := #[.int .i64 a1_0, .bool a1_1, .string a1_2, .string a1_3, .int .i64 a1_4, .int .i64 a1_5]) (t := 88) gs_ ?_; intro gb368 hg w20 hbox hb; have BK368 := Aside0.mk (hbox); have GW368 := Aside0.mk ((by rw [hg]; exact bz_ : w.heap.size ≤ gb368)); have GE368 := GW368; replace HB := Aside0.mk (below_step bl_ hb); have NB367_368 := nl_ hg BK367; have NB368_367 := nm_ hg BK367; replace BK367 := bb_ BK367 hb; clear hb hbox hg; have hnb21 := NB367_368.out; have hnc21 := NB368_367.out; have hcz22_0 : w20.cell? ⟨gb367, 0, none⟩ = some (.int .i64 a0_0) := bc_ BK367.out 0; have hcz22_1 : w20.cell? ⟨gb367, 1, none⟩ = some (.bool a0_1) := bc_ BK367.out 1; have hcz22_2 : w20.cell? ⟨gb367, 2, none⟩ = some (.string a0_2) := bc_ BK367.out 2; have hcz22_3 : w20.cell? ⟨gb367, 3, none⟩ = some (.string a0_3) := bc_ BK367.out 3; have hcz22_4 : w20.cell? ⟨gb367, 4, none⟩ = some (.int .i64 a0_4) := bc_ BK367.out 4; have hcz22_5 : w20.cell? ⟨gb367, 5, none⟩ = some (.int .i64 a0_5) := bc_ BK367.out 5; have hfz22_0 := blk_frozen BK367.out 0; have hfz22_1 := blk_frozen BK367.out 1; have hfz22_2 := blk_frozen BK367.out 2; have hfz22_3 := blk_frozen BK367.out 3; have hfz22_4 := blk_frozen BK367.out 4; have hfz22_5 := blk_frozen BK367.out 5; have hcz23_0 : w20.cell? ⟨gb368, 0, none⟩ = some (.int .i64 a1_0) := bc_ BK368.out 0; have hcz23_1 : w20.cell? ⟨gb368, 1, none⟩ = some (.bool a1_1) := bc_ BK368.out 1; have hcz23_2 : w20.cell? ⟨gb368, 2, none⟩ = some (.string a1_2) := bc_ BK368.out 2; have hcz23_3 : w20.cell? ⟨gb368, 3, none⟩ = some (.string a1_3) := bc_ BK368.out 3; have hcz23_4 : w20.cell? ⟨gb368, 4, none⟩ = some (.int .i64 a1_4) := bc_ BK368.out 4; have hcz23_5 : w20.cell? ⟨gb368, 5, none⟩ = some (.int .i64 a1_5) := bc_ BK368.out 5; have hfz23_0 := blk_frozen BK368.out 0; have hfz23_1 := blk_frozen BK368.out 1; have hfz23_2 := blk_frozen BK368.out 2; have hfz23_3 := blk_frozen BK368.out 3; have hfz23_4 := blk_frozen BK368.out 4; have hfz23_5 := blk_frozen BK368.out 5))
  go_ret
  exact ⟨ng_, bl_⟩
 rw [if_pos c13] at H
 have c13b0 : (a0_5 == a1_5) = true := beq_iff_eq.mpr c13
 have c13b1 : (a0_5 != a1_5) = false := bne_eq_false_iff_eq.mpr c13
 clear c13
 obtain rfl := Option.some.inj H
 go_enter Try.func62, Try.ntmps62
 go_wp2_with (first | ((with_reducible refine gate_dst (N := 2) rfl ?_); refine box_event rfl (N := 2) rfl (cs := #[.int .i64 a0_0, .bool a0_1, .string a0_2, .string a0_3, .int .i64 a0_4, .int .i64 a0_5]) (t := 88) gs_ ?_; intro gb367 hg w14 hbox hb; have BK367 := Aside0.mk (hbox); have GW367 := Aside0.mk ((by rw [hg]; exact bz_ : w.heap.size ≤ gb367)); have GE367 := GW367; replace HB := Aside0.mk (below_step bl_ hb); clear hb hbox hg) | ((with_reducible refine gate_dst (N := 3) rfl ?_); refine box_event rfl (N := 3) rfl (cs := #[.int .i64 a1_0, .bool a1_1, .string a1_2, .string a1_3, .int .i64 a1_4, .int .i64 a1_5]) (t := 88) gs_ ?_; intro gb368 hg w15 hbox hb; have BK368 := Aside0.mk (hbox); have GW368 := Aside0.mk ((by rw [hg]; exact bz_ : w.heap.size ≤ gb368)); have GE368 := GW368; replace HB := Aside0.mk (below_step bl_ hb); have NB367_368 := nl_ hg BK367; have NB368_367 := nm_ hg BK367; replace BK367 := bb_ BK367 hb; clear hb hbox hg; have hnb16 := NB367_368.out; have hnc16 := NB368_367.out; have hcz17_0 : w15.cell? ⟨gb367, 0, none⟩ = some (.int .i64 a0_0) := bc_ BK367.out 0; have hcz17_1 : w15.cell? ⟨gb367, 1, none⟩ = some (.bool a0_1) := bc_ BK367.out 1; have hcz17_2 : w15.cell? ⟨gb367, 2, none⟩ = some (.string a0_2) := bc_ BK367.out 2; have hcz17_3 : w15.cell? ⟨gb367, 3, none⟩ = some (.string a0_3) := bc_ BK367.out 3; have hcz17_4 : w15.cell? ⟨gb367, 4, none⟩ = some (.int .i64 a0_4) := bc_ BK367.out 4; have hcz17_5 : w15.cell? ⟨gb367, 5, none⟩ = some (.int .i64 a0_5) := bc_ BK367.out 5; have hfz17_0 := blk_frozen BK367.out 0; have hfz17_1 := blk_frozen BK367.out 1; have hfz17_2 := blk_frozen BK367.out 2; have hfz17_3 := blk_frozen BK367.out 3; have hfz17_4 := blk_frozen BK367.out 4; have hfz17_5 := blk_frozen BK367.out 5; have hcz18_0 : w15.cell? ⟨gb368, 0, none⟩ = some (.int .i64 a1_0) := bc_ BK368.out 0; have hcz18_1 : w15.cell? ⟨gb368, 1, none⟩ = some (.bool a1_1) := bc_ BK368.out 1; have hcz18_2 : w15.cell? ⟨gb368, 2, none⟩ = some (.string a1_2) := bc_ BK368.out 2; have hcz18_3 : w15.cell? ⟨gb368, 3, none⟩ = some (.string a1_3) := bc_ BK368.out 3; have hcz18_4 : w15.cell? ⟨gb368, 4, none⟩ = some (.int .i64 a1_4) := bc_ BK368.out 4; have hcz18_5 : w15.cell? ⟨gb368, 5, none⟩ = some (.int .i64 a1_5) := bc_ BK368.out 5; have hfz18_0 := blk_frozen BK368.out 0; have hfz18_1 := blk_frozen BK368.out 1; have hfz18_2 := blk_frozen BK368.out 2; have hfz18_3 := blk_frozen BK368.out 3; have hfz18_4 := blk_frozen BK368.out 4; have hfz18_5 := blk_frozen BK368.out 5))
 go_ret
 exact ⟨ng_, bl_⟩

/-! ### laws_eqCallS: function 25 -/
def laws_eqCallS.l0 : Nat → List (S88) → List (S88) → Int → Option (Bool)
 | 0, _, _, _ => none
 | k + 1, x0, x1, x5 => if x5 < (x0.length : Int) then (if 0 ≤ x5 then (if x5 < (x1.length : Int) then ((laws_eqCall.f ((rd_T88 x0 x5).f0) ((rd_T88 x0 x5).f1) ((rd_T88 x0 x5).f2) ((rd_T88 x0 x5).f3) ((rd_T88 x0 x5).f4) ((rd_T88 x0 x5).f5) ((rd_T88 x1 x5).f0) ((rd_T88 x1 x5).f1) ((rd_T88 x1 x5).f2) ((rd_T88 x1 x5).f3) ((rd_T88 x1 x5).f4) ((rd_T88 x1 x5).f5)).bind fun t371 => (if t371 = true then (laws_eqCallS.l0 k x0 x1 (wrap64 (x5 + 1))) else (some false))) else (none)) else (none)) else (some true)
def laws_eqCallS.f (k : Nat) (l0 : List (S88)) (l1 : List (S88)) : Option (Bool) := if (l0.length : Int) = (l1.length : Int) then (laws_eqCallS.l0 k l0 l1 0) else (some false)
theorem laws_eqCallS.mono_l : ∀ k, (∀ y0 y1 y2, LeO (laws_eqCallS.l0 k y0 y1 y2) (laws_eqCallS.l0 (k + 1) y0 y1 y2))
 | 0 => fun _ _ _ r h => by simp [laws_eqCallS.l0] at h
 | k + 1 => by
  have ih0 := laws_eqCallS.mono_l k
  ·intro y0 y1 y2
   unfold laws_eqCallS.l0
   repeat' first
   | (with_reducible exact ih0 _ _ _)
   | (with_reducible exact LeO.refl _)
   | (with_reducible exact LeO.none _)
   | (with_reducible refine LeO.ite ?_ ?_)
   | (with_reducible refine LeO.bind ?_ (fun _ => ?_))
   | exact ih0 _ _ _
   | exact LeO.none _
   | refine LeO.ite ?_ ?_
   | refine LeO.bind ?_ (fun _ => ?_)
theorem laws_eqCallS.mono : ∀ a0 a1 k, LeO (laws_eqCallS.f k a0 a1) (laws_eqCallS.f (k + 1) a0 a1) := by
 intro a0 a1 k
 have ih0 := laws_eqCallS.mono_l k
 unfold laws_eqCallS.f
 repeat' first
   | (with_reducible exact ih0 _ _ _)
   | (with_reducible exact LeO.refl _)
   | (with_reducible exact LeO.none _)
   | (with_reducible refine LeO.ite ?_ ?_)
   | (with_reducible refine LeO.bind ?_ (fun _ => ?_))
   | exact ih0 _ _ _
   | exact LeO.none _
   | refine LeO.ite ?_ ?_
   | refine LeO.bind ?_ (fun _ => ?_)
def laws_eqCallS.T6 : Bool × List (List Nat × List Nat) := (true, [([], []), ([], []), ([0, 1], [0, 1]), ([2], [2]), ([], []), ([], []), ([4, 5], [4, 5]), ([6], [6]), ([3, 7], [3, 7]), ([8], [8])])
def laws_eqCallS.B6 : List Nat := [0, 0, 3, 7, 0, 0, 48, 112, 255, 511]
theorem laws_eqCallS.tab6 : rtab .any (opsOf Try.f25 6) = laws_eqCallS.T6 := by kernel_rfl
theorem laws_eqCallS.bits6 : waitsOk laws_eqCallS.T6.2 laws_eqCallS.B6 = true := by kernel_rfl
set_option maxHeartbeats 8000000 in
set_option maxRecDepth 100000 in
theorem laws_eqCallS.calls (k : Nat) (A0 : Option Addr) (c0 : Nat) (l0 : List (S88)) (A1 : Option Addr) (c1 : Nat) (l1 : List (S88)) (r : Bool) (w : World) (hr0 : Kd.C k88 w A0 l0.length l0) (hc0 : l0.length ≤ c0) (hr1 : Kd.C k88 w A1 l1.length l1) (hc1 : l1.length ≤ c1) (h : laws_eqCallS.f k l0 l1 = some r) :
  Calls Try.prog 25 #[.slice A0 l0.length c0, .slice A1 l1.length c1] w fun e w' => e = .returned (.bool r) ∧ Below w.heap.size w w' := by
 have hu88 := Try.underlying88
 have HR0 := Aside0.mk hr0
 have HC0 := Aside0.mk hc0
 clear hr0 hc0
 have HR1 := Aside0.mk hr1
 have HC1 := Aside0.mk hc1
 clear hr1 hc1
 have HB := Aside0.mk (Below.refl w.heap.size w)
 have H : (if (l0.length : Int) = (l1.length : Int) then (laws_eqCallS.l0 k l0 l1 0) else (some false)) = some r := h
 clear h
 by_cases c3 : (l0.length : Int) = (l1.length : Int)
 rotate_left
 ·rw [if_neg c3] at H
  have c3b0 : ((l0.length : Int) == (l1.length : Int)) = false := beq_eq_false_iff_ne.mpr c3
  have c3b1 : ((l0.length : Int) != (l1.length : Int)) = true := bne_iff_ne.mpr c3
  have c3b2 : (l0.length == l1.length) = false := by first | simpa using c3 | (simp at c3 ⊢; omega)
  obtain rfl := Option.some.inj H
  go_enter Try.func25, Try.ntmps25
  go_wp2
  go_ret
  exact ⟨ng_, bl_⟩
 rw [if_pos c3] at H
 have c3b0 : ((l0.length : Int) == (l1.length : Int)) = true := beq_iff_eq.mpr c3
 have c3b1 : ((l0.length : Int) != (l1.length : Int)) = false := bne_eq_false_iff_eq.mpr c3
 have c3b2 : (l0.length == l1.length) = true := by first | simpa using c3 | (simp at c3 ⊢; omega)
 clear c3
 have H' := Aside0.mk H
 clear H
 go_enter Try.func25, Try.ntmps25
 go_wp2
 go_loopg [5] k (fun kq v5 w' => ∃ (x5_1 : Int), v5 = .int .i64 x5_1 ∧ Aside0 (laws_eqCallS.l0 kq l0 l1 x5_1 = some r) ∧ Aside0 (kq ≤ k) ∧ Aside0 (Below w.heap.size w w'))
 case atStart => exact ⟨(0), (by first | rfl | (simp; done) | (simp [*]; done)), H', ⟨Nat.le_refl _⟩, ⟨bl_⟩⟩
 clear H'
 try clear c1
 try clear c2
 try clear p2
 try clear c3
 try clear c3b0
 try clear c3b1
 try clear c3b2
 obtain ⟨x5_1, rfl, HA, HK1, HB⟩ := hrel
 cases gk with
 | zero => exact absurd HA.out (by simp [laws_eqCallS.l0])
 | succ k1 => ?_
 have H := HA.out
 clear HA
 simp only [laws_eqCallS.l0] at H
 by_cases c4 : x5_1 < (l0.length : Int)
 rotate_left
 ·rw [if_neg c4] at H
  have c4b0 : decide (x5_1 < (l0.length : Int)) = false := decide_eq_false c4
  clear c4
  obtain rfl := Option.some.inj H
  go_wp2
  go_ret
  exact ⟨ng_, bl_⟩
 rw [if_pos c4] at H
 have c4b0 : decide (x5_1 < (l0.length : Int)) = true := decide_eq_true c4
 clear c4
 by_cases c5 : 0 ≤ x5_1
 rotate_left
 ·rw [if_neg c5] at H
  exact absurd H (by simp)
 rw [if_pos c5] at H
 have c5b0 : decide (0 ≤ x5_1) = true := decide_eq_true c5
 clear c5
 by_cases c6 : x5_1 < (l1.length : Int)
 rotate_left
 ·rw [if_neg c6] at H
  exact absurd H (by simp)
 rw [if_pos c6] at H
 have c6b0 : decide (x5_1 < (l1.length : Int)) = true := decide_eq_true c6
 clear c6
 replace H := Option.bind_eq_some_iff.mp H
 obtain ⟨t371, A70, H⟩ := H
 replace H : (if t371 = true then (laws_eqCallS.l0 k1 l0 l1 (wrap64 (x5_1 + 1))) else (some false)) = some r := H
 have A7 := Aside0.mk A70
 clear A70
 by_cases c8 : t371 = true
 rotate_left
 ·replace c8 := Bool.eq_false_iff.mpr c8
  subst c8
  have H1 : (some false) = some r := by rw [if_neg (show ¬ (false = true) by decide)] at H; exact H
  clear H
  have H := H1
  clear H1
  obtain rfl := Option.some.inj H
  try go_wp2
  replace HB := Aside0.mk (below_drew1 HB.out)
  have p369 : 0 ≤ (x5_1 : Int) := of_decide_eq_true (by first | (with_reducible assumption) | assumption)
  have q369 : x5_1 < (l0.length : Int) := of_decide_eq_true (by first | (with_reducible assumption) | assumption)
  obtain ⟨ad369, e369, hx369_0, hx369_1, hx369_2, hx369_3, hx369_4, hx369_5⟩ := at_T88 HR0.out x5_1 p369 q369
  have hw369_5 := hx369_5
  have hw369_4 := hx369_4
  have hw369_3 := hx369_3
  have hw369_2 := hx369_2
  have hw369_1 := hx369_1
  have hw369_0 := hx369_0
  cases e369
  replace hx369_0 := (HB.out.cell (World.block_lt_of_cell? w _ hx369_0)).trans hx369_0
  replace hx369_1 := (HB.out.cell (World.block_lt_of_cell? w _ hx369_1)).trans hx369_1
  replace hx369_2 := (HB.out.cell (World.block_lt_of_cell? w _ hx369_2)).trans hx369_2
  replace hx369_3 := (HB.out.cell (World.block_lt_of_cell? w _ hx369_3)).trans hx369_3
  replace hx369_4 := (HB.out.cell (World.block_lt_of_cell? w _ hx369_4)).trans hx369_4
  replace hx369_5 := (HB.out.cell (World.block_lt_of_cell? w _ hx369_5)).trans hx369_5
  replace p369 := eq_true p369
  replace q369 := eq_true q369
  have p370 : 0 ≤ (x5_1 : Int) := of_decide_eq_true (by first | (with_reducible assumption) | assumption)
  have q370 : x5_1 < (l1.length : Int) := of_decide_eq_true (by first | (with_reducible assumption) | assumption)
  obtain ⟨ad370, e370, hx370_0, hx370_1, hx370_2, hx370_3, hx370_4, hx370_5⟩ := at_T88 HR1.out x5_1 p370 q370
  have hw370_5 := hx370_5
  have hw370_4 := hx370_4
  have hw370_3 := hx370_3
  have hw370_2 := hx370_2
  have hw370_1 := hx370_1
  have hw370_0 := hx370_0
  cases e370
  replace hx370_0 := (HB.out.cell (World.block_lt_of_cell? w _ hx370_0)).trans hx370_0
  replace hx370_1 := (HB.out.cell (World.block_lt_of_cell? w _ hx370_1)).trans hx370_1
  replace hx370_2 := (HB.out.cell (World.block_lt_of_cell? w _ hx370_2)).trans hx370_2
  replace hx370_3 := (HB.out.cell (World.block_lt_of_cell? w _ hx370_3)).trans hx370_3
  replace hx370_4 := (HB.out.cell (World.block_lt_of_cell? w _ hx370_4)).trans hx370_4
  replace hx370_5 := (HB.out.cell (World.block_lt_of_cell? w _ hx370_5)).trans hx370_5
  replace p370 := eq_true p370
  replace q370 := eq_true q370
  refine start_ (n := 10) (S := fun w' => w'.cell? (ad369.add ((x5_1).toNat * 6)) = some (.int .i64 ((rd_T88 l0 x5_1).f0)) ∧ w'.cell? ⟨(ad369.add ((x5_1).toNat * 6)).block, (ad369.add ((x5_1).toNat * 6)).off + 1, none⟩ = some (.bool ((rd_T88 l0 x5_1).f1)) ∧ w'.cell? ⟨(ad369.add ((x5_1).toNat * 6)).block, (ad369.add ((x5_1).toNat * 6)).off + 2, none⟩ = some (.string ((rd_T88 l0 x5_1).f2)) ∧ w'.cell? ⟨(ad369.add ((x5_1).toNat * 6)).block, (ad369.add ((x5_1).toNat * 6)).off + 3, none⟩ = some (.string ((rd_T88 l0 x5_1).f3)) ∧ w'.cell? ⟨(ad369.add ((x5_1).toNat * 6)).block, (ad369.add ((x5_1).toNat * 6)).off + 4, none⟩ = some (.int .i64 ((rd_T88 l0 x5_1).f4)) ∧ w'.cell? ⟨(ad369.add ((x5_1).toNat * 6)).block, (ad369.add ((x5_1).toNat * 6)).off + 5, none⟩ = some (.int .i64 ((rd_T88 l0 x5_1).f5)) ∧ w'.cell? (ad370.add ((x5_1).toNat * 6)) = some (.int .i64 ((rd_T88 l1 x5_1).f0)) ∧ w'.cell? ⟨(ad370.add ((x5_1).toNat * 6)).block, (ad370.add ((x5_1).toNat * 6)).off + 1, none⟩ = some (.bool ((rd_T88 l1 x5_1).f1)) ∧ w'.cell? ⟨(ad370.add ((x5_1).toNat * 6)).block, (ad370.add ((x5_1).toNat * 6)).off + 2, none⟩ = some (.string ((rd_T88 l1 x5_1).f2)) ∧ w'.cell? ⟨(ad370.add ((x5_1).toNat * 6)).block, (ad370.add ((x5_1).toNat * 6)).off + 3, none⟩ = some (.string ((rd_T88 l1 x5_1).f3)) ∧ w'.cell? ⟨(ad370.add ((x5_1).toNat * 6)).block, (ad370.add ((x5_1).toNat * 6)).off + 4, none⟩ = some (.int .i64 ((rd_T88 l1 x5_1).f4)) ∧ w'.cell? ⟨(ad370.add ((x5_1).toNat * 6)).block, (ad370.add ((x5_1).toNat * 6)).off + 5, none⟩ = some (.int .i64 ((rd_T88 l1 x5_1).f5))) (ds := []) #[false, false, false, false, false, false, false, false, false, false] (by kernel_rfl) rfl rfl ⟨((HB.out.cell (World.block_lt_of_cell? w _ hw369_0)).trans hw369_0), ((HB.out.cell (World.block_lt_of_cell? w _ hw369_1)).trans hw369_1), ((HB.out.cell (World.block_lt_of_cell? w _ hw369_2)).trans hw369_2), ((HB.out.cell (World.block_lt_of_cell? w _ hw369_3)).trans hw369_3), ((HB.out.cell (World.block_lt_of_cell? w _ hw369_4)).trans hw369_4), ((HB.out.cell (World.block_lt_of_cell? w _ hw369_5)).trans hw369_5), ((HB.out.cell (World.block_lt_of_cell? w _ hw370_0)).trans hw370_0), ((HB.out.cell (World.block_lt_of_cell? w _ hw370_1)).trans hw370_1), ((HB.out.cell (World.block_lt_of_cell? w _ hw370_2)).trans hw370_2), ((HB.out.cell (World.block_lt_of_cell? w _ hw370_3)).trans hw370_3), ((HB.out.cell (World.block_lt_of_cell? w _ hw370_4)).trans hw370_4), ((HB.out.cell (World.block_lt_of_cell? w _ hw370_5)).trans hw370_5)⟩ (fun hHeld => ?_); refine with_tabW laws_eqCallS.tab6 laws_eqCallS.bits6 (fun HT_ HW_ => ?_)
  generalize wr.drew = w11 at HB hx369_0 hx369_1 hx369_2 hx369_3 hx369_4 hx369_5 hx370_0 hx370_1 hx370_2 hx370_3 hx370_4 hx370_5 hHeld ⊢
  refine pu_ 0 (some 17) (h := ?_)
  refine pu_ 1 (some 18) (h := ?_)
  refine pu_ 2 (some 19) (h := ?_)
  refine pu_ 4 (some 21) (h := ?_)
  refine pu_ 5 (some 22) (h := ?_)
  refine pu_ 6 (some 23) (h := ?_)
  refine tk12_ 3 (some 20) (h := ?_)
  refine tk12_ 7 (some 24) (h := ?_)
  refine on_ 8 (some 25) (h := fun K hK => ?_)
  refine goes_ Try.func62 (by kernel_rfl) rfl #[.agg #[.int .i64 ((rd_T88 l0 x5_1).f0), .bool ((rd_T88 l0 x5_1).f1), .string ((rd_T88 l0 x5_1).f2), .string ((rd_T88 l0 x5_1).f3), .int .i64 ((rd_T88 l0 x5_1).f4), .int .i64 ((rd_T88 l0 x5_1).f5)], .agg #[.int .i64 ((rd_T88 l1 x5_1).f0), .bool ((rd_T88 l1 x5_1).f1), .string ((rd_T88 l1 x5_1).f2), .string ((rd_T88 l1 x5_1).f3), .int .i64 ((rd_T88 l1 x5_1).f4), .int .i64 ((rd_T88 l1 x5_1).f5)]] (by rfl) rfl rfl nc_ ?_
  with_reducible refine (laws_eqCall.calls ((rd_T88 l0 x5_1).f0) ((rd_T88 l0 x5_1).f1) ((rd_T88 l0 x5_1).f2) ((rd_T88 l0 x5_1).f3) ((rd_T88 l0 x5_1).f4) ((rd_T88 l0 x5_1).f5) ((rd_T88 l1 x5_1).f0) ((rd_T88 l1 x5_1).f1) ((rd_T88 l1 x5_1).f2) ((rd_T88 l1 x5_1).f3) ((rd_T88 l1 x5_1).f4) ((rd_T88 l1 x5_1).f5) false _ A7.out).mono ?_
  rintro e w12 ⟨rfl, hb⟩
  refine ⟨_, rfl, ?_⟩
  replace HB := Aside0.mk (below_step bl_ hb)
  clear hb
  refine hK.out _ _ ⟨((HB.out.cell (World.block_lt_of_cell? w _ hw369_0)).trans hw369_0), ((HB.out.cell (World.block_lt_of_cell? w _ hw369_1)).trans hw369_1), ((HB.out.cell (World.block_lt_of_cell? w _ hw369_2)).trans hw369_2), ((HB.out.cell (World.block_lt_of_cell? w _ hw369_3)).trans hw369_3), ((HB.out.cell (World.block_lt_of_cell? w _ hw369_4)).trans hw369_4), ((HB.out.cell (World.block_lt_of_cell? w _ hw369_5)).trans hw369_5), ((HB.out.cell (World.block_lt_of_cell? w _ hw370_0)).trans hw370_0), ((HB.out.cell (World.block_lt_of_cell? w _ hw370_1)).trans hw370_1), ((HB.out.cell (World.block_lt_of_cell? w _ hw370_2)).trans hw370_2), ((HB.out.cell (World.block_lt_of_cell? w _ hw370_3)).trans hw370_3), ((HB.out.cell (World.block_lt_of_cell? w _ hw370_4)).trans hw370_4), ((HB.out.cell (World.block_lt_of_cell? w _ hw370_5)).trans hw370_5)⟩ (fun hHeld => ?_)
  clear hK K
  refine norm_ nn_ ?_
  refine pu_ 9 (some 26) (h := ?_)
  refine done_ (done_of HT_.out (by kernel_rfl)) ?_
  try go_wp2
  go_ret
  exact ⟨ng_, bl_⟩
 subst c8
 have H1 : (laws_eqCallS.l0 k1 l0 l1 (wrap64 (x5_1 + 1))) = some r := by rw [if_pos rfl] at H; exact H
 clear H
 have H := H1
 clear H1
 have H' := Aside0.mk H
 clear H
 try go_wp2
 replace HB := Aside0.mk (below_drew1 HB.out)
 have p369 : 0 ≤ (x5_1 : Int) := of_decide_eq_true (by first | (with_reducible assumption) | assumption)
 have q369 : x5_1 < (l0.length : Int) := of_decide_eq_true (by first | (with_reducible assumption) | assumption)
 obtain ⟨ad369, e369, hx369_0, hx369_1, hx369_2, hx369_3, hx369_4, hx369_5⟩ := at_T88 HR0.out x5_1 p369 q369
 have hw369_5 := hx369_5
 have hw369_4 := hx369_4
 have hw369_3 := hx369_3
 have hw369_2 := hx369_2
 have hw369_1 := hx369_1
 have hw369_0 := hx369_0
 cases e369
 replace hx369_0 := (HB.out.cell (World.block_lt_of_cell? w _ hx369_0)).trans hx369_0
 replace hx369_1 := (HB.out.cell (World.block_lt_of_cell? w _ hx369_1)).trans hx369_1
 replace hx369_2 := (HB.out.cell (World.block_lt_of_cell? w _ hx369_2)).trans hx369_2
 replace hx369_3 := (HB.out.cell (World.block_lt_of_cell? w _ hx369_3)).trans hx369_3
 replace hx369_4 := (HB.out.cell (World.block_lt_of_cell? w _ hx369_4)).trans hx369_4
 replace hx369_5 := (HB.out.cell (World.block_lt_of_cell? w _ hx369_5)).trans hx369_5
 replace p369 := eq_true p369
 replace q369 := eq_true q369
 have p370 : 0 ≤ (x5_1 : Int) := of_decide_eq_true (by first | (with_reducible assumption) | assumption)
 have q370 : x5_1 < (l1.length : Int) := of_decide_eq_true (by first | (with_reducible assumption) | assumption)
 obtain ⟨ad370, e370, hx370_0, hx370_1, hx370_2, hx370_3, hx370_4, hx370_5⟩ := at_T88 HR1.out x5_1 p370 q370
 have hw370_5 := hx370_5
 have hw370_4 := hx370_4
 have hw370_3 := hx370_3
 have hw370_2 := hx370_2
 have hw370_1 := hx370_1
 have hw370_0 := hx370_0
 cases e370
 replace hx370_0 := (HB.out.cell (World.block_lt_of_cell? w _ hx370_0)).trans hx370_0
 replace hx370_1 := (HB.out.cell (World.block_lt_of_cell? w _ hx370_1)).trans hx370_1
 replace hx370_2 := (HB.out.cell (World.block_lt_of_cell? w _ hx370_2)).trans hx370_2
 replace hx370_3 := (HB.out.cell (World.block_lt_of_cell? w _ hx370_3)).trans hx370_3
 replace hx370_4 := (HB.out.cell (World.block_lt_of_cell? w _ hx370_4)).trans hx370_4
 replace hx370_5 := (HB.out.cell (World.block_lt_of_cell? w _ hx370_5)).trans hx370_5
 replace p370 := eq_true p370
 replace q370 := eq_true q370
 refine start_ (n := 10) (S := fun w' => w'.cell? (ad369.add ((x5_1).toNat * 6)) = some (.int .i64 ((rd_T88 l0 x5_1).f0)) ∧ w'.cell? ⟨(ad369.add ((x5_1).toNat * 6)).block, (ad369.add ((x5_1).toNat * 6)).off + 1, none⟩ = some (.bool ((rd_T88 l0 x5_1).f1)) ∧ w'.cell? ⟨(ad369.add ((x5_1).toNat * 6)).block, (ad369.add ((x5_1).toNat * 6)).off + 2, none⟩ = some (.string ((rd_T88 l0 x5_1).f2)) ∧ w'.cell? ⟨(ad369.add ((x5_1).toNat * 6)).block, (ad369.add ((x5_1).toNat * 6)).off + 3, none⟩ = some (.string ((rd_T88 l0 x5_1).f3)) ∧ w'.cell? ⟨(ad369.add ((x5_1).toNat * 6)).block, (ad369.add ((x5_1).toNat * 6)).off + 4, none⟩ = some (.int .i64 ((rd_T88 l0 x5_1).f4)) ∧ w'.cell? ⟨(ad369.add ((x5_1).toNat * 6)).block, (ad369.add ((x5_1).toNat * 6)).off + 5, none⟩ = some (.int .i64 ((rd_T88 l0 x5_1).f5)) ∧ w'.cell? (ad370.add ((x5_1).toNat * 6)) = some (.int .i64 ((rd_T88 l1 x5_1).f0)) ∧ w'.cell? ⟨(ad370.add ((x5_1).toNat * 6)).block, (ad370.add ((x5_1).toNat * 6)).off + 1, none⟩ = some (.bool ((rd_T88 l1 x5_1).f1)) ∧ w'.cell? ⟨(ad370.add ((x5_1).toNat * 6)).block, (ad370.add ((x5_1).toNat * 6)).off + 2, none⟩ = some (.string ((rd_T88 l1 x5_1).f2)) ∧ w'.cell? ⟨(ad370.add ((x5_1).toNat * 6)).block, (ad370.add ((x5_1).toNat * 6)).off + 3, none⟩ = some (.string ((rd_T88 l1 x5_1).f3)) ∧ w'.cell? ⟨(ad370.add ((x5_1).toNat * 6)).block, (ad370.add ((x5_1).toNat * 6)).off + 4, none⟩ = some (.int .i64 ((rd_T88 l1 x5_1).f4)) ∧ w'.cell? ⟨(ad370.add ((x5_1).toNat * 6)).block, (ad370.add ((x5_1).toNat * 6)).off + 5, none⟩ = some (.int .i64 ((rd_T88 l1 x5_1).f5))) (ds := []) #[false, false, false, false, false, false, false, false, false, false] (by kernel_rfl) rfl rfl ⟨((HB.out.cell (World.block_lt_of_cell? w _ hw369_0)).trans hw369_0), ((HB.out.cell (World.block_lt_of_cell? w _ hw369_1)).trans hw369_1), ((HB.out.cell (World.block_lt_of_cell? w _ hw369_2)).trans hw369_2), ((HB.out.cell (World.block_lt_of_cell? w _ hw369_3)).trans hw369_3), ((HB.out.cell (World.block_lt_of_cell? w _ hw369_4)).trans hw369_4), ((HB.out.cell (World.block_lt_of_cell? w _ hw369_5)).trans hw369_5), ((HB.out.cell (World.block_lt_of_cell? w _ hw370_0)).trans hw370_0), ((HB.out.cell (World.block_lt_of_cell? w _ hw370_1)).trans hw370_1), ((HB.out.cell (World.block_lt_of_cell? w _ hw370_2)).trans hw370_2), ((HB.out.cell (World.block_lt_of_cell? w _ hw370_3)).trans hw370_3), ((HB.out.cell (World.block_lt_of_cell? w _ hw370_4)).trans hw370_4), ((HB.out.cell (World.block_lt_of_cell? w _ hw370_5)).trans hw370_5)⟩ (fun hHeld => ?_); refine with_tabW laws_eqCallS.tab6 laws_eqCallS.bits6 (fun HT_ HW_ => ?_)
 generalize wr.drew = w9 at HB hx369_0 hx369_1 hx369_2 hx369_3 hx369_4 hx369_5 hx370_0 hx370_1 hx370_2 hx370_3 hx370_4 hx370_5 hHeld ⊢
 refine pu_ 0 (some 17) (h := ?_)
 refine pu_ 1 (some 18) (h := ?_)
 refine pu_ 2 (some 19) (h := ?_)
 refine pu_ 4 (some 21) (h := ?_)
 refine pu_ 5 (some 22) (h := ?_)
 refine pu_ 6 (some 23) (h := ?_)
 refine tk12_ 3 (some 20) (h := ?_)
 refine tk12_ 7 (some 24) (h := ?_)
 refine on_ 8 (some 25) (h := fun K hK => ?_)
 refine goes_ Try.func62 (by kernel_rfl) rfl #[.agg #[.int .i64 ((rd_T88 l0 x5_1).f0), .bool ((rd_T88 l0 x5_1).f1), .string ((rd_T88 l0 x5_1).f2), .string ((rd_T88 l0 x5_1).f3), .int .i64 ((rd_T88 l0 x5_1).f4), .int .i64 ((rd_T88 l0 x5_1).f5)], .agg #[.int .i64 ((rd_T88 l1 x5_1).f0), .bool ((rd_T88 l1 x5_1).f1), .string ((rd_T88 l1 x5_1).f2), .string ((rd_T88 l1 x5_1).f3), .int .i64 ((rd_T88 l1 x5_1).f4), .int .i64 ((rd_T88 l1 x5_1).f5)]] (by rfl) rfl rfl nc_ ?_
 with_reducible refine (laws_eqCall.calls ((rd_T88 l0 x5_1).f0) ((rd_T88 l0 x5_1).f1) ((rd_T88 l0 x5_1).f2) ((rd_T88 l0 x5_1).f3) ((rd_T88 l0 x5_1).f4) ((rd_T88 l0 x5_1).f5) ((rd_T88 l1 x5_1).f0) ((rd_T88 l1 x5_1).f1) ((rd_T88 l1 x5_1).f2) ((rd_T88 l1 x5_1).f3) ((rd_T88 l1 x5_1).f4) ((rd_T88 l1 x5_1).f5) true _ A7.out).mono ?_
 rintro e w10 ⟨rfl, hb⟩
 refine ⟨_, rfl, ?_⟩
 replace HB := Aside0.mk (below_step bl_ hb)
 clear hb
 refine hK.out _ _ ⟨((HB.out.cell (World.block_lt_of_cell? w _ hw369_0)).trans hw369_0), ((HB.out.cell (World.block_lt_of_cell? w _ hw369_1)).trans hw369_1), ((HB.out.cell (World.block_lt_of_cell? w _ hw369_2)).trans hw369_2), ((HB.out.cell (World.block_lt_of_cell? w _ hw369_3)).trans hw369_3), ((HB.out.cell (World.block_lt_of_cell? w _ hw369_4)).trans hw369_4), ((HB.out.cell (World.block_lt_of_cell? w _ hw369_5)).trans hw369_5), ((HB.out.cell (World.block_lt_of_cell? w _ hw370_0)).trans hw370_0), ((HB.out.cell (World.block_lt_of_cell? w _ hw370_1)).trans hw370_1), ((HB.out.cell (World.block_lt_of_cell? w _ hw370_2)).trans hw370_2), ((HB.out.cell (World.block_lt_of_cell? w _ hw370_3)).trans hw370_3), ((HB.out.cell (World.block_lt_of_cell? w _ hw370_4)).trans hw370_4), ((HB.out.cell (World.block_lt_of_cell? w _ hw370_5)).trans hw370_5)⟩ (fun hHeld => ?_)
 clear hK K
 refine norm_ nn_ ?_
 refine pu_ 9 (some 26) (h := ?_)
 refine done_ (done_of HT_.out (by kernel_rfl)) ?_
 try go_wp2
 go_roundg k1
 case measure => have := HK1.out; omega
 case rel => exact ⟨(wrap64 (x5_1 + 1)), (by first | rfl | (simp; done) | (simp [*]; done)), H', ⟨by have := HK1.out; omega⟩, ⟨bl_⟩⟩

/-! ### laws_markCallS: function 26 -/
def laws_markCallS.l0 : Nat → List (S88) → Int → Int → Option (Int × (List (S88)))
 | 0, _, _, _ => none
 | k + 1, x0, x1, x5 => if x5 < (x0.length : Int) then (if 0 ≤ x5 then ((some (x0.set (x5 : Int).toNat (⟨x1, (rd_T88 x0 x5).f1, (rd_T88 x0 x5).f2, (rd_T88 x0 x5).f3, (rd_T88 x0 x5).f4, (rd_T88 x0 x5).f5⟩ : S88) : List (S88))).bind fun y372 => ((some (y372.set (x5 : Int).toNat (⟨(rd_T88 y372 x5).f0, ((Int.tmod (wrap64 (x1 + 1)) 3) == 0), (rd_T88 y372 x5).f2, (rd_T88 y372 x5).f3, (rd_T88 y372 x5).f4, (rd_T88 y372 x5).f5⟩ : S88) : List (S88))).bind fun y373 => ((laws_markText.f k (wrap64 ((wrap64 (x1 + 1)) + 1))).bind fun t374 => ((some (y373.set (x5 : Int).toNat (⟨(rd_T88 y373 x5).f0, (rd_T88 y373 x5).f1, t374, (rd_T88 y373 x5).f3, (rd_T88 y373 x5).f4, (rd_T88 y373 x5).f5⟩ : S88) : List (S88))).bind fun y375 => ((laws_markText.f k (wrap64 ((wrap64 ((wrap64 (x1 + 1)) + 1)) + 1))).bind fun t376 => ((some (y375.set (x5 : Int).toNat (⟨(rd_T88 y375 x5).f0, (rd_T88 y375 x5).f1, (rd_T88 y375 x5).f2, t376, (rd_T88 y375 x5).f4, (rd_T88 y375 x5).f5⟩ : S88) : List (S88))).bind fun y377 => ((some (y377.set (x5 : Int).toNat (⟨(rd_T88 y377 x5).f0, (rd_T88 y377 x5).f1, (rd_T88 y377 x5).f2, (rd_T88 y377 x5).f3, wrap64 ((wrap64 ((wrap64 ((wrap64 (x1 + 1)) + 1)) + 1)) + 1), (rd_T88 y377 x5).f5⟩ : S88) : List (S88))).bind fun y378 => (laws_markCallS.l0 k (y378.set (x5 : Int).toNat (⟨(rd_T88 y378 x5).f0, (rd_T88 y378 x5).f1, (rd_T88 y378 x5).f2, (rd_T88 y378 x5).f3, (rd_T88 y378 x5).f4, wrap64 ((wrap64 ((wrap64 ((wrap64 ((wrap64 (x1 + 1)) + 1)) + 1)) + 1)) + 1)⟩ : S88)) (wrap64 ((wrap64 ((wrap64 ((wrap64 ((wrap64 ((wrap64 (x1 + 1)) + 1)) + 1)) + 1)) + 1)) + 1)) (wrap64 (x5 + 1)))))))))) else (none)) else (some (x1, x0))
def laws_markCallS.f (k : Nat) (l0 : List (S88)) (a1 : Int) : Option (Int × (List (S88))) := laws_markCallS.l0 k l0 a1 0
theorem laws_markCallS.mono_l : ∀ k, (∀ y0 y1 y2, LeO (laws_markCallS.l0 k y0 y1 y2) (laws_markCallS.l0 (k + 1) y0 y1 y2))
 | 0 => fun _ _ _ r h => by simp [laws_markCallS.l0] at h
 | k + 1 => by
  have ih0 := laws_markCallS.mono_l k
  ·intro y0 y1 y2
   unfold laws_markCallS.l0
   repeat' first
   | (with_reducible exact ih0 _ _ _)
   | (with_reducible exact laws_markText.mono _ _)
   | (with_reducible exact LeO.refl _)
   | (with_reducible exact LeO.none _)
   | (with_reducible refine LeO.ite ?_ ?_)
   | (with_reducible refine LeO.bind ?_ (fun _ => ?_))
   | exact ih0 _ _ _
   | exact laws_markText.mono _ _
   | exact LeO.none _
   | refine LeO.ite ?_ ?_
   | refine LeO.bind ?_ (fun _ => ?_)
theorem laws_markCallS.mono : ∀ a0 a1 k, LeO (laws_markCallS.f k a0 a1) (laws_markCallS.f (k + 1) a0 a1) := by
 intro a0 a1 k
 have ih0 := laws_markCallS.mono_l k
 unfold laws_markCallS.f
 repeat' first
   | (with_reducible exact ih0 _ _ _)
   | (with_reducible exact laws_markText.mono _ _)
   | (with_reducible exact LeO.refl _)
   | (with_reducible exact LeO.none _)
   | (with_reducible refine LeO.ite ?_ ?_)
   | (with_reducible refine LeO.bind ?_ (fun _ => ?_))
   | exact ih0 _ _ _
   | exact laws_markText.mono _ _
   | exact LeO.none _
   | refine LeO.ite ?_ ?_
   | refine LeO.bind ?_ (fun _ => ?_)
set_option maxHeartbeats 8000000 in
set_option maxRecDepth 100000 in
theorem laws_markCallS.calls (k : Nat) (P0_ : Nat → Prop) (u9000_ : Value) (l0 : List (S88)) (a1 : Int) (r1 : Int) (r2 : List (S88)) (w0 w : World) (hB : Below w0.heap.size w0 w) (ho0 : Kd.R k88 88 w w0.heap.size P0_ u9000_ l0) (h : laws_markCallS.f k l0 a1 = some (r1, r2)) :
  Calls Try.prog 26 #[u9000_, .int .i64 a1] w fun e w' => e = .returned (.int .i64 r1) ∧ Kd.R k88 88 w' w0.heap.size (fun k_ => (P0_ k_ ∨ w.heap.size ≤ k_)) u9000_ r2 ∧ Below w0.heap.size w0 w' ∧ Kept w w' (fun k_ => P0_ k_) := by
 have HO0 := Aside0.mk (show Kd.R k88 88 w w0.heap.size (fun k_ => (P0_ k_ ∨ w.heap.size ≤ k_)) u9000_ l0 from Kd.R_mono ho0 (fun k_ hk => (.inl hk)))
 have HK := Aside0.mk (Kept.refl w (fun k_ => P0_ k_))
 have HW0 := Aside0.mk hB.size
 have HB := Aside0.mk hB
 clear hB
 have H : (laws_markCallS.l0 k l0 a1 0) = some (r1, r2) := h
 clear h
 have H' := Aside0.mk H
 clear H
 go_enter Try.func26, Try.ntmps26
 go_wp2
 go_loopg [1, 5] k (fun kq v1 v5 w' => ∃ (x0_1 : List (S88)) (x1_1 : Int) (x5_1 : Int), v1 = .int .i64 x1_1 ∧ v5 = .int .i64 x5_1 ∧ Aside0 (laws_markCallS.l0 kq x0_1 x1_1 x5_1 = some (r1, r2)) ∧ Aside0 (kq ≤ k) ∧ Aside0 (Kd.R k88 88 w' w0.heap.size (fun k_ => (P0_ k_ ∨ w.heap.size ≤ k_)) u9000_ x0_1) ∧ Aside0 (Kept w w' (fun k_ => P0_ k_)) ∧ Aside0 (Below w0.heap.size w0 w'))
 case atStart => exact ⟨(l0), (a1), (0), (by first | rfl | (simp; done) | (simp [*]; done)), (by first | rfl | (simp; done) | (simp [*]; done)), H', ⟨Nat.le_refl _⟩, ⟨by exact kr_ HO0.out⟩, ⟨by repeat (first | (with_reducible first | exact HK.out | apply Kept.alloc | apply Kept.drewN | apply Kept.drew) | exact HK.out)⟩, ⟨bl_⟩⟩
 clear H'
 try clear c2
 try clear p2
 obtain ⟨x0_1, x1_1, x5_1, rfl, rfl, HA, HK1, HO_0, HK, HB⟩ := hrel
 cases gk with
 | zero => exact absurd HA.out (by simp [laws_markCallS.l0])
 | succ k1 => ?_
 have H := HA.out
 clear HA
 simp only [laws_markCallS.l0] at H
 by_cases c3 : x5_1 < (x0_1.length : Int)
 rotate_left
 ·rw [if_neg c3] at H
  have c3b0 : decide (x5_1 < (x0_1.length : Int)) = false := decide_eq_false c3
  clear c3
  simp only [Option.some.injEq, Prod.mk.injEq] at H
  obtain ⟨rfl, rfl⟩ := H
  obtain ⟨Ao28, co28, eo28⟩ := Kd.R_slice HO_0.out
  subst eo28
  go_wp2
  go_ret
  exact ⟨ng_, by exact kr_ HO_0.out, bl_, by repeat (first | (with_reducible first | exact HK.out | apply Kept.alloc | apply Kept.drewN | apply Kept.drew) | exact HK.out)⟩
 rw [if_pos c3] at H
 have c3b0 : decide (x5_1 < (x0_1.length : Int)) = true := decide_eq_true c3
 clear c3
 by_cases c4 : 0 ≤ x5_1
 rotate_left
 ·rw [if_neg c4] at H
  exact absurd H (by simp)
 rw [if_pos c4] at H
 have c4b0 : decide (0 ≤ x5_1) = true := decide_eq_true c4
 clear c4
 obtain ⟨y372, hy372⟩ : ∃ y_ : List (S88), y_ = (x0_1.set (x5_1 : Int).toNat (⟨x1_1, (rd_T88 x0_1 x5_1).f1, (rd_T88 x0_1 x5_1).f2, (rd_T88 x0_1 x5_1).f3, (rd_T88 x0_1 x5_1).f4, (rd_T88 x0_1 x5_1).f5⟩ : S88)) := ⟨_, rfl⟩
 replace H : ((some (y372.set (x5_1 : Int).toNat (⟨(rd_T88 y372 x5_1).f0, ((Int.tmod (wrap64 (x1_1 + 1)) 3) == 0), (rd_T88 y372 x5_1).f2, (rd_T88 y372 x5_1).f3, (rd_T88 y372 x5_1).f4, (rd_T88 y372 x5_1).f5⟩ : S88) : List (S88))).bind fun y373 => ((laws_markText.f k1 (wrap64 ((wrap64 (x1_1 + 1)) + 1))).bind fun t374 => ((some (y373.set (x5_1 : Int).toNat (⟨(rd_T88 y373 x5_1).f0, (rd_T88 y373 x5_1).f1, t374, (rd_T88 y373 x5_1).f3, (rd_T88 y373 x5_1).f4, (rd_T88 y373 x5_1).f5⟩ : S88) : List (S88))).bind fun y375 => ((laws_markText.f k1 (wrap64 ((wrap64 ((wrap64 (x1_1 + 1)) + 1)) + 1))).bind fun t376 => ((some (y375.set (x5_1 : Int).toNat (⟨(rd_T88 y375 x5_1).f0, (rd_T88 y375 x5_1).f1, (rd_T88 y375 x5_1).f2, t376, (rd_T88 y375 x5_1).f4, (rd_T88 y375 x5_1).f5⟩ : S88) : List (S88))).bind fun y377 => ((some (y377.set (x5_1 : Int).toNat (⟨(rd_T88 y377 x5_1).f0, (rd_T88 y377 x5_1).f1, (rd_T88 y377 x5_1).f2, (rd_T88 y377 x5_1).f3, wrap64 ((wrap64 ((wrap64 ((wrap64 (x1_1 + 1)) + 1)) + 1)) + 1), (rd_T88 y377 x5_1).f5⟩ : S88) : List (S88))).bind fun y378 => (laws_markCallS.l0 k1 (y378.set (x5_1 : Int).toNat (⟨(rd_T88 y378 x5_1).f0, (rd_T88 y378 x5_1).f1, (rd_T88 y378 x5_1).f2, (rd_T88 y378 x5_1).f3, (rd_T88 y378 x5_1).f4, wrap64 ((wrap64 ((wrap64 ((wrap64 ((wrap64 (x1_1 + 1)) + 1)) + 1)) + 1)) + 1)⟩ : S88)) (wrap64 ((wrap64 ((wrap64 ((wrap64 ((wrap64 ((wrap64 (x1_1 + 1)) + 1)) + 1)) + 1)) + 1)) + 1)) (wrap64 (x5_1 + 1))))))))) = some (r1, r2) := by first | (rw [hy372]; with_reducible exact H) | (have H2_ := (Option.bind_some _ _).symm.trans H; rw [hy372]; with_reducible exact H2_) | (have H2_ := (Option.bind_some _ _).symm.trans H; with_reducible exact H2_) | with_reducible exact H | (rw [hy372]; exact H) | exact H
 have Ny372 := Aside0.mk hy372
 clear hy372
 obtain ⟨y373, hy373⟩ : ∃ y_ : List (S88), y_ = (y372.set (x5_1 : Int).toNat (⟨(rd_T88 y372 x5_1).f0, ((Int.tmod (wrap64 (x1_1 + 1)) 3) == 0), (rd_T88 y372 x5_1).f2, (rd_T88 y372 x5_1).f3, (rd_T88 y372 x5_1).f4, (rd_T88 y372 x5_1).f5⟩ : S88)) := ⟨_, rfl⟩
 replace H : ((laws_markText.f k1 (wrap64 ((wrap64 (x1_1 + 1)) + 1))).bind fun t374 => ((some (y373.set (x5_1 : Int).toNat (⟨(rd_T88 y373 x5_1).f0, (rd_T88 y373 x5_1).f1, t374, (rd_T88 y373 x5_1).f3, (rd_T88 y373 x5_1).f4, (rd_T88 y373 x5_1).f5⟩ : S88) : List (S88))).bind fun y375 => ((laws_markText.f k1 (wrap64 ((wrap64 ((wrap64 (x1_1 + 1)) + 1)) + 1))).bind fun t376 => ((some (y375.set (x5_1 : Int).toNat (⟨(rd_T88 y375 x5_1).f0, (rd_T88 y375 x5_1).f1, (rd_T88 y375 x5_1).f2, t376, (rd_T88 y375 x5_1).f4, (rd_T88 y375 x5_1).f5⟩ : S88) : List (S88))).bind fun y377 => ((some (y377.set (x5_1 : Int).toNat (⟨(rd_T88 y377 x5_1).f0, (rd_T88 y377 x5_1).f1, (rd_T88 y377 x5_1).f2, (rd_T88 y377 x5_1).f3, wrap64 ((wrap64 ((wrap64 ((wrap64 (x1_1 + 1)) + 1)) + 1)) + 1), (rd_T88 y377 x5_1).f5⟩ : S88) : List (S88))).bind fun y378 => (laws_markCallS.l0 k1 (y378.set (x5_1 : Int).toNat (⟨(rd_T88 y378 x5_1).f0, (rd_T88 y378 x5_1).f1, (rd_T88 y378 x5_1).f2, (rd_T88 y378 x5_1).f3, (rd_T88 y378 x5_1).f4, wrap64 ((wrap64 ((wrap64 ((wrap64 ((wrap64 (x1_1 + 1)) + 1)) + 1)) + 1)) + 1)⟩ : S88)) (wrap64 ((wrap64 ((wrap64 ((wrap64 ((wrap64 ((wrap64 (x1_1 + 1)) + 1)) + 1)) + 1)) + 1)) + 1)) (wrap64 (x5_1 + 1)))))))) = some (r1, r2) := by first | (rw [hy373]; with_reducible exact H) | (have H2_ := (Option.bind_some _ _).symm.trans H; rw [hy373]; with_reducible exact H2_) | (have H2_ := (Option.bind_some _ _).symm.trans H; with_reducible exact H2_) | with_reducible exact H | (rw [hy373]; exact H) | exact H
 have Ny373 := Aside0.mk hy373
 clear hy373
 replace H := Option.bind_eq_some_iff.mp H
 obtain ⟨t374, A70, H⟩ := H
 replace H : ((some (y373.set (x5_1 : Int).toNat (⟨(rd_T88 y373 x5_1).f0, (rd_T88 y373 x5_1).f1, t374, (rd_T88 y373 x5_1).f3, (rd_T88 y373 x5_1).f4, (rd_T88 y373 x5_1).f5⟩ : S88) : List (S88))).bind fun y375 => ((laws_markText.f k1 (wrap64 ((wrap64 ((wrap64 (x1_1 + 1)) + 1)) + 1))).bind fun t376 => ((some (y375.set (x5_1 : Int).toNat (⟨(rd_T88 y375 x5_1).f0, (rd_T88 y375 x5_1).f1, (rd_T88 y375 x5_1).f2, t376, (rd_T88 y375 x5_1).f4, (rd_T88 y375 x5_1).f5⟩ : S88) : List (S88))).bind fun y377 => ((some (y377.set (x5_1 : Int).toNat (⟨(rd_T88 y377 x5_1).f0, (rd_T88 y377 x5_1).f1, (rd_T88 y377 x5_1).f2, (rd_T88 y377 x5_1).f3, wrap64 ((wrap64 ((wrap64 ((wrap64 (x1_1 + 1)) + 1)) + 1)) + 1), (rd_T88 y377 x5_1).f5⟩ : S88) : List (S88))).bind fun y378 => (laws_markCallS.l0 k1 (y378.set (x5_1 : Int).toNat (⟨(rd_T88 y378 x5_1).f0, (rd_T88 y378 x5_1).f1, (rd_T88 y378 x5_1).f2, (rd_T88 y378 x5_1).f3, (rd_T88 y378 x5_1).f4, wrap64 ((wrap64 ((wrap64 ((wrap64 ((wrap64 (x1_1 + 1)) + 1)) + 1)) + 1)) + 1)⟩ : S88)) (wrap64 ((wrap64 ((wrap64 ((wrap64 ((wrap64 ((wrap64 (x1_1 + 1)) + 1)) + 1)) + 1)) + 1)) + 1)) (wrap64 (x5_1 + 1))))))) = some (r1, r2) := H
 have A7 := Aside0.mk A70
 clear A70
 obtain ⟨y375, hy375⟩ : ∃ y_ : List (S88), y_ = (y373.set (x5_1 : Int).toNat (⟨(rd_T88 y373 x5_1).f0, (rd_T88 y373 x5_1).f1, t374, (rd_T88 y373 x5_1).f3, (rd_T88 y373 x5_1).f4, (rd_T88 y373 x5_1).f5⟩ : S88)) := ⟨_, rfl⟩
 replace H : ((laws_markText.f k1 (wrap64 ((wrap64 ((wrap64 (x1_1 + 1)) + 1)) + 1))).bind fun t376 => ((some (y375.set (x5_1 : Int).toNat (⟨(rd_T88 y375 x5_1).f0, (rd_T88 y375 x5_1).f1, (rd_T88 y375 x5_1).f2, t376, (rd_T88 y375 x5_1).f4, (rd_T88 y375 x5_1).f5⟩ : S88) : List (S88))).bind fun y377 => ((some (y377.set (x5_1 : Int).toNat (⟨(rd_T88 y377 x5_1).f0, (rd_T88 y377 x5_1).f1, (rd_T88 y377 x5_1).f2, (rd_T88 y377 x5_1).f3, wrap64 ((wrap64 ((wrap64 ((wrap64 (x1_1 + 1)) + 1)) + 1)) + 1), (rd_T88 y377 x5_1).f5⟩ : S88) : List (S88))).bind fun y378 => (laws_markCallS.l0 k1 (y378.set (x5_1 : Int).toNat (⟨(rd_T88 y378 x5_1).f0, (rd_T88 y378 x5_1).f1, (rd_T88 y378 x5_1).f2, (rd_T88 y378 x5_1).f3, (rd_T88 y378 x5_1).f4, wrap64 ((wrap64 ((wrap64 ((wrap64 ((wrap64 (x1_1 + 1)) + 1)) + 1)) + 1)) + 1)⟩ : S88)) (wrap64 ((wrap64 ((wrap64 ((wrap64 ((wrap64 ((wrap64 (x1_1 + 1)) + 1)) + 1)) + 1)) + 1)) + 1)) (wrap64 (x5_1 + 1)))))) = some (r1, r2) := by first | (rw [hy375]; with_reducible exact H) | (have H2_ := (Option.bind_some _ _).symm.trans H; rw [hy375]; with_reducible exact H2_) | (have H2_ := (Option.bind_some _ _).symm.trans H; with_reducible exact H2_) | with_reducible exact H | (rw [hy375]; exact H) | exact H
 have Ny375 := Aside0.mk hy375
 clear hy375
 replace H := Option.bind_eq_some_iff.mp H
 obtain ⟨t376, A90, H⟩ := H
 replace H : ((some (y375.set (x5_1 : Int).toNat (⟨(rd_T88 y375 x5_1).f0, (rd_T88 y375 x5_1).f1, (rd_T88 y375 x5_1).f2, t376, (rd_T88 y375 x5_1).f4, (rd_T88 y375 x5_1).f5⟩ : S88) : List (S88))).bind fun y377 => ((some (y377.set (x5_1 : Int).toNat (⟨(rd_T88 y377 x5_1).f0, (rd_T88 y377 x5_1).f1, (rd_T88 y377 x5_1).f2, (rd_T88 y377 x5_1).f3, wrap64 ((wrap64 ((wrap64 ((wrap64 (x1_1 + 1)) + 1)) + 1)) + 1), (rd_T88 y377 x5_1).f5⟩ : S88) : List (S88))).bind fun y378 => (laws_markCallS.l0 k1 (y378.set (x5_1 : Int).toNat (⟨(rd_T88 y378 x5_1).f0, (rd_T88 y378 x5_1).f1, (rd_T88 y378 x5_1).f2, (rd_T88 y378 x5_1).f3, (rd_T88 y378 x5_1).f4, wrap64 ((wrap64 ((wrap64 ((wrap64 ((wrap64 (x1_1 + 1)) + 1)) + 1)) + 1)) + 1)⟩ : S88)) (wrap64 ((wrap64 ((wrap64 ((wrap64 ((wrap64 ((wrap64 (x1_1 + 1)) + 1)) + 1)) + 1)) + 1)) + 1)) (wrap64 (x5_1 + 1))))) = some (r1, r2) := H
 have A9 := Aside0.mk A90
 clear A90
 obtain ⟨y377, hy377⟩ : ∃ y_ : List (S88), y_ = (y375.set (x5_1 : Int).toNat (⟨(rd_T88 y375 x5_1).f0, (rd_T88 y375 x5_1).f1, (rd_T88 y375 x5_1).f2, t376, (rd_T88 y375 x5_1).f4, (rd_T88 y375 x5_1).f5⟩ : S88)) := ⟨_, rfl⟩
 replace H : ((some (y377.set (x5_1 : Int).toNat (⟨(rd_T88 y377 x5_1).f0, (rd_T88 y377 x5_1).f1, (rd_T88 y377 x5_1).f2, (rd_T88 y377 x5_1).f3, wrap64 ((wrap64 ((wrap64 ((wrap64 (x1_1 + 1)) + 1)) + 1)) + 1), (rd_T88 y377 x5_1).f5⟩ : S88) : List (S88))).bind fun y378 => (laws_markCallS.l0 k1 (y378.set (x5_1 : Int).toNat (⟨(rd_T88 y378 x5_1).f0, (rd_T88 y378 x5_1).f1, (rd_T88 y378 x5_1).f2, (rd_T88 y378 x5_1).f3, (rd_T88 y378 x5_1).f4, wrap64 ((wrap64 ((wrap64 ((wrap64 ((wrap64 (x1_1 + 1)) + 1)) + 1)) + 1)) + 1)⟩ : S88)) (wrap64 ((wrap64 ((wrap64 ((wrap64 ((wrap64 ((wrap64 (x1_1 + 1)) + 1)) + 1)) + 1)) + 1)) + 1)) (wrap64 (x5_1 + 1)))) = some (r1, r2) := by first | (rw [hy377]; with_reducible exact H) | (have H2_ := (Option.bind_some _ _).symm.trans H; rw [hy377]; with_reducible exact H2_) | (have H2_ := (Option.bind_some _ _).symm.trans H; with_reducible exact H2_) | with_reducible exact H | (rw [hy377]; exact H) | exact H
 have Ny377 := Aside0.mk hy377
 clear hy377
 obtain ⟨y378, hy378⟩ : ∃ y_ : List (S88), y_ = (y377.set (x5_1 : Int).toNat (⟨(rd_T88 y377 x5_1).f0, (rd_T88 y377 x5_1).f1, (rd_T88 y377 x5_1).f2, (rd_T88 y377 x5_1).f3, wrap64 ((wrap64 ((wrap64 ((wrap64 (x1_1 + 1)) + 1)) + 1)) + 1), (rd_T88 y377 x5_1).f5⟩ : S88)) := ⟨_, rfl⟩
 replace H : (laws_markCallS.l0 k1 (y378.set (x5_1 : Int).toNat (⟨(rd_T88 y378 x5_1).f0, (rd_T88 y378 x5_1).f1, (rd_T88 y378 x5_1).f2, (rd_T88 y378 x5_1).f3, (rd_T88 y378 x5_1).f4, wrap64 ((wrap64 ((wrap64 ((wrap64 ((wrap64 (x1_1 + 1)) + 1)) + 1)) + 1)) + 1)⟩ : S88)) (wrap64 ((wrap64 ((wrap64 ((wrap64 ((wrap64 ((wrap64 (x1_1 + 1)) + 1)) + 1)) + 1)) + 1)) + 1)) (wrap64 (x5_1 + 1))) = some (r1, r2) := by first | (rw [hy378]; with_reducible exact H) | (have H2_ := (Option.bind_some _ _).symm.trans H; rw [hy378]; with_reducible exact H2_) | (have H2_ := (Option.bind_some _ _).symm.trans H; with_reducible exact H2_) | with_reducible exact H | (rw [hy378]; exact H) | exact H
 have Ny378 := Aside0.mk hy378
 clear hy378
 obtain ⟨y379, hy379⟩ : ∃ y_ : List (S88), y_ = (y378.set (x5_1 : Int).toNat (⟨(rd_T88 y378 x5_1).f0, (rd_T88 y378 x5_1).f1, (rd_T88 y378 x5_1).f2, (rd_T88 y378 x5_1).f3, (rd_T88 y378 x5_1).f4, wrap64 ((wrap64 ((wrap64 ((wrap64 ((wrap64 (x1_1 + 1)) + 1)) + 1)) + 1)) + 1)⟩ : S88)) := ⟨_, rfl⟩
 replace H : (laws_markCallS.l0 k1 y379 (wrap64 ((wrap64 ((wrap64 ((wrap64 ((wrap64 ((wrap64 (x1_1 + 1)) + 1)) + 1)) + 1)) + 1)) + 1)) (wrap64 (x5_1 + 1))) = some (r1, r2) := by first | (rw [hy379]; with_reducible exact H) | (have H2_ := (Option.bind_some _ _).symm.trans H; rw [hy379]; with_reducible exact H2_) | (have H2_ := (Option.bind_some _ _).symm.trans H; with_reducible exact H2_) | with_reducible exact H | (rw [hy379]; exact H) | exact H
 have Ny379 := Aside0.mk hy379
 clear hy379
 have H' := Aside0.mk H
 clear H
 obtain ⟨Ao13, co13, eo13⟩ := Kd.R_slice HO_0.out
 subst eo13
 have p5 : 0 ≤ (x5_1 : Int) := of_decide_eq_true (by first | (with_reducible assumption) | assumption)
 have q5 : (x5_1 : Int) < ((x0_1.length : Int) : Int) := of_decide_eq_true (by first | (with_reducible assumption) | assumption)
 obtain ⟨go5, co5, eo5, gb5, gl5, cl5, HG5⟩ := Kd.R_form HO_0.out (by omega)
 (first | cases eo5 | (injection eo5 with ea_ en_ ec_; (first | subst ea_ | (injection ea_ with ea_; subst ea_)); subst ec_; clear en_))
 have GB5 := Aside0.mk gb5
 have GG5 := Aside0.mk HG5
 clear gb5 gl5 HG5
 have HMgo5 := Aside0.mk (show (P0_ go5 ∨ w.heap.size ≤ go5) from (HO_0.out.1 _ rfl))
 obtain ⟨ce5, hcl5, hM5, hcc5, hfr5⟩ := Kd.R_elem HO_0.out z88 (x5_1 : Int) p5 q5
 obtain rfl := k88_openM hM5
 have hx5_0 : wr.cell? ⟨go5, (x5_1 : Int).toNat * 6, none⟩ = some (.int .i64 ((rd_T88 x0_1 x5_1).f0)) := hcc5 0 _ rfl
 have hx5_1 : wr.cell? ⟨go5, (x5_1 : Int).toNat * 6 + 1, none⟩ = some (.bool ((rd_T88 x0_1 x5_1).f1)) := hcc5 1 _ rfl
 have hx5_2 : wr.cell? ⟨go5, (x5_1 : Int).toNat * 6 + 2, none⟩ = some (.string ((rd_T88 x0_1 x5_1).f2)) := hcc5 2 _ rfl
 have hx5_3 : wr.cell? ⟨go5, (x5_1 : Int).toNat * 6 + 3, none⟩ = some (.string ((rd_T88 x0_1 x5_1).f3)) := hcc5 3 _ rfl
 have hx5_4 : wr.cell? ⟨go5, (x5_1 : Int).toNat * 6 + 4, none⟩ = some (.int .i64 ((rd_T88 x0_1 x5_1).f4)) := hcc5 4 _ rfl
 have hx5_5 : wr.cell? ⟨go5, (x5_1 : Int).toNat * 6 + 5, none⟩ = some (.int .i64 ((rd_T88 x0_1 x5_1).f5)) := hcc5 5 _ rfl
 have hf5_0 : wr.frozen? ⟨go5, (x5_1 : Int).toNat * 6, none⟩ = false := hfr5 0
 have hf5_1 : wr.frozen? ⟨go5, (x5_1 : Int).toNat * 6 + 1, none⟩ = false := hfr5 1
 have hf5_2 : wr.frozen? ⟨go5, (x5_1 : Int).toNat * 6 + 2, none⟩ = false := hfr5 2
 have hf5_3 : wr.frozen? ⟨go5, (x5_1 : Int).toNat * 6 + 3, none⟩ = false := hfr5 3
 have hf5_4 : wr.frozen? ⟨go5, (x5_1 : Int).toNat * 6 + 4, none⟩ = false := hfr5 4
 have hf5_5 : wr.frozen? ⟨go5, (x5_1 : Int).toNat * 6 + 5, none⟩ = false := hfr5 5
 clear hcl5 hcc5 hfr5 hM5
 replace p5 := eq_true p5
 replace q5 := eq_true q5
 have HX14 := Aside0.mk (show Kd.R k88 88 wr w0.heap.size (fun k_ => (P0_ k_ ∨ w.heap.size ≤ k_)) (.slice (some ⟨go5, 0, none⟩) x0_1.length co13) x0_1 from (kr_ HO_0.out))
 obtain ⟨ce14, hcl14, hM14, hcc14, hfr14⟩ := Kd.R_elem HX14.out z88 (x5_1 : Int) (of_decide_eq_true (by first | (with_reducible assumption) | assumption)) (by have h_ : (x5_1 : Int) < ((x0_1.length : Int) : Int) := of_decide_eq_true (by first | (with_reducible assumption) | assumption); first | exact h_ | (have e_ := (Kd.R_reads' HO_0.out).1; omega) | simpa using h_)
 obtain rfl := k88_openM hM14
 have HP14 := Kd.R_seg HX14.out (x5_1 : Int) (of_decide_eq_true (by first | (with_reducible assumption) | assumption)) (by have h_ : (x5_1 : Int) < ((x0_1.length : Int) : Int) := of_decide_eq_true (by first | (with_reducible assumption) | assumption); first | exact h_ | (have e_ := (Kd.R_reads' HO_0.out).1; omega) | simpa using h_) (seg := [.int .i64 x1_1]) (j := 0) hcl14 hcc14 (show 1 ≤ 6 from by decide) (x' := (⟨x1_1, (rd_T88 x0_1 x5_1).f1, (rd_T88 x0_1 x5_1).f2, (rd_T88 x0_1 x5_1).f3, (rd_T88 x0_1 x5_1).f4, (rd_T88 x0_1 x5_1).f5⟩ : S88)) (k88_mkM _ _ _ (⟨x1_1, (rd_T88 x0_1 x5_1).f1, (rd_T88 x0_1 x5_1).f2, (rd_T88 x0_1 x5_1).f3, (rd_T88 x0_1 x5_1).f4, (rd_T88 x0_1 x5_1).f5⟩ : S88) ) (fun _ hk => hk)
 have hx14_0 := hcc14 0 _ rfl
 (try simp only [show (k88).sz = 6 from rfl, Nat.mul_one, Nat.add_zero] at hx14_0)
 have hf14_0 := hfr14 0
 (try simp only [show (k88).sz = 6 from rfl, Nat.mul_one, Nat.add_zero] at hf14_0)
 clear hcl14 hcc14 hfr14 hM14
 go_wp2_with (first | ((with_reducible refine gate_store (t := 3) (p := 16) rfl ?_); refine store_event (t := 3) (p := 16) (v := ?vo_w15) (w1 := (wr.setCell ⟨go5, (x5_1 : Int).toNat * 6, none⟩ (.int .i64 x1_1))) ?hg ?ho ?hn ?hr ?_; (case ho => rfl); (case hg => rfl); (case hn => rfl); (case hr => first | (go_simp; done) | (go_simp; rfl)); intro w15 hw; have hg : wr.grownBy w15 (some go5) := (by rw [hw]; exact HP14.2); have hp_ : Kd.R k88 88 w15 w0.heap.size (fun k_ => (P0_ k_ ∨ w.heap.size ≤ k_)) (.slice (some ⟨go5, 0, none⟩) x0_1.length co13) y372 := (by rw [hw, Ny372.out]; exact HP14.1); clear HP14; replace HB := Aside0.mk ((by rw [hw]; exact below_set (HB.out) GB5.out : Below w0.heap.size w0 w15)); replace HK := Aside0.mk (Kept.of_grown (S := (fun k_ => P0_ k_)) hg (by repeat (first | (with_reducible first | exact HK.out | apply Kept.alloc | apply Kept.drewN | apply Kept.drew) | exact HK.out)) (fun k_ e_ => (HO_0.out.1 k_ e_))); replace HO_0 := Aside0.mk (hp_); clear hg hw hp_; have p6 : 0 ≤ (x5_1 : Int) := of_decide_eq_true (by first | (with_reducible assumption) | assumption); have q6 : (x5_1 : Int) < ((x0_1.length : Int) : Int) := of_decide_eq_true (by first | (with_reducible assumption) | assumption); obtain ⟨ce6, hcl6, hM6, hcc6, hfr6⟩ := Kd.R_elem HO_0.out z88 (x5_1 : Int) p6 q6; obtain rfl := k88_openM hM6; have hx6_0 : w15.cell? ⟨go5, (x5_1 : Int).toNat * 6, none⟩ = some (.int .i64 ((rd_T88 y372 x5_1).f0)) := hcc6 0 _ rfl; have hx6_1 : w15.cell? ⟨go5, (x5_1 : Int).toNat * 6 + 1, none⟩ = some (.bool ((rd_T88 y372 x5_1).f1)) := hcc6 1 _ rfl; have hx6_2 : w15.cell? ⟨go5, (x5_1 : Int).toNat * 6 + 2, none⟩ = some (.string ((rd_T88 y372 x5_1).f2)) := hcc6 2 _ rfl; have hx6_3 : w15.cell? ⟨go5, (x5_1 : Int).toNat * 6 + 3, none⟩ = some (.string ((rd_T88 y372 x5_1).f3)) := hcc6 3 _ rfl; have hx6_4 : w15.cell? ⟨go5, (x5_1 : Int).toNat * 6 + 4, none⟩ = some (.int .i64 ((rd_T88 y372 x5_1).f4)) := hcc6 4 _ rfl; have hx6_5 : w15.cell? ⟨go5, (x5_1 : Int).toNat * 6 + 5, none⟩ = some (.int .i64 ((rd_T88 y372 x5_1).f5)) := hcc6 5 _ rfl; have hf6_0 : w15.frozen? ⟨go5, (x5_1 : Int).toNat * 6, none⟩ = false := hfr6 0; have hf6_1 : w15.frozen? ⟨go5, (x5_1 : Int).toNat * 6 + 1, none⟩ = false := hfr6 1; have hf6_2 : w15.frozen? ⟨go5, (x5_1 : Int).toNat * 6 + 2, none⟩ = false := hfr6 2; have hf6_3 : w15.frozen? ⟨go5, (x5_1 : Int).toNat * 6 + 3, none⟩ = false := hfr6 3; have hf6_4 : w15.frozen? ⟨go5, (x5_1 : Int).toNat * 6 + 4, none⟩ = false := hfr6 4; have hf6_5 : w15.frozen? ⟨go5, (x5_1 : Int).toNat * 6 + 5, none⟩ = false := hfr6 5; clear hcl6 hcc6 hfr6 hM6; replace p6 := eq_true p6; replace q6 := eq_true q6; have HX16 := Aside0.mk (show Kd.R k88 88 w15 w0.heap.size (fun k_ => (P0_ k_ ∨ w.heap.size ≤ k_)) (.slice (some ⟨go5, 0, none⟩) x0_1.length co13) y372 from (kr_ HO_0.out)); obtain ⟨ce16, hcl16, hM16, hcc16, hfr16⟩ := Kd.R_elem HX16.out z88 (x5_1 : Int) (of_decide_eq_true (by first | (with_reducible assumption) | assumption)) (by have h_ : (x5_1 : Int) < ((x0_1.length : Int) : Int) := of_decide_eq_true (by first | (with_reducible assumption) | assumption); first | exact h_ | (have e_ := (Kd.R_reads' HO_0.out).1; omega) | simpa using h_); obtain rfl := k88_openM hM16; have HP16 := Kd.R_seg HX16.out (x5_1 : Int) (of_decide_eq_true (by first | (with_reducible assumption) | assumption)) (by have h_ : (x5_1 : Int) < ((x0_1.length : Int) : Int) := of_decide_eq_true (by first | (with_reducible assumption) | assumption); first | exact h_ | (have e_ := (Kd.R_reads' HO_0.out).1; omega) | simpa using h_) (seg := [.bool ((Int.tmod (wrap64 (x1_1 + 1)) 3) == 0)]) (j := 1) hcl16 hcc16 (show 2 ≤ 6 from by decide) (x' := (⟨(rd_T88 y372 x5_1).f0, ((Int.tmod (wrap64 (x1_1 + 1)) 3) == 0), (rd_T88 y372 x5_1).f2, (rd_T88 y372 x5_1).f3, (rd_T88 y372 x5_1).f4, (rd_T88 y372 x5_1).f5⟩ : S88)) (k88_mkM _ _ _ (⟨(rd_T88 y372 x5_1).f0, ((Int.tmod (wrap64 (x1_1 + 1)) 3) == 0), (rd_T88 y372 x5_1).f2, (rd_T88 y372 x5_1).f3, (rd_T88 y372 x5_1).f4, (rd_T88 y372 x5_1).f5⟩ : S88) ) (fun _ hk => hk); have hx16_1 := hcc16 1 _ rfl; (try simp only [show (k88).sz = 6 from rfl, Nat.mul_one, Nat.add_zero] at hx16_1); have hf16_1 := hfr16 1; (try simp only [show (k88).sz = 6 from rfl, Nat.mul_one, Nat.add_zero] at hf16_1); clear hcl16 hcc16 hfr16 hM16) | ((with_reducible refine gate_store (t := 4) (p := 25) rfl ?_); refine store_event (t := 4) (p := 25) (v := ?vo_w17) (w1 := (w15.setCell ⟨go5, (x5_1 : Int).toNat * 6 + 1, none⟩ (.bool ((Int.tmod (wrap64 (x1_1 + 1)) 3) == 0)))) ?hg ?ho ?hn ?hr ?_; (case ho => rfl); (case hg => rfl); (case hn => rfl); (case hr => first | (go_simp; done) | (go_simp; rfl)); intro w17 hw; have hg : w15.grownBy w17 (some go5) := (by rw [hw]; exact HP16.2); have hp_ : Kd.R k88 88 w17 w0.heap.size (fun k_ => (P0_ k_ ∨ w.heap.size ≤ k_)) (.slice (some ⟨go5, 0, none⟩) x0_1.length co13) y373 := (by rw [hw, Ny373.out]; exact HP16.1); clear HP16; replace HB := Aside0.mk ((by rw [hw]; exact below_set (HB.out) GB5.out : Below w0.heap.size w0 w17)); replace HK := Aside0.mk (Kept.of_grown (S := (fun k_ => P0_ k_)) hg (by repeat (first | (with_reducible first | exact HK.out | apply Kept.alloc | apply Kept.drewN | apply Kept.drew) | exact HK.out)) (fun k_ e_ => (HO_0.out.1 k_ e_))); replace HO_0 := Aside0.mk (hp_); clear hg hw hp_) | ((with_reducible refine gate_callee (f := 63) rfl ?_); refine goesL_ (some 31) rfl rfl Try.func63 (by kernel_rfl) rfl #[.int .i64 (wrap64 ((wrap64 (x1_1 + 1)) + 1))] rfl nc_ ?_; (with_reducible refine (laws_markText.calls k1 (wrap64 ((wrap64 (x1_1 + 1)) + 1)) t374 _ A7.out).mono ?_); rintro e w18 ⟨rfl, hb⟩; refine ⟨_, rfl, ?_⟩; replace HO_0 := rb_ HO_0 hb; replace HK := Aside0.mk (Kept.below (S := (fun k_ => P0_ k_)) (by repeat (first | (with_reducible first | exact HK.out | apply Kept.alloc | apply Kept.drewN | apply Kept.drew) | exact HK.out)) hb); replace HB := Aside0.mk (below_step bl_ hb); clear hb; have p8 : 0 ≤ (x5_1 : Int) := of_decide_eq_true (by first | (with_reducible assumption) | assumption); have q8 : (x5_1 : Int) < ((x0_1.length : Int) : Int) := of_decide_eq_true (by first | (with_reducible assumption) | assumption); obtain ⟨ce8, hcl8, hM8, hcc8, hfr8⟩ := Kd.R_elem HO_0.out z88 (x5_1 : Int) p8 q8; obtain rfl := k88_openM hM8; have hx8_0 : w18.cell? ⟨go5, (x5_1 : Int).toNat * 6, none⟩ = some (.int .i64 ((rd_T88 y373 x5_1).f0)) := hcc8 0 _ rfl; have hx8_1 : w18.cell? ⟨go5, (x5_1 : Int).toNat * 6 + 1, none⟩ = some (.bool ((rd_T88 y373 x5_1).f1)) := hcc8 1 _ rfl; have hx8_2 : w18.cell? ⟨go5, (x5_1 : Int).toNat * 6 + 2, none⟩ = some (.string ((rd_T88 y373 x5_1).f2)) := hcc8 2 _ rfl; have hx8_3 : w18.cell? ⟨go5, (x5_1 : Int).toNat * 6 + 3, none⟩ = some (.string ((rd_T88 y373 x5_1).f3)) := hcc8 3 _ rfl; have hx8_4 : w18.cell? ⟨go5, (x5_1 : Int).toNat * 6 + 4, none⟩ = some (.int .i64 ((rd_T88 y373 x5_1).f4)) := hcc8 4 _ rfl; have hx8_5 : w18.cell? ⟨go5, (x5_1 : Int).toNat * 6 + 5, none⟩ = some (.int .i64 ((rd_T88 y373 x5_1).f5)) := hcc8 5 _ rfl; have hf8_0 : w18.frozen? ⟨go5, (x5_1 : Int).toNat * 6, none⟩ = false := hfr8 0; have hf8_1 : w18.frozen? ⟨go5, (x5_1 : Int).toNat * 6 + 1, none⟩ = false := hfr8 1; have hf8_2 : w18.frozen? ⟨go5, (x5_1 : Int).toNat * 6 + 2, none⟩ = false := hfr8 2; have hf8_3 : w18.frozen? ⟨go5, (x5_1 : Int).toNat * 6 + 3, none⟩ = false := hfr8 3; have hf8_4 : w18.frozen? ⟨go5, (x5_1 : Int).toNat * 6 + 4, none⟩ = false := hfr8 4; have hf8_5 : w18.frozen? ⟨go5, (x5_1 : Int).toNat * 6 + 5, none⟩ = false := hfr8 5; clear hcl8 hcc8 hfr8 hM8; replace p8 := eq_true p8; replace q8 := eq_true q8; have HX19 := Aside0.mk (show Kd.R k88 88 w18 w0.heap.size (fun k_ => (P0_ k_ ∨ w.heap.size ≤ k_)) (.slice (some ⟨go5, 0, none⟩) x0_1.length co13) y373 from (kr_ HO_0.out)); obtain ⟨ce19, hcl19, hM19, hcc19, hfr19⟩ := Kd.R_elem HX19.out z88 (x5_1 : Int) (of_decide_eq_true (by first | (with_reducible assumption) | assumption)) (by have h_ : (x5_1 : Int) < ((x0_1.length : Int) : Int) := of_decide_eq_true (by first | (with_reducible assumption) | assumption); first | exact h_ | (have e_ := (Kd.R_reads' HO_0.out).1; omega) | simpa using h_); obtain rfl := k88_openM hM19; have HP19 := Kd.R_seg HX19.out (x5_1 : Int) (of_decide_eq_true (by first | (with_reducible assumption) | assumption)) (by have h_ : (x5_1 : Int) < ((x0_1.length : Int) : Int) := of_decide_eq_true (by first | (with_reducible assumption) | assumption); first | exact h_ | (have e_ := (Kd.R_reads' HO_0.out).1; omega) | simpa using h_) (seg := [.string t374]) (j := 2) hcl19 hcc19 (show 3 ≤ 6 from by decide) (x' := (⟨(rd_T88 y373 x5_1).f0, (rd_T88 y373 x5_1).f1, t374, (rd_T88 y373 x5_1).f3, (rd_T88 y373 x5_1).f4, (rd_T88 y373 x5_1).f5⟩ : S88)) (k88_mkM _ _ _ (⟨(rd_T88 y373 x5_1).f0, (rd_T88 y373 x5_1).f1, t374, (rd_T88 y373 x5_1).f3, (rd_T88 y373 x5_1).f4, (rd_T88 y373 x5_1).f5⟩ : S88) ) (fun _ hk => hk); have hx19_2 := hcc19 2 _ rfl; (try simp only [show (k88).sz = 6 from rfl, Nat.mul_one, Nat.add_zero] at hx19_2); have hf19_2 := hfr19 2; (try simp only [show (k88).sz = 6 from rfl, Nat.mul_one, Nat.add_zero] at hf19_2); clear hcl19 hcc19 hfr19 hM19) | ((with_reducible refine gate_store (t := 9) (p := 33) rfl ?_); refine store_event (t := 9) (p := 33) (v := ?vo_w20) (w1 := (w18.setCell ⟨go5, (x5_1 : Int).toNat * 6 + 2, none⟩ (.string t374))) ?hg ?ho ?hn ?hr ?_; (case ho => rfl); (case hg => rfl); (case hn => rfl); (case hr => first | (go_simp; done) | (go_simp; rfl)); intro w20 hw; have hg : w18.grownBy w20 (some go5) := (by rw [hw]; exact HP19.2); have hp_ : Kd.R k88 88 w20 w0.heap.size (fun k_ => (P0_ k_ ∨ w.heap.size ≤ k_)) (.slice (some ⟨go5, 0, none⟩) x0_1.length co13) y375 := (by rw [hw, Ny375.out]; exact HP19.1); clear HP19; replace HB := Aside0.mk ((by rw [hw]; exact below_set (HB.out) GB5.out : Below w0.heap.size w0 w20)); replace HK := Aside0.mk (Kept.of_grown (S := (fun k_ => P0_ k_)) hg (by repeat (first | (with_reducible first | exact HK.out | apply Kept.alloc | apply Kept.drewN | apply Kept.drew) | exact HK.out)) (fun k_ e_ => (HO_0.out.1 k_ e_))); replace HO_0 := Aside0.mk (hp_); clear hg hw hp_) | ((with_reducible refine gate_callee (f := 63) rfl ?_); refine goesL_ (some 39) rfl rfl Try.func63 (by kernel_rfl) rfl #[.int .i64 (wrap64 ((wrap64 ((wrap64 (x1_1 + 1)) + 1)) + 1))] rfl nc_ ?_; (with_reducible refine (laws_markText.calls k1 (wrap64 ((wrap64 ((wrap64 (x1_1 + 1)) + 1)) + 1)) t376 _ A9.out).mono ?_); rintro e w21 ⟨rfl, hb⟩; refine ⟨_, rfl, ?_⟩; replace HO_0 := rb_ HO_0 hb; replace HK := Aside0.mk (Kept.below (S := (fun k_ => P0_ k_)) (by repeat (first | (with_reducible first | exact HK.out | apply Kept.alloc | apply Kept.drewN | apply Kept.drew) | exact HK.out)) hb); replace HB := Aside0.mk (below_step bl_ hb); clear hb; have p10 : 0 ≤ (x5_1 : Int) := of_decide_eq_true (by first | (with_reducible assumption) | assumption); have q10 : (x5_1 : Int) < ((x0_1.length : Int) : Int) := of_decide_eq_true (by first | (with_reducible assumption) | assumption); obtain ⟨ce10, hcl10, hM10, hcc10, hfr10⟩ := Kd.R_elem HO_0.out z88 (x5_1 : Int) p10 q10; obtain rfl := k88_openM hM10; have hx10_0 : w21.cell? ⟨go5, (x5_1 : Int).toNat * 6, none⟩ = some (.int .i64 ((rd_T88 y375 x5_1).f0)) := hcc10 0 _ rfl; have hx10_1 : w21.cell? ⟨go5, (x5_1 : Int).toNat * 6 + 1, none⟩ = some (.bool ((rd_T88 y375 x5_1).f1)) := hcc10 1 _ rfl; have hx10_2 : w21.cell? ⟨go5, (x5_1 : Int).toNat * 6 + 2, none⟩ = some (.string ((rd_T88 y375 x5_1).f2)) := hcc10 2 _ rfl; have hx10_3 : w21.cell? ⟨go5, (x5_1 : Int).toNat * 6 + 3, none⟩ = some (.string ((rd_T88 y375 x5_1).f3)) := hcc10 3 _ rfl; have hx10_4 : w21.cell? ⟨go5, (x5_1 : Int).toNat * 6 + 4, none⟩ = some (.int .i64 ((rd_T88 y375 x5_1).f4)) := hcc10 4 _ rfl; have hx10_5 : w21.cell? ⟨go5, (x5_1 : Int).toNat * 6 + 5, none⟩ = some (.int .i64 ((rd_T88 y375 x5_1).f5)) := hcc10 5 _ rfl; have hf10_0 : w21.frozen? ⟨go5, (x5_1 : Int).toNat * 6, none⟩ = false := hfr10 0; have hf10_1 : w21.frozen? ⟨go5, (x5_1 : Int).toNat * 6 + 1, none⟩ = false := hfr10 1; have hf10_2 : w21.frozen? ⟨go5, (x5_1 : Int).toNat * 6 + 2, none⟩ = false := hfr10 2; have hf10_3 : w21.frozen? ⟨go5, (x5_1 : Int).toNat * 6 + 3, none⟩ = false := hfr10 3; have hf10_4 : w21.frozen? ⟨go5, (x5_1 : Int).toNat * 6 + 4, none⟩ = false := hfr10 4; have hf10_5 : w21.frozen? ⟨go5, (x5_1 : Int).toNat * 6 + 5, none⟩ = false := hfr10 5; clear hcl10 hcc10 hfr10 hM10; replace p10 := eq_true p10; replace q10 := eq_true q10; have HX22 := Aside0.mk (show Kd.R k88 88 w21 w0.heap.size (fun k_ => (P0_ k_ ∨ w.heap.size ≤ k_)) (.slice (some ⟨go5, 0, none⟩) x0_1.length co13) y375 from (kr_ HO_0.out)); obtain ⟨ce22, hcl22, hM22, hcc22, hfr22⟩ := Kd.R_elem HX22.out z88 (x5_1 : Int) (of_decide_eq_true (by first | (with_reducible assumption) | assumption)) (by have h_ : (x5_1 : Int) < ((x0_1.length : Int) : Int) := of_decide_eq_true (by first | (with_reducible assumption) | assumption); first | exact h_ | (have e_ := (Kd.R_reads' HO_0.out).1; omega) | simpa using h_); obtain rfl := k88_openM hM22; have HP22 := Kd.R_seg HX22.out (x5_1 : Int) (of_decide_eq_true (by first | (with_reducible assumption) | assumption)) (by have h_ : (x5_1 : Int) < ((x0_1.length : Int) : Int) := of_decide_eq_true (by first | (with_reducible assumption) | assumption); first | exact h_ | (have e_ := (Kd.R_reads' HO_0.out).1; omega) | simpa using h_) (seg := [.string t376]) (j := 3) hcl22 hcc22 (show 4 ≤ 6 from by decide) (x' := (⟨(rd_T88 y375 x5_1).f0, (rd_T88 y375 x5_1).f1, (rd_T88 y375 x5_1).f2, t376, (rd_T88 y375 x5_1).f4, (rd_T88 y375 x5_1).f5⟩ : S88)) (k88_mkM _ _ _ (⟨(rd_T88 y375 x5_1).f0, (rd_T88 y375 x5_1).f1, (rd_T88 y375 x5_1).f2, t376, (rd_T88 y375 x5_1).f4, (rd_T88 y375 x5_1).f5⟩ : S88) ) (fun _ hk => hk); have hx22_3 := hcc22 3 _ rfl; (try simp only [show (k88).sz = 6 from rfl, Nat.mul_one, Nat.add_zero] at hx22_3); have hf22_3 := hfr22 3; (try simp only [show (k88).sz = 6 from rfl, Nat.mul_one, Nat.add_zero] at hf22_3); clear hcl22 hcc22 hfr22 hM22) | ((with_reducible refine gate_store (t := 9) (p := 41) rfl ?_); refine store_event (t := 9) (p := 41) (v := ?vo_w23) (w1 := (w21.setCell ⟨go5, (x5_1 : Int).toNat * 6 + 3, none⟩ (.string t376))) ?hg ?ho ?hn ?hr ?_; (case ho => rfl); (case hg => rfl); (case hn => rfl); (case hr => first | (go_simp; done) | (go_simp; rfl)); intro w23 hw; have hg : w21.grownBy w23 (some go5) := (by rw [hw]; exact HP22.2); have hp_ : Kd.R k88 88 w23 w0.heap.size (fun k_ => (P0_ k_ ∨ w.heap.size ≤ k_)) (.slice (some ⟨go5, 0, none⟩) x0_1.length co13) y377 := (by rw [hw, Ny377.out]; exact HP22.1); clear HP22; replace HB := Aside0.mk ((by rw [hw]; exact below_set (HB.out) GB5.out : Below w0.heap.size w0 w23)); replace HK := Aside0.mk (Kept.of_grown (S := (fun k_ => P0_ k_)) hg (by repeat (first | (with_reducible first | exact HK.out | apply Kept.alloc | apply Kept.drewN | apply Kept.drew) | exact HK.out)) (fun k_ e_ => (HO_0.out.1 k_ e_))); replace HO_0 := Aside0.mk (hp_); clear hg hw hp_; have p11 : 0 ≤ (x5_1 : Int) := of_decide_eq_true (by first | (with_reducible assumption) | assumption); have q11 : (x5_1 : Int) < ((x0_1.length : Int) : Int) := of_decide_eq_true (by first | (with_reducible assumption) | assumption); obtain ⟨ce11, hcl11, hM11, hcc11, hfr11⟩ := Kd.R_elem HO_0.out z88 (x5_1 : Int) p11 q11; obtain rfl := k88_openM hM11; have hx11_0 : w23.cell? ⟨go5, (x5_1 : Int).toNat * 6, none⟩ = some (.int .i64 ((rd_T88 y377 x5_1).f0)) := hcc11 0 _ rfl; have hx11_1 : w23.cell? ⟨go5, (x5_1 : Int).toNat * 6 + 1, none⟩ = some (.bool ((rd_T88 y377 x5_1).f1)) := hcc11 1 _ rfl; have hx11_2 : w23.cell? ⟨go5, (x5_1 : Int).toNat * 6 + 2, none⟩ = some (.string ((rd_T88 y377 x5_1).f2)) := hcc11 2 _ rfl; have hx11_3 : w23.cell? ⟨go5, (x5_1 : Int).toNat * 6 + 3, none⟩ = some (.string ((rd_T88 y377 x5_1).f3)) := hcc11 3 _ rfl; have hx11_4 : w23.cell? ⟨go5, (x5_1 : Int).toNat * 6 + 4, none⟩ = some (.int .i64 ((rd_T88 y377 x5_1).f4)) := hcc11 4 _ rfl; have hx11_5 : w23.cell? ⟨go5, (x5_1 : Int).toNat * 6 + 5, none⟩ = some (.int .i64 ((rd_T88 y377 x5_1).f5)) := hcc11 5 _ rfl; have hf11_0 : w23.frozen? ⟨go5, (x5_1 : Int).toNat * 6, none⟩ = false := hfr11 0; have hf11_1 : w23.frozen? ⟨go5, (x5_1 : Int).toNat * 6 + 1, none⟩ = false := hfr11 1; have hf11_2 : w23.frozen? ⟨go5, (x5_1 : Int).toNat * 6 + 2, none⟩ = false := hfr11 2; have hf11_3 : w23.frozen? ⟨go5, (x5_1 : Int).toNat * 6 + 3, none⟩ = false := hfr11 3; have hf11_4 : w23.frozen? ⟨go5, (x5_1 : Int).toNat * 6 + 4, none⟩ = false := hfr11 4; have hf11_5 : w23.frozen? ⟨go5, (x5_1 : Int).toNat * 6 + 5, none⟩ = false := hfr11 5; clear hcl11 hcc11 hfr11 hM11; replace p11 := eq_true p11; replace q11 := eq_true q11; have HX24 := Aside0.mk (show Kd.R k88 88 w23 w0.heap.size (fun k_ => (P0_ k_ ∨ w.heap.size ≤ k_)) (.slice (some ⟨go5, 0, none⟩) x0_1.length co13) y377 from (kr_ HO_0.out)); obtain ⟨ce24, hcl24, hM24, hcc24, hfr24⟩ := Kd.R_elem HX24.out z88 (x5_1 : Int) (of_decide_eq_true (by first | (with_reducible assumption) | assumption)) (by have h_ : (x5_1 : Int) < ((x0_1.length : Int) : Int) := of_decide_eq_true (by first | (with_reducible assumption) | assumption); first | exact h_ | (have e_ := (Kd.R_reads' HO_0.out).1; omega) | simpa using h_); obtain rfl := k88_openM hM24; have HP24 := Kd.R_seg HX24.out (x5_1 : Int) (of_decide_eq_true (by first | (with_reducible assumption) | assumption)) (by have h_ : (x5_1 : Int) < ((x0_1.length : Int) : Int) := of_decide_eq_true (by first | (with_reducible assumption) | assumption); first | exact h_ | (have e_ := (Kd.R_reads' HO_0.out).1; omega) | simpa using h_) (seg := [.int .i64 (wrap64 ((wrap64 ((wrap64 ((wrap64 (x1_1 + 1)) + 1)) + 1)) + 1))]) (j := 4) hcl24 hcc24 (show 5 ≤ 6 from by decide) (x' := (⟨(rd_T88 y377 x5_1).f0, (rd_T88 y377 x5_1).f1, (rd_T88 y377 x5_1).f2, (rd_T88 y377 x5_1).f3, wrap64 ((wrap64 ((wrap64 ((wrap64 (x1_1 + 1)) + 1)) + 1)) + 1), (rd_T88 y377 x5_1).f5⟩ : S88)) (k88_mkM _ _ _ (⟨(rd_T88 y377 x5_1).f0, (rd_T88 y377 x5_1).f1, (rd_T88 y377 x5_1).f2, (rd_T88 y377 x5_1).f3, wrap64 ((wrap64 ((wrap64 ((wrap64 (x1_1 + 1)) + 1)) + 1)) + 1), (rd_T88 y377 x5_1).f5⟩ : S88) ) (fun _ hk => hk); have hx24_4 := hcc24 4 _ rfl; (try simp only [show (k88).sz = 6 from rfl, Nat.mul_one, Nat.add_zero] at hx24_4); have hf24_4 := hfr24 4; (try simp only [show (k88).sz = 6 from rfl, Nat.mul_one, Nat.add_zero] at hf24_4); clear hcl24 hcc24 hfr24 hM24) | ((with_reducible refine gate_store (t := 3) (p := 48) rfl ?_); refine store_event (t := 3) (p := 48) (v := ?vo_w25) (w1 := (w23.setCell ⟨go5, (x5_1 : Int).toNat * 6 + 4, none⟩ (.int .i64 (wrap64 ((wrap64 ((wrap64 ((wrap64 (x1_1 + 1)) + 1)) + 1)) + 1))))) ?hg ?ho ?hn ?hr ?_; (case ho => rfl); (case hg => rfl); (case hn => rfl); (case hr => first | (go_simp; done) | (go_simp; rfl)); intro w25 hw; have hg : w23.grownBy w25 (some go5) := (by rw [hw]; exact HP24.2); have hp_ : Kd.R k88 88 w25 w0.heap.size (fun k_ => (P0_ k_ ∨ w.heap.size ≤ k_)) (.slice (some ⟨go5, 0, none⟩) x0_1.length co13) y378 := (by rw [hw, Ny378.out]; exact HP24.1); clear HP24; replace HB := Aside0.mk ((by rw [hw]; exact below_set (HB.out) GB5.out : Below w0.heap.size w0 w25)); replace HK := Aside0.mk (Kept.of_grown (S := (fun k_ => P0_ k_)) hg (by repeat (first | (with_reducible first | exact HK.out | apply Kept.alloc | apply Kept.drewN | apply Kept.drew) | exact HK.out)) (fun k_ e_ => (HO_0.out.1 k_ e_))); replace HO_0 := Aside0.mk (hp_); clear hg hw hp_; have p12 : 0 ≤ (x5_1 : Int) := of_decide_eq_true (by first | (with_reducible assumption) | assumption); have q12 : (x5_1 : Int) < ((x0_1.length : Int) : Int) := of_decide_eq_true (by first | (with_reducible assumption) | assumption); obtain ⟨ce12, hcl12, hM12, hcc12, hfr12⟩ := Kd.R_elem HO_0.out z88 (x5_1 : Int) p12 q12; obtain rfl := k88_openM hM12; have hx12_0 : w25.cell? ⟨go5, (x5_1 : Int).toNat * 6, none⟩ = some (.int .i64 ((rd_T88 y378 x5_1).f0)) := hcc12 0 _ rfl; have hx12_1 : w25.cell? ⟨go5, (x5_1 : Int).toNat * 6 + 1, none⟩ = some (.bool ((rd_T88 y378 x5_1).f1)) := hcc12 1 _ rfl; have hx12_2 : w25.cell? ⟨go5, (x5_1 : Int).toNat * 6 + 2, none⟩ = some (.string ((rd_T88 y378 x5_1).f2)) := hcc12 2 _ rfl; have hx12_3 : w25.cell? ⟨go5, (x5_1 : Int).toNat * 6 + 3, none⟩ = some (.string ((rd_T88 y378 x5_1).f3)) := hcc12 3 _ rfl; have hx12_4 : w25.cell? ⟨go5, (x5_1 : Int).toNat * 6 + 4, none⟩ = some (.int .i64 ((rd_T88 y378 x5_1).f4)) := hcc12 4 _ rfl; have hx12_5 : w25.cell? ⟨go5, (x5_1 : Int).toNat * 6 + 5, none⟩ = some (.int .i64 ((rd_T88 y378 x5_1).f5)) := hcc12 5 _ rfl; have hf12_0 : w25.frozen? ⟨go5, (x5_1 : Int).toNat * 6, none⟩ = false := hfr12 0; have hf12_1 : w25.frozen? ⟨go5, (x5_1 : Int).toNat * 6 + 1, none⟩ = false := hfr12 1; have hf12_2 : w25.frozen? ⟨go5, (x5_1 : Int).toNat * 6 + 2, none⟩ = false := hfr12 2; have hf12_3 : w25.frozen? ⟨go5, (x5_1 : Int).toNat * 6 + 3, none⟩ = false := hfr12 3; have hf12_4 : w25.frozen? ⟨go5, (x5_1 : Int).toNat * 6 + 4, none⟩ = false := hfr12 4; have hf12_5 : w25.frozen? ⟨go5, (x5_1 : Int).toNat * 6 + 5, none⟩ = false := hfr12 5; clear hcl12 hcc12 hfr12 hM12; replace p12 := eq_true p12; replace q12 := eq_true q12; have HX26 := Aside0.mk (show Kd.R k88 88 w25 w0.heap.size (fun k_ => (P0_ k_ ∨ w.heap.size ≤ k_)) (.slice (some ⟨go5, 0, none⟩) x0_1.length co13) y378 from (kr_ HO_0.out)); obtain ⟨ce26, hcl26, hM26, hcc26, hfr26⟩ := Kd.R_elem HX26.out z88 (x5_1 : Int) (of_decide_eq_true (by first | (with_reducible assumption) | assumption)) (by have h_ : (x5_1 : Int) < ((x0_1.length : Int) : Int) := of_decide_eq_true (by first | (with_reducible assumption) | assumption); first | exact h_ | (have e_ := (Kd.R_reads' HO_0.out).1; omega) | simpa using h_); obtain rfl := k88_openM hM26; have HP26 := Kd.R_seg HX26.out (x5_1 : Int) (of_decide_eq_true (by first | (with_reducible assumption) | assumption)) (by have h_ : (x5_1 : Int) < ((x0_1.length : Int) : Int) := of_decide_eq_true (by first | (with_reducible assumption) | assumption); first | exact h_ | (have e_ := (Kd.R_reads' HO_0.out).1; omega) | simpa using h_) (seg := [.int .i64 (wrap64 ((wrap64 ((wrap64 ((wrap64 ((wrap64 (x1_1 + 1)) + 1)) + 1)) + 1)) + 1))]) (j := 5) hcl26 hcc26 (show 6 ≤ 6 from by decide) (x' := (⟨(rd_T88 y378 x5_1).f0, (rd_T88 y378 x5_1).f1, (rd_T88 y378 x5_1).f2, (rd_T88 y378 x5_1).f3, (rd_T88 y378 x5_1).f4, wrap64 ((wrap64 ((wrap64 ((wrap64 ((wrap64 (x1_1 + 1)) + 1)) + 1)) + 1)) + 1)⟩ : S88)) (k88_mkM _ _ _ (⟨(rd_T88 y378 x5_1).f0, (rd_T88 y378 x5_1).f1, (rd_T88 y378 x5_1).f2, (rd_T88 y378 x5_1).f3, (rd_T88 y378 x5_1).f4, wrap64 ((wrap64 ((wrap64 ((wrap64 ((wrap64 (x1_1 + 1)) + 1)) + 1)) + 1)) + 1)⟩ : S88) ) (fun _ hk => hk); have hx26_5 := hcc26 5 _ rfl; (try simp only [show (k88).sz = 6 from rfl, Nat.mul_one, Nat.add_zero] at hx26_5); have hf26_5 := hfr26 5; (try simp only [show (k88).sz = 6 from rfl, Nat.mul_one, Nat.add_zero] at hf26_5); clear hcl26 hcc26 hfr26 hM26) | ((with_reducible refine gate_store (t := 3) (p := 55) rfl ?_); refine store_event (t := 3) (p := 55) (v := ?vo_w27) (w1 := (w25.setCell ⟨go5, (x5_1 : Int).toNat * 6 + 5, none⟩ (.int .i64 (wrap64 ((wrap64 ((wrap64 ((wrap64 ((wrap64 (x1_1 + 1)) + 1)) + 1)) + 1)) + 1))))) ?hg ?ho ?hn ?hr ?_; (case ho => rfl); (case hg => rfl); (case hn => rfl); (case hr => first | (go_simp; done) | (go_simp; rfl)); intro w27 hw; have hg : w25.grownBy w27 (some go5) := (by rw [hw]; exact HP26.2); have hp_ : Kd.R k88 88 w27 w0.heap.size (fun k_ => (P0_ k_ ∨ w.heap.size ≤ k_)) (.slice (some ⟨go5, 0, none⟩) x0_1.length co13) y379 := (by rw [hw, Ny379.out]; exact HP26.1); clear HP26; replace HB := Aside0.mk ((by rw [hw]; exact below_set (HB.out) GB5.out : Below w0.heap.size w0 w27)); replace HK := Aside0.mk (Kept.of_grown (S := (fun k_ => P0_ k_)) hg (by repeat (first | (with_reducible first | exact HK.out | apply Kept.alloc | apply Kept.drewN | apply Kept.drew) | exact HK.out)) (fun k_ e_ => (HO_0.out.1 k_ e_))); replace HO_0 := Aside0.mk (hp_); clear hg hw hp_))
 go_roundg k1
 case measure => have := HK1.out; omega
 case rel => exact ⟨(y379), (wrap64 ((wrap64 ((wrap64 ((wrap64 ((wrap64 ((wrap64 (x1_1 + 1)) + 1)) + 1)) + 1)) + 1)) + 1)), (wrap64 (x5_1 + 1)), (by first | rfl | (simp; done) | (simp [*]; done)), (by first | rfl | (simp; done) | (simp [*]; done)), H', ⟨by have := HK1.out; omega⟩, ⟨by exact kr_ HO_0.out⟩, ⟨by repeat (first | (with_reducible first | exact HK.out | apply Kept.alloc | apply Kept.drewN | apply Kept.drew) | exact HK.out)⟩, ⟨bl_⟩⟩

end Go.Proofs.Ytipfikmbldgliaa.PRG
