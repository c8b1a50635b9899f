/- What this text proves: the machine calls of these functions return what the plain functions say. Conditions: as each theorem says. Printed by a program of this session out of the translation. -/
import Derived.Test.YtipfikmbldgliaaPNXx0
import Derived.Test.YtipfikmbldgliaaPNXx3
import Derived.Test.YtipfikmbldgliaaPNXx6
import Derived.Test.YtipfikmbldgliaaPNXx9
import Derived.Test.YtipfikmbldgliaaPNXx10
namespace Go.Proofs.Ytipfikmbldgliaa.PNX
open Go.RowKit Go.Proofs.YtipfikmbldgliaaW.PrintWords Go.Proofs.YtipfikmbldgliaaW.PrintLast Go.Proofs.YtipfikmbldgliaaW.PrintMore
attribute [local go_sem] max2_int min2_int max_two min_two max_three min_three max_four min_four   -- for this text's walks alone
set_option linter.unusedVariables false
set_option linter.unusedSimpArgs false

/-! ### impl_TotalOf: function 41 -/
mutual
def impl_TotalOf.l0 : Nat → Int → List (S92) → Int → Int → List (S92) → List (S95) → Option (Int × Bool)
 | 0, _, _, _, _, _, _ => none
 | k + 1, x4, x15, x16, x17, x289000, x289001 => if x17 < x16 then (if 0 ≤ x17 then (if x17 < (x15.length : Int) then (impl_TotalOf.l0 k (wrap64 (x4 + ((rd_T92 x15 x17).f0))) x15 x16 (wrap64 (x17 + 1)) x289000 x289001) else (none)) else (none)) else (impl_TotalOf.l1 k x4 x289001 (x289001.length : Int) 0)
def impl_TotalOf.l1 : Nat → Int → List (S95) → Int → Int → Option (Int × Bool)
 | 0, _, _, _, _ => none
 | k + 1, x4, x27, x28, x29 => if x29 < x28 then (if 0 ≤ x29 then (if x29 < (x27.length : Int) then (impl_TotalOf.l2 k x4 x27 x28 x29 ((rd_T95 x27 x29).f2) (((rd_T95 x27 x29).f2).length : Int) 0) else (none)) else (none)) else (some (x4, true))
def impl_TotalOf.l2 : Nat → Int → List (S95) → Int → Int → List (S103) → Int → Int → Option (Int × Bool)
 | 0, _, _, _, _, _, _, _ => none
 | k + 1, x4, x27, x28, x29, x34, x35, x36 => if x36 < x35 then (if 0 ≤ x36 then (if x36 < (x34.length : Int) then (impl_TotalOf.l2 k (wrap64 (x4 + ((rd_T103 x34 x36).f1))) x27 x28 x29 x34 x35 (wrap64 (x36 + 1))) else (none)) else (none)) else (impl_TotalOf.l1 k x4 x27 x28 (wrap64 (x29 + 1)))
end
def impl_TotalOf.f (k : Nat) (l0_0 : List (S92)) (l0_1 : List (S95)) : Option (Int × Bool) := (impl_isNet.f k l0_0 l0_1).bind fun t289 => (if t289 = true then (impl_TotalOf.l0 k 0 l0_0 (l0_0.length : Int) 0 l0_0 l0_1) else (some (0, false)))
theorem impl_TotalOf.mono_l : ∀ k, (∀ y0 y1 y2 y3 y4 y5, LeO (impl_TotalOf.l0 k y0 y1 y2 y3 y4 y5) (impl_TotalOf.l0 (k + 1) y0 y1 y2 y3 y4 y5)) ∧ (∀ y0 y1 y2 y3, LeO (impl_TotalOf.l1 k y0 y1 y2 y3) (impl_TotalOf.l1 (k + 1) y0 y1 y2 y3)) ∧ (∀ y0 y1 y2 y3 y4 y5 y6, LeO (impl_TotalOf.l2 k y0 y1 y2 y3 y4 y5 y6) (impl_TotalOf.l2 (k + 1) y0 y1 y2 y3 y4 y5 y6))
 | 0 => ⟨fun _ _ _ _ _ _ r h => by simp [impl_TotalOf.l0] at h, fun _ _ _ _ r h => by simp [impl_TotalOf.l1] at h, fun _ _ _ _ _ _ _ r h => by simp [impl_TotalOf.l2] at h⟩
 | k + 1 => by
  obtain ⟨ih0, ih1, ih2⟩ := impl_TotalOf.mono_l k
  refine ⟨?_, ?_, ?_⟩
  ·intro y0 y1 y2 y3 y4 y5
   unfold impl_TotalOf.l0
   repeat' first
   | (with_reducible exact ih0 _ _ _ _ _ _)
   | (with_reducible exact ih1 _ _ _ _)
   | (with_reducible exact ih2 _ _ _ _ _ _ _)
   | (with_reducible exact impl_isNet.mono _ _ _)
   | (with_reducible exact LeO.refl _)
   | (with_reducible exact LeO.none _)
   | (with_reducible refine LeO.ite ?_ ?_)
   | (with_reducible refine LeO.bind ?_ (fun _ => ?_))
   | exact ih0 _ _ _ _ _ _
   | exact ih1 _ _ _ _
   | exact ih2 _ _ _ _ _ _ _
   | exact impl_isNet.mono _ _ _
   | exact LeO.none _
   | refine LeO.ite ?_ ?_
   | refine LeO.bind ?_ (fun _ => ?_)
  ·intro y0 y1 y2 y3
   unfold impl_TotalOf.l1
   repeat' first
   | (with_reducible exact ih0 _ _ _ _ _ _)
   | (with_reducible exact ih1 _ _ _ _)
   | (with_reducible exact ih2 _ _ _ _ _ _ _)
   | (with_reducible exact impl_isNet.mono _ _ _)
   | (with_reducible exact LeO.refl _)
   | (with_reducible exact LeO.none _)
   | (with_reducible refine LeO.ite ?_ ?_)
   | (with_reducible refine LeO.bind ?_ (fun _ => ?_))
   | exact ih0 _ _ _ _ _ _
   | exact ih1 _ _ _ _
   | exact ih2 _ _ _ _ _ _ _
   | exact impl_isNet.mono _ _ _
   | exact LeO.none _
   | refine LeO.ite ?_ ?_
   | refine LeO.bind ?_ (fun _ => ?_)
  ·intro y0 y1 y2 y3 y4 y5 y6
   unfold impl_TotalOf.l2
   repeat' first
   | (with_reducible exact ih0 _ _ _ _ _ _)
   | (with_reducible exact ih1 _ _ _ _)
   | (with_reducible exact ih2 _ _ _ _ _ _ _)
   | (with_reducible exact impl_isNet.mono _ _ _)
   | (with_reducible exact LeO.refl _)
   | (with_reducible exact LeO.none _)
   | (with_reducible refine LeO.ite ?_ ?_)
   | (with_reducible refine LeO.bind ?_ (fun _ => ?_))
   | exact ih0 _ _ _ _ _ _
   | exact ih1 _ _ _ _
   | exact ih2 _ _ _ _ _ _ _
   | exact impl_isNet.mono _ _ _
   | exact LeO.none _
   | refine LeO.ite ?_ ?_
   | refine LeO.bind ?_ (fun _ => ?_)
theorem impl_TotalOf.mono : ∀ a0 a1 k, LeO (impl_TotalOf.f k a0 a1) (impl_TotalOf.f (k + 1) a0 a1) := by
 intro a0 a1 k
 obtain ⟨ih0, ih1, ih2⟩ := impl_TotalOf.mono_l k
 unfold impl_TotalOf.f
 repeat' first
   | (with_reducible exact ih0 _ _ _ _ _ _)
   | (with_reducible exact ih1 _ _ _ _)
   | (with_reducible exact ih2 _ _ _ _ _ _ _)
   | (with_reducible exact impl_isNet.mono _ _ _)
   | (with_reducible exact LeO.refl _)
   | (with_reducible exact LeO.none _)
   | (with_reducible refine LeO.ite ?_ ?_)
   | (with_reducible refine LeO.bind ?_ (fun _ => ?_))
   | exact ih0 _ _ _ _ _ _
   | exact ih1 _ _ _ _
   | exact ih2 _ _ _ _ _ _ _
   | exact impl_isNet.mono _ _ _
   | exact LeO.none _
   | refine LeO.ite ?_ ?_
   | refine LeO.bind ?_ (fun _ => ?_)
set_option maxHeartbeats 8000000 in
set_option maxRecDepth 100000 in
theorem impl_TotalOf.calls (k : Nat) (A0_0 : Option Addr) (c0_0 : Nat) (l0_0 : List (S92)) (A0_1 : Option Addr) (c0_1 : Nat) (l0_1 : List (S95)) (r1 : Int) (r2 : Bool) (w : World) (hr0_0 : Kd.C k92 w A0_0 l0_0.length l0_0) (hc0_0 : l0_0.length ≤ c0_0) (hr0_1 : Kd.C k95 w A0_1 l0_1.length l0_1) (hc0_1 : l0_1.length ≤ c0_1) (h : impl_TotalOf.f k l0_0 l0_1 = some (r1, r2)) :
  Calls Try.prog 41 #[.agg #[.slice A0_0 l0_0.length c0_0, .slice A0_1 l0_1.length c0_1]] w fun e w' => e = .returned (.tuple #[.int .i64 r1, .bool r2]) ∧ Below w.heap.size w w' := by
 have hu53 := Try.underlying53
 have hu92 := Try.underlying92
 have hu95 := Try.underlying95
 have hu103 := Try.underlying103
 have HR0_0 := Aside0.mk hr0_0
 have HC0_0 := Aside0.mk hc0_0
 clear hr0_0 hc0_0
 have HR0_1 := Aside0.mk hr0_1
 have HC0_1 := Aside0.mk hc0_1
 clear hr0_1 hc0_1
 have HB := Aside0.mk (Below.refl w.heap.size w)
 have H : ((impl_isNet.f k l0_0 l0_1).bind fun t289 => (if t289 = true then (impl_TotalOf.l0 k 0 l0_0 (l0_0.length : Int) 0 l0_0 l0_1) else (some (0, false)))) = some (r1, r2) := h
 clear h
 replace H := Option.bind_eq_some_iff.mp H
 obtain ⟨t289, A20, H⟩ := H
 replace H : (if t289 = true then (impl_TotalOf.l0 k 0 l0_0 (l0_0.length : Int) 0 l0_0 l0_1) else (some (0, false))) = some (r1, r2) := H
 have A2 := Aside0.mk A20
 clear A20
 by_cases c3 : t289 = true
 rotate_left
 ·replace c3 := Bool.eq_false_iff.mpr c3
  subst c3
  have H1 : (some (0, false)) = some (r1, r2) := by rw [if_neg (show ¬ (false = true) by decide)] at H; exact H
  clear H
  have H := H1
  clear H1
  simp only [Option.some.injEq, Prod.mk.injEq] at H
  obtain ⟨rfl, rfl⟩ := H
  go_enter Try.func41, Try.ntmps41
  go_wp2_with (first | ((with_reducible refine gate_dst (N := 1) rfl ?_); refine box_event rfl (N := 1) rfl (cs := #[.slice A0_0 l0_0.length c0_0, .slice A0_1 l0_1.length c0_1]) (t := 53) gs_ ?_; intro gb288 hg w28 hbox hb; have BK288 := Aside0.mk (hbox); have GW288 := Aside0.mk ((by rw [hg]; exact bz_ : w.heap.size ≤ gb288)); have GE288 := GW288; replace HB := Aside0.mk (below_step bl_ hb); clear hb hbox hg; have hcz29_0 : w28.cell? ⟨gb288, 0, none⟩ = some (.slice A0_0 l0_0.length c0_0) := bc_ BK288.out 0; have hcz29_1 : w28.cell? ⟨gb288, 1, none⟩ = some (.slice A0_1 l0_1.length c0_1) := bc_ BK288.out 1; have hfz29_0 := blk_frozen BK288.out 0; have hfz29_1 := blk_frozen BK288.out 1) | ((with_reducible refine gate_callee (f := 76) rfl ?_); refine goesL_ (some 12) rfl rfl Try.func76 (by kernel_rfl) rfl #[.agg #[.slice A0_0 l0_0.length c0_0, .slice A0_1 l0_1.length c0_1]] rfl nc_ ?_; (with_reducible refine (impl_isNet.calls k _ _ l0_0 _ _ l0_1 false _ ?side1 ?side2 ?side3 ?side4 A2.out).mono ?_); (case side1 => exact kc_ (Kd.C_below HR0_0.out HB.out)); (case side2 => exact HC0_0.out); (case side3 => exact kc_ (Kd.C_below HR0_1.out HB.out)); (case side4 => exact HC0_1.out); rintro e w30 ⟨rfl, hb⟩; refine ⟨_, rfl, ?_⟩; replace BK288 := bb_ BK288 hb; replace HB := Aside0.mk (below_step bl_ hb); clear hb))
  go_ret2
  exact ⟨ng_, bl_⟩
 subst c3
 have H1 : (impl_TotalOf.l0 k 0 l0_0 (l0_0.length : Int) 0 l0_0 l0_1) = some (r1, r2) := by rw [if_pos rfl] at H; exact H
 clear H
 have H := H1
 clear H1
 have H' := Aside0.mk H
 clear H
 go_enter Try.func41, Try.ntmps41
 go_wp2_with (first | ((with_reducible refine gate_dst (N := 1) rfl ?_); refine box_event rfl (N := 1) rfl (cs := #[.slice A0_0 l0_0.length c0_0, .slice A0_1 l0_1.length c0_1]) (t := 53) gs_ ?_; intro gb288 hg w4 hbox hb; have BK288 := Aside0.mk (hbox); have GW288 := Aside0.mk ((by rw [hg]; exact bz_ : w.heap.size ≤ gb288)); have GE288 := GW288; replace HB := Aside0.mk (below_step bl_ hb); clear hb hbox hg; have hcz5_0 : w4.cell? ⟨gb288, 0, none⟩ = some (.slice A0_0 l0_0.length c0_0) := bc_ BK288.out 0; have hcz5_1 : w4.cell? ⟨gb288, 1, none⟩ = some (.slice A0_1 l0_1.length c0_1) := bc_ BK288.out 1; have hfz5_0 := blk_frozen BK288.out 0; have hfz5_1 := blk_frozen BK288.out 1) | ((with_reducible refine gate_callee (f := 76) rfl ?_); refine goesL_ (some 12) rfl rfl Try.func76 (by kernel_rfl) rfl #[.agg #[.slice A0_0 l0_0.length c0_0, .slice A0_1 l0_1.length c0_1]] rfl nc_ ?_; (with_reducible refine (impl_isNet.calls k _ _ l0_0 _ _ l0_1 true _ ?side1 ?side2 ?side3 ?side4 A2.out).mono ?_); (case side1 => exact kc_ (Kd.C_below HR0_0.out HB.out)); (case side2 => exact HC0_0.out); (case side3 => exact kc_ (Kd.C_below HR0_1.out HB.out)); (case side4 => exact HC0_1.out); rintro e w6 ⟨rfl, hb⟩; refine ⟨_, rfl, ?_⟩; replace BK288 := bb_ BK288 hb; replace HB := Aside0.mk (below_step bl_ hb); clear hb; have hcz7_0 : w6.cell? ⟨gb288, 0, none⟩ = some (.slice A0_0 l0_0.length c0_0) := bc_ BK288.out 0; have hcz7_1 : w6.cell? ⟨gb288, 1, none⟩ = some (.slice A0_1 l0_1.length c0_1) := bc_ BK288.out 1; have hfz7_0 := blk_frozen BK288.out 0; have hfz7_1 := blk_frozen BK288.out 1))
 go_loopg [4, 17] k (fun kq v4 v17 w' => ∃ (x4_1 : Int) (x17_1 : Int), v4 = .int .i64 x4_1 ∧ v17 = .int .i64 x17_1 ∧ Aside0 (impl_TotalOf.l0 kq x4_1 l0_0 (l0_0.length : Int) x17_1 l0_0 l0_1 = some (r1, r2)) ∧ Aside0 (kq ≤ k) ∧ Aside0 (w'.heap[gb288]? = some (.cells #[(.slice A0_0 l0_0.length c0_0), (.slice A0_1 l0_1.length c0_1)] 53 (0, 0))) ∧ Aside0 (Below w.heap.size w w'))
 case atStart => exact ⟨(0), (0), (by first | rfl | (simp; done) | (simp [*]; done)), (by first | rfl | (simp; done) | (simp [*]; done)), H', ⟨Nat.le_refl _⟩, ⟨by exact kb_ BK288.out⟩, ⟨bl_⟩⟩
 clear H'
 try clear p2
 try clear c3
 try clear c4
 try clear c7
 try clear hcz5_0
 try clear hcz5_1
 try clear hcz7_0
 try clear hcz7_1
 try clear hfz5_0
 try clear hfz5_1
 try clear hfz7_0
 try clear hfz7_1
 obtain ⟨x4_1, x17_1, rfl, rfl, HA, HK1, BK288, HB⟩ := hrel
 cases gk with
 | zero => exact absurd HA.out (by simp [impl_TotalOf.l0])
 | succ k1 => ?_
 have H := HA.out
 clear HA
 simp only [impl_TotalOf.l0] at H
 by_cases c8 : x17_1 < (l0_0.length : Int)
 ·rw [if_pos c8] at H
  have c8b0 : decide (x17_1 < (l0_0.length : Int)) = true := decide_eq_true c8
  clear c8
  by_cases c9 : 0 ≤ x17_1
  rotate_left
  ·rw [if_neg c9] at H
   exact absurd H (by simp)
  rw [if_pos c9] at H
  have c9b0 : decide (0 ≤ x17_1) = true := decide_eq_true c9
  clear c9
  by_cases c10 : x17_1 < (l0_0.length : Int)
  rotate_left
  ·rw [if_neg c10] at H
   exact absurd H (by simp)
  rw [if_pos c10] at H
  have c10b0 : decide (x17_1 < (l0_0.length : Int)) = true := decide_eq_true c10
  clear c10
  have H' := Aside0.mk H
  clear H
  have p290 : 0 ≤ (x17_1 : Int) := of_decide_eq_true (by first | (with_reducible assumption) | assumption)
  have q290 : x17_1 < (l0_0.length : Int) := of_decide_eq_true (by first | (with_reducible assumption) | assumption)
  obtain ⟨ad290, e290, hx290_0, hx290_1, hx290_2⟩ := at_T92 HR0_0.out x17_1 p290 q290
  cases e290
  replace hx290_0 := (HB.out.cell (World.block_lt_of_cell? w _ hx290_0)).trans hx290_0
  replace hx290_1 := (HB.out.cell (World.block_lt_of_cell? w _ hx290_1)).trans hx290_1
  replace hx290_2 := (HB.out.cell (World.block_lt_of_cell? w _ hx290_2)).trans hx290_2
  replace p290 := eq_true p290
  replace q290 := eq_true q290
  go_wp2_with (first | ((with_reducible refine gate_dst (N := 6) rfl ?_); refine box_event rfl (N := 6) rfl (cs := #[.int .i64 0, .bool false, .int .i64 0]) (t := 92) gs_ ?_; intro gb291 hg w11 hbox hb; have BK291 := Aside0.mk (hbox); have GW291 := Aside0.mk ((by rw [hg]; exact bz_ : w.heap.size ≤ gb291)); have GE291 := GW291; replace HB := Aside0.mk (below_step bl_ hb); have NB288_291 := nl_ hg BK288; have NB291_288 := nm_ hg BK288; replace BK288 := bb_ BK288 hb; clear hb hbox hg; have hnb12 := NB291_288.out; have hnc12 := NB288_291.out; have hcz13_0 : w11.cell? ⟨gb291, 0, none⟩ = some (.int .i64 0) := bc_ BK291.out 0; have hcz13_1 : w11.cell? ⟨gb291, 1, none⟩ = some (.bool false) := bc_ BK291.out 1; have hcz13_2 : w11.cell? ⟨gb291, 2, none⟩ = some (.int .i64 0) := bc_ BK291.out 2; have hfz13_0 := blk_frozen BK291.out 0; have hfz13_1 := blk_frozen BK291.out 1; have hfz13_2 := blk_frozen BK291.out 2))
  go_roundg k1
  case measure => have := HK1.out; omega
  case rel => exact ⟨(wrap64 (x4_1 + ((rd_T92 l0_0 x17_1).f0))), (wrap64 (x17_1 + 1)), (by first | rfl | (simp; done) | (simp [*]; done)), (by first | rfl | (simp; done) | (simp [*]; done)), H', ⟨by have := HK1.out; omega⟩, ⟨kz_⟩, ⟨bl_⟩⟩
 rw [if_neg c8] at H
 have c8b0 : decide (x17_1 < (l0_0.length : Int)) = false := decide_eq_false c8
 clear c8
 have H' := Aside0.mk H
 clear H
 have hcz14_0 : wr.cell? ⟨gb288, 0, none⟩ = some (.slice A0_0 l0_0.length c0_0) := bc_ BK288.out 0
 have hcz14_1 : wr.cell? ⟨gb288, 1, none⟩ = some (.slice A0_1 l0_1.length c0_1) := bc_ BK288.out 1
 have hfz14_0 := blk_frozen BK288.out 0
 have hfz14_1 := blk_frozen BK288.out 1
 go_wp2
 go_loopg [4, 29] k1 (fun kq v4 v29 w' => ∃ (x4_2 : Int) (x29_2 : Int), v4 = .int .i64 x4_2 ∧ v29 = .int .i64 x29_2 ∧ Aside0 (impl_TotalOf.l1 kq x4_2 l0_1 (l0_1.length : Int) x29_2 = some (r1, r2)) ∧ Aside0 (kq ≤ k1) ∧ Aside0 (w'.heap[gb288]? = some (.cells #[(.slice A0_0 l0_0.length c0_0), (.slice A0_1 l0_1.length c0_1)] 53 (0, 0))) ∧ Aside0 (Below w.heap.size w w'))
 case atStart => exact ⟨(x4_1), (0), (by first | rfl | (simp; done) | (simp [*]; done)), (by first | rfl | (simp; done) | (simp [*]; done)), H', ⟨Nat.le_refl _⟩, ⟨by exact kb_ BK288.out⟩, ⟨bl_⟩⟩
 clear H'
 try clear c1
 try clear p2
 try clear q2
 try clear hx2
 try clear c3
 try clear c4
 try clear p6
 try clear c7
 try clear c8
 try clear c8b0
 try clear c9
 try clear c9b0
 try clear c10
 try clear c10b0
 try clear c12
 try clear hcz13_0
 try clear hcz13_1
 try clear hcz13_2
 try clear hcz14_0
 try clear hcz14_1
 try clear hcz5_0
 try clear hcz5_1
 try clear hcz7_0
 try clear hcz7_1
 try clear hfz13_0
 try clear hfz13_1
 try clear hfz13_2
 try clear hfz14_0
 try clear hfz14_1
 try clear hfz5_0
 try clear hfz5_1
 try clear hfz7_0
 try clear hfz7_1
 try clear hx290_0
 try clear hx290_1
 try clear hx290_2
 try clear p2
 try clear p290
 try clear q290
 obtain ⟨x4_2, x29_2, rfl, rfl, HA, HK2, BK288, HB⟩ := hrel
 cases gk with
 | zero => exact absurd HA.out (by simp [impl_TotalOf.l1])
 | succ k2 => ?_
 have H := HA.out
 clear HA
 simp only [impl_TotalOf.l1] at H
 by_cases c15 : x29_2 < (l0_1.length : Int)
 rotate_left
 ·rw [if_neg c15] at H
  have c15b0 : decide (x29_2 < (l0_1.length : Int)) = false := decide_eq_false c15
  clear c15
  simp only [Option.some.injEq, Prod.mk.injEq] at H
  obtain ⟨rfl, rfl⟩ := H
  go_wp2
  go_ret2
  exact ⟨ng_, bl_⟩
 rw [if_pos c15] at H
 have c15b0 : decide (x29_2 < (l0_1.length : Int)) = true := decide_eq_true c15
 clear c15
 by_cases c16 : 0 ≤ x29_2
 rotate_left
 ·rw [if_neg c16] at H
  exact absurd H (by simp)
 rw [if_pos c16] at H
 have c16b0 : decide (0 ≤ x29_2) = true := decide_eq_true c16
 clear c16
 by_cases c17 : x29_2 < (l0_1.length : Int)
 rotate_left
 ·rw [if_neg c17] at H
  exact absurd H (by simp)
 rw [if_pos c17] at H
 have c17b0 : decide (x29_2 < (l0_1.length : Int)) = true := decide_eq_true c17
 clear c17
 have H' := Aside0.mk H
 clear H
 have p292 : 0 ≤ (x29_2 : Int) := of_decide_eq_true (by first | (with_reducible assumption) | assumption)
 have q292 : x29_2 < (l0_1.length : Int) := of_decide_eq_true (by first | (with_reducible assumption) | assumption)
 obtain ⟨ad292, A292_2, c292_2, A292_4, c292_4, e292, hx292_0, hx292_1, hx292_2, hx292_3, hx292_4, hl292_2, hi292_2, hl292_4, hi292_4⟩ := at_T95 HR0_1.out x29_2 p292 q292
 cases e292
 replace hx292_0 := (HB.out.cell (World.block_lt_of_cell? w _ hx292_0)).trans hx292_0
 replace hx292_1 := (HB.out.cell (World.block_lt_of_cell? w _ hx292_1)).trans hx292_1
 replace hx292_2 := (HB.out.cell (World.block_lt_of_cell? w _ hx292_2)).trans hx292_2
 replace hx292_3 := (HB.out.cell (World.block_lt_of_cell? w _ hx292_3)).trans hx292_3
 replace hx292_4 := (HB.out.cell (World.block_lt_of_cell? w _ hx292_4)).trans hx292_4
 have HR292_2 := Aside0.mk hi292_2
 have HC292_2 := Aside0.mk hl292_2
 clear hi292_2 hl292_2
 have HR292_4 := Aside0.mk hi292_4
 have HC292_4 := Aside0.mk hl292_4
 clear hi292_4 hl292_4
 replace p292 := eq_true p292
 replace q292 := eq_true q292
 go_wp2_with (first | ((with_reducible refine gate_dst (N := 8) rfl ?_); refine box_event rfl (N := 8) rfl (cs := #[.int .i64 0, .int .i64 0, .slice none 0 0, .bool false, .slice none 0 0]) (t := 95) gs_ ?_; intro gb293 hg w18 hbox hb; have BK293 := Aside0.mk (hbox); have GW293 := Aside0.mk ((by rw [hg]; exact bz_ : w.heap.size ≤ gb293)); have GE293 := GW293; replace HB := Aside0.mk (below_step bl_ hb); have NB288_293 := nl_ hg BK288; have NB293_288 := nm_ hg BK288; replace BK288 := bb_ BK288 hb; clear hb hbox hg; have hnb19 := NB293_288.out; have hnc19 := NB288_293.out; have hcz20_0 : w18.cell? ⟨gb293, 0, none⟩ = some (.int .i64 0) := bc_ BK293.out 0; have hcz20_1 : w18.cell? ⟨gb293, 1, none⟩ = some (.int .i64 0) := bc_ BK293.out 1; have hcz20_2 : w18.cell? ⟨gb293, 2, none⟩ = some (.slice none 0 0) := bc_ BK293.out 2; have hcz20_3 : w18.cell? ⟨gb293, 3, none⟩ = some (.bool false) := bc_ BK293.out 3; have hcz20_4 : w18.cell? ⟨gb293, 4, none⟩ = some (.slice none 0 0) := bc_ BK293.out 4; have hfz20_0 := blk_frozen BK293.out 0; have hfz20_1 := blk_frozen BK293.out 1; have hfz20_2 := blk_frozen BK293.out 2; have hfz20_3 := blk_frozen BK293.out 3; have hfz20_4 := blk_frozen BK293.out 4))
 go_loopg [4, 36] k2 (fun kq v4 v36 w' => ∃ (x4_3 : Int) (x36_3 : Int), v4 = .int .i64 x4_3 ∧ v36 = .int .i64 x36_3 ∧ Aside0 (impl_TotalOf.l2 kq x4_3 l0_1 (l0_1.length : Int) x29_2 ((rd_T95 l0_1 x29_2).f2) (((rd_T95 l0_1 x29_2).f2).length : Int) x36_3 = some (r1, r2)) ∧ Aside0 (kq ≤ k2) ∧ Aside0 (w'.heap[gb288]? = some (.cells #[(.slice A0_0 l0_0.length c0_0), (.slice (some ad292) l0_1.length c0_1)] 53 (0, 0))) ∧ Aside0 (w'.heap[gb293]? = some (.cells #[.int .i64 ((rd_T95 l0_1 x29_2).f0), .int .i64 ((rd_T95 l0_1 x29_2).f1), (.slice A292_2 ((rd_T95 l0_1 x29_2).f2).length c292_2), .bool ((rd_T95 l0_1 x29_2).f3), (.slice A292_4 ((rd_T95 l0_1 x29_2).f4).length c292_4)] 95 (0, 0))) ∧ Aside0 (Below w.heap.size w w'))
 case atStart => exact ⟨(x4_2), (0), (by first | rfl | (simp; done) | (simp [*]; done)), (by first | rfl | (simp; done) | (simp [*]; done)), H', ⟨Nat.le_refl _⟩, ⟨kz_⟩, ⟨by (with_reducible repeat (first | refine blk_drewN ?_ _ | refine blk_drew ?_ | refine blk_alloc ?_ _)); refine blk_put (cs := #[.int .i64 ((rd_T95 l0_1 x29_2).f0), .int .i64 ((rd_T95 l0_1 x29_2).f1), .slice A292_2 ((rd_T95 l0_1 x29_2).f2).length c292_2, .bool ((rd_T95 l0_1 x29_2).f3), .slice none 0 0]) ?_ 4 _ rfl; (with_reducible repeat (first | refine blk_drewN ?_ _ | refine blk_drew ?_ | refine blk_alloc ?_ _)); refine blk_put (cs := #[.int .i64 ((rd_T95 l0_1 x29_2).f0), .int .i64 ((rd_T95 l0_1 x29_2).f1), .slice A292_2 ((rd_T95 l0_1 x29_2).f2).length c292_2, .bool false, .slice none 0 0]) ?_ 3 _ rfl; (with_reducible repeat (first | refine blk_drewN ?_ _ | refine blk_drew ?_ | refine blk_alloc ?_ _)); refine blk_put (cs := #[.int .i64 ((rd_T95 l0_1 x29_2).f0), .int .i64 ((rd_T95 l0_1 x29_2).f1), .slice none 0 0, .bool false, .slice none 0 0]) ?_ 2 _ rfl; (with_reducible repeat (first | refine blk_drewN ?_ _ | refine blk_drew ?_ | refine blk_alloc ?_ _)); refine blk_put (cs := #[.int .i64 ((rd_T95 l0_1 x29_2).f0), .int .i64 0, .slice none 0 0, .bool false, .slice none 0 0]) ?_ 1 _ rfl; (with_reducible repeat (first | refine blk_drewN ?_ _ | refine blk_drew ?_ | refine blk_alloc ?_ _)); refine blk_put (cs := #[.int .i64 0, .int .i64 0, .slice none 0 0, .bool false, .slice none 0 0]) ?_ 0 _ rfl; exact kb_ BK293.out⟩, ⟨bl_⟩⟩
 clear H'
 try clear c1
 try clear c2
 try clear p2
 try clear q2
 try clear hx2
 try clear c3
 try clear c4
 try clear p6
 try clear c7
 try clear c8
 try clear c8b0
 try clear c9
 try clear c9b0
 try clear c10
 try clear c10b0
 try clear c12
 try clear c15
 try clear c15b0
 try clear c16
 try clear c16b0
 try clear c17
 try clear c17b0
 try clear c19
 try clear hcz13_0
 try clear hcz13_1
 try clear hcz13_2
 try clear hcz14_0
 try clear hcz14_1
 try clear hcz20_0
 try clear hcz20_1
 try clear hcz20_2
 try clear hcz20_3
 try clear hcz20_4
 try clear hcz5_0
 try clear hcz5_1
 try clear hcz7_0
 try clear hcz7_1
 try clear hfz13_0
 try clear hfz13_1
 try clear hfz13_2
 try clear hfz14_0
 try clear hfz14_1
 try clear hfz20_0
 try clear hfz20_1
 try clear hfz20_2
 try clear hfz20_3
 try clear hfz20_4
 try clear hfz5_0
 try clear hfz5_1
 try clear hfz7_0
 try clear hfz7_1
 try clear hx290_0
 try clear hx290_1
 try clear hx290_2
 try clear hx292_0
 try clear hx292_1
 try clear hx292_2
 try clear hx292_3
 try clear hx292_4
 try clear p2
 try clear p290
 try clear p292
 try clear p6
 try clear q2
 try clear q290
 try clear q292
 obtain ⟨x4_3, x36_3, rfl, rfl, HA, HK3, BK288, BK293, HB⟩ := hrel
 cases gk with
 | zero => exact absurd HA.out (by simp [impl_TotalOf.l2])
 | succ k3 => ?_
 have H := HA.out
 clear HA
 simp only [impl_TotalOf.l2] at H
 by_cases c21 : x36_3 < (((rd_T95 l0_1 x29_2).f2).length : Int)
 rotate_left
 ·rw [if_neg c21] at H
  have c21b0 : decide (x36_3 < (((rd_T95 l0_1 x29_2).f2).length : Int)) = false := decide_eq_false c21
  clear c21
  have H' := Aside0.mk H
  clear H
  go_wp2
  go_roundg k3
  case measure => have := HK1.out; have := HK2.out; have := HK3.out; omega
  case rel => exact ⟨(x4_3), (wrap64 (x29_2 + 1)), (by first | rfl | (simp; done) | (simp [*]; done)), (by first | rfl | (simp; done) | (simp [*]; done)), H', ⟨by have := HK1.out; have := HK2.out; have := HK3.out; omega⟩, ⟨by exact kb_ BK288.out⟩, ⟨bl_⟩⟩
 rw [if_pos c21] at H
 have c21b0 : decide (x36_3 < (((rd_T95 l0_1 x29_2).f2).length : Int)) = true := decide_eq_true c21
 clear c21
 by_cases c22 : 0 ≤ x36_3
 rotate_left
 ·rw [if_neg c22] at H
  exact absurd H (by simp)
 rw [if_pos c22] at H
 have c22b0 : decide (0 ≤ x36_3) = true := decide_eq_true c22
 clear c22
 by_cases c23 : x36_3 < (((rd_T95 l0_1 x29_2).f2).length : Int)
 rotate_left
 ·rw [if_neg c23] at H
  exact absurd H (by simp)
 rw [if_pos c23] at H
 have c23b0 : decide (x36_3 < (((rd_T95 l0_1 x29_2).f2).length : Int)) = true := decide_eq_true c23
 clear c23
 have H' := Aside0.mk H
 clear H
 have p294 : 0 ≤ (x36_3 : Int) := of_decide_eq_true (by first | (with_reducible assumption) | assumption)
 have q294 : x36_3 < (((rd_T95 l0_1 x29_2).f2).length : Int) := of_decide_eq_true (by first | (with_reducible assumption) | assumption)
 obtain ⟨ad294, e294, hx294_0, hx294_1⟩ := at_T103 HR292_2.out x36_3 p294 q294
 cases e294
 replace hx294_0 := (HB.out.cell (World.block_lt_of_cell? w _ hx294_0)).trans hx294_0
 replace hx294_1 := (HB.out.cell (World.block_lt_of_cell? w _ hx294_1)).trans hx294_1
 replace p294 := eq_true p294
 replace q294 := eq_true q294
 go_wp2_with (first | ((with_reducible refine gate_dst (N := 10) rfl ?_); refine box_event rfl (N := 10) rfl (cs := #[.bool false, .int .i64 0]) (t := 103) gs_ ?_; intro gb295 hg w24 hbox hb; have BK295 := Aside0.mk (hbox); have GW295 := Aside0.mk ((by rw [hg]; exact bz_ : w.heap.size ≤ gb295)); have GE295 := GW295; replace HB := Aside0.mk (below_step bl_ hb); have NB288_295 := nl_ hg BK288; have NB295_288 := nm_ hg BK288; replace BK288 := bb_ BK288 hb; have NB293_295 := nl_ hg BK293; have NB295_293 := nm_ hg BK293; replace BK293 := bb_ BK293 hb; clear hb hbox hg; have hnb25 := NB295_288.out; have hnc25 := NB288_295.out; have hnb26 := NB295_293.out; have hnc26 := NB293_295.out; have hcz27_0 : w24.cell? ⟨gb295, 0, none⟩ = some (.bool false) := bc_ BK295.out 0; have hcz27_1 : w24.cell? ⟨gb295, 1, none⟩ = some (.int .i64 0) := bc_ BK295.out 1; have hfz27_0 := blk_frozen BK295.out 0; have hfz27_1 := blk_frozen BK295.out 1))
 go_roundg k3
 case measure => have := HK1.out; have := HK2.out; have := HK3.out; omega
 case rel => exact ⟨(wrap64 (x4_3 + ((rd_T103 ((rd_T95 l0_1 x29_2).f2) x36_3).f1))), (wrap64 (x36_3 + 1)), (by first | rfl | (simp; done) | (simp [*]; done)), (by first | rfl | (simp; done) | (simp [*]; done)), H', ⟨by have := HK1.out; have := HK2.out; have := HK3.out; omega⟩, ⟨kz_⟩, ⟨kz_⟩, ⟨bl_⟩⟩

/-! ### laws_FnExactTotalOf: function 9 -/
def laws_FnExactTotalOf.j0 : Nat → Bool → List (S127) → List (S125) → List (S92) → List (S95) → Option (Bool)
 | 0, _, _, _, _, _ => none
 | k + 1, x34, x297000, x297001, x313000, x313001 => if x34 = true then (none) else ((laws_toNet.f k x297000 x297001).bind fun bt315 => ((laws_eqNet.f k x313000 x313001 bt315.1 bt315.2).bind fun t321 => (if t321 = true then (some true) else (none))))
def laws_FnExactTotalOf.f (k : Nat) (l0_0 : List (S127)) (l0_1 : List (S125)) : Option (Bool) := (laws_szNet.f k l0_0 l0_1 1048576).bind fun t297 => (if t297 < 0 then (some true) else ((laws_toNet.f k l0_0 l0_1).bind fun bt298 => ((spec_TotalOf.f k bt298.1 bt298.2).bind fun bt304 => ((laws_toNet.f k l0_0 l0_1).bind fun bt306 => ((impl_TotalOf.f k bt306.1 bt306.2).bind fun bt313 => (if bt313.1 = bt304.1 then (laws_FnExactTotalOf.j0 k (bt313.2 != bt304.2) l0_0 l0_1 bt306.1 bt306.2) else (none)))))))
theorem laws_FnExactTotalOf.mono_l : ∀ k, (∀ y0 y1 y2 y3 y4, LeO (laws_FnExactTotalOf.j0 k y0 y1 y2 y3 y4) (laws_FnExactTotalOf.j0 (k + 1) y0 y1 y2 y3 y4))
 | 0 => fun _ _ _ _ _ r h => by simp [laws_FnExactTotalOf.j0] at h
 | k + 1 => by
  have ih0 := laws_FnExactTotalOf.mono_l k
  ·intro y0 y1 y2 y3 y4
   unfold laws_FnExactTotalOf.j0
   repeat' first
   | (with_reducible exact ih0 _ _ _ _ _)
   | (with_reducible exact impl_TotalOf.mono _ _ _)
   | (with_reducible exact laws_eqNet.mono _ _ _ _ _)
   | (with_reducible exact laws_szNet.mono _ _ _ _)
   | (with_reducible exact laws_toNet.mono _ _ _)
   | (with_reducible exact spec_TotalOf.mono _ _ _)
   | (with_reducible exact LeO.refl _)
   | (with_reducible exact LeO.none _)
   | (with_reducible refine LeO.ite ?_ ?_)
   | (with_reducible refine LeO.bind ?_ (fun _ => ?_))
   | exact ih0 _ _ _ _ _
   | exact impl_TotalOf.mono _ _ _
   | exact laws_eqNet.mono _ _ _ _ _
   | exact laws_szNet.mono _ _ _ _
   | exact laws_toNet.mono _ _ _
   | exact spec_TotalOf.mono _ _ _
   | exact LeO.none _
   | refine LeO.ite ?_ ?_
   | refine LeO.bind ?_ (fun _ => ?_)
theorem laws_FnExactTotalOf.mono : ∀ a0 a1 k, LeO (laws_FnExactTotalOf.f k a0 a1) (laws_FnExactTotalOf.f (k + 1) a0 a1) := by
 intro a0 a1 k
 have ih0 := laws_FnExactTotalOf.mono_l k
 unfold laws_FnExactTotalOf.f
 repeat' first
   | (with_reducible exact ih0 _ _ _ _ _)
   | (with_reducible exact impl_TotalOf.mono _ _ _)
   | (with_reducible exact laws_eqNet.mono _ _ _ _ _)
   | (with_reducible exact laws_szNet.mono _ _ _ _)
   | (with_reducible exact laws_toNet.mono _ _ _)
   | (with_reducible exact spec_TotalOf.mono _ _ _)
   | (with_reducible exact LeO.refl _)
   | (with_reducible exact LeO.none _)
   | (with_reducible refine LeO.ite ?_ ?_)
   | (with_reducible refine LeO.bind ?_ (fun _ => ?_))
   | exact ih0 _ _ _ _ _
   | exact impl_TotalOf.mono _ _ _
   | exact laws_eqNet.mono _ _ _ _ _
   | exact laws_szNet.mono _ _ _ _
   | exact laws_toNet.mono _ _ _
   | exact spec_TotalOf.mono _ _ _
   | exact LeO.none _
   | refine LeO.ite ?_ ?_
   | refine LeO.bind ?_ (fun _ => ?_)
set_option maxHeartbeats 8000000 in
set_option maxRecDepth 100000 in
theorem laws_FnExactTotalOf.calls (k : Nat) (A0_0 : Option Addr) (c0_0 : Nat) (l0_0 : List (S127)) (A0_1 : Option Addr) (c0_1 : Nat) (l0_1 : List (S125)) (r : Bool) (w : World) (hr0_0 : Kd.C k127 w A0_0 l0_0.length l0_0) (hc0_0 : l0_0.length ≤ c0_0) (hr0_1 : Kd.C k125 w A0_1 l0_1.length l0_1) (hc0_1 : l0_1.length ≤ c0_1) (h : laws_FnExactTotalOf.f k l0_0 l0_1 = some r) :
  Calls Try.prog 9 #[.agg #[.slice A0_0 l0_0.length c0_0, .slice A0_1 l0_1.length c0_1]] w fun e w' => e = .returned (.bool r) ∧ Below w.heap.size w w' := by
 have hu65 := Try.underlying65
 have hu53 := Try.underlying53
 have HR0_0 := Aside0.mk hr0_0
 have HC0_0 := Aside0.mk hc0_0
 clear hr0_0 hc0_0
 have HR0_1 := Aside0.mk hr0_1
 have HC0_1 := Aside0.mk hc0_1
 clear hr0_1 hc0_1
 have HB := Aside0.mk (Below.refl w.heap.size w)
 have H : ((laws_szNet.f k l0_0 l0_1 1048576).bind fun t297 => (if t297 < 0 then (some true) else ((laws_toNet.f k l0_0 l0_1).bind fun bt298 => ((spec_TotalOf.f k bt298.1 bt298.2).bind fun bt304 => ((laws_toNet.f k l0_0 l0_1).bind fun bt306 => ((impl_TotalOf.f k bt306.1 bt306.2).bind fun bt313 => (if bt313.1 = bt304.1 then (laws_FnExactTotalOf.j0 k (bt313.2 != bt304.2) l0_0 l0_1 bt306.1 bt306.2) else (none)))))))) = some r := h
 clear h
 replace H := Option.bind_eq_some_iff.mp H
 obtain ⟨t297, A20, H⟩ := H
 replace H : (if t297 < 0 then (some true) else ((laws_toNet.f k l0_0 l0_1).bind fun bt298 => ((spec_TotalOf.f k bt298.1 bt298.2).bind fun bt304 => ((laws_toNet.f k l0_0 l0_1).bind fun bt306 => ((impl_TotalOf.f k bt306.1 bt306.2).bind fun bt313 => (if bt313.1 = bt304.1 then (laws_FnExactTotalOf.j0 k (bt313.2 != bt304.2) l0_0 l0_1 bt306.1 bt306.2) else (none))))))) = some r := H
 have A2 := Aside0.mk A20
 clear A20
 by_cases c3 : t297 < 0
 ·rw [if_pos c3] at H
  have c3b0 : decide (t297 < 0) = true := decide_eq_true c3
  clear c3
  obtain rfl := Option.some.inj H
  go_enter Try.func9, Try.ntmps9
  go_wp2_with (first | ((with_reducible refine gate_dst (N := 1) rfl ?_); refine box_event rfl (N := 1) rfl (cs := #[.slice A0_0 l0_0.length c0_0, .slice A0_1 l0_1.length c0_1]) (t := 65) gs_ ?_; intro gb296 hg w4 hbox hb; have BK296 := Aside0.mk (hbox); have GW296 := Aside0.mk ((by rw [hg]; exact bz_ : w.heap.size ≤ gb296)); have GE296 := GW296; replace HB := Aside0.mk (below_step bl_ hb); clear hb hbox hg; have hcz5_0 : w4.cell? ⟨gb296, 0, none⟩ = some (.slice A0_0 l0_0.length c0_0) := bc_ BK296.out 0; have hcz5_1 : w4.cell? ⟨gb296, 1, none⟩ = some (.slice A0_1 l0_1.length c0_1) := bc_ BK296.out 1; have hfz5_0 := blk_frozen BK296.out 0; have hfz5_1 := blk_frozen BK296.out 1) | ((with_reducible refine gate_callee (f := 36) rfl ?_); refine goesL_ (some 11) rfl rfl Try.func36 (by kernel_rfl) rfl #[.agg #[.slice A0_0 l0_0.length c0_0, .slice A0_1 l0_1.length c0_1], .int .i64 1048576] rfl nc_ ?_; (with_reducible refine (laws_szNet.calls k _ _ l0_0 _ _ l0_1 1048576 t297 _ ?side1 ?side2 ?side3 ?side4 A2.out).mono ?_); (case side1 => exact kc_ (Kd.C_below HR0_0.out HB.out)); (case side2 => exact HC0_0.out); (case side3 => exact kc_ (Kd.C_below HR0_1.out HB.out)); (case side4 => exact HC0_1.out); rintro e w6 ⟨rfl, hb⟩; refine ⟨_, rfl, ?_⟩; replace BK296 := bb_ BK296 hb; replace HB := Aside0.mk (below_step bl_ hb); clear hb))
  go_ret
  exact ⟨ng_, bl_⟩
 rw [if_neg c3] at H
 have c3b0 : decide (t297 < 0) = false := decide_eq_false c3
 clear c3
 replace H := Option.bind_eq_some_iff.mp H
 obtain ⟨⟨t298, t301⟩, A70, H⟩ := H
 replace H : ((spec_TotalOf.f k t298 t301).bind fun bt304 => ((laws_toNet.f k l0_0 l0_1).bind fun bt306 => ((impl_TotalOf.f k bt306.1 bt306.2).bind fun bt313 => (if bt313.1 = bt304.1 then (laws_FnExactTotalOf.j0 k (bt313.2 != bt304.2) l0_0 l0_1 bt306.1 bt306.2) else (none))))) = some r := H
 have A7 := Aside0.mk A70
 clear A70
 replace H := Option.bind_eq_some_iff.mp H
 obtain ⟨⟨t304, t305⟩, A80, H⟩ := H
 replace H : ((laws_toNet.f k l0_0 l0_1).bind fun bt306 => ((impl_TotalOf.f k bt306.1 bt306.2).bind fun bt313 => (if bt313.1 = t304 then (laws_FnExactTotalOf.j0 k (bt313.2 != t305) l0_0 l0_1 bt306.1 bt306.2) else (none)))) = some r := H
 have A8 := Aside0.mk A80
 clear A80
 replace H := Option.bind_eq_some_iff.mp H
 obtain ⟨⟨t306, t309⟩, A90, H⟩ := H
 replace H : ((impl_TotalOf.f k t306 t309).bind fun bt313 => (if bt313.1 = t304 then (laws_FnExactTotalOf.j0 k (bt313.2 != t305) l0_0 l0_1 t306 t309) else (none))) = some r := H
 have A9 := Aside0.mk A90
 clear A90
 replace H := Option.bind_eq_some_iff.mp H
 obtain ⟨⟨t313, t314⟩, A100, H⟩ := H
 replace H : (if t313 = t304 then (laws_FnExactTotalOf.j0 k (t314 != t305) l0_0 l0_1 t306 t309) else (none)) = some r := H
 have A10 := Aside0.mk A100
 clear A100
 have HC11 := Aside0.mk H
 clear H
 go_enter Try.func9, Try.ntmps9
 go_upto_region 8 with (first | ((with_reducible refine gate_dst (N := 1) rfl ?_); refine box_event rfl (N := 1) rfl (cs := #[.slice A0_0 l0_0.length c0_0, .slice A0_1 l0_1.length c0_1]) (t := 65) gs_ ?_; intro gb296 hg w12 hbox hb; have BK296 := Aside0.mk (hbox); have GW296 := Aside0.mk ((by rw [hg]; exact bz_ : w.heap.size ≤ gb296)); have GE296 := GW296; replace HB := Aside0.mk (below_step bl_ hb); clear hb hbox hg; have hcz13_0 : w12.cell? ⟨gb296, 0, none⟩ = some (.slice A0_0 l0_0.length c0_0) := bc_ BK296.out 0; have hcz13_1 : w12.cell? ⟨gb296, 1, none⟩ = some (.slice A0_1 l0_1.length c0_1) := bc_ BK296.out 1; have hfz13_0 := blk_frozen BK296.out 0; have hfz13_1 := blk_frozen BK296.out 1) | ((with_reducible refine gate_callee (f := 36) rfl ?_); refine goesL_ (some 11) rfl rfl Try.func36 (by kernel_rfl) rfl #[.agg #[.slice A0_0 l0_0.length c0_0, .slice A0_1 l0_1.length c0_1], .int .i64 1048576] rfl nc_ ?_; (with_reducible refine (laws_szNet.calls k _ _ l0_0 _ _ l0_1 1048576 t297 _ ?side1 ?side2 ?side3 ?side4 A2.out).mono ?_); (case side1 => exact kc_ (Kd.C_below HR0_0.out HB.out)); (case side2 => exact HC0_0.out); (case side3 => exact kc_ (Kd.C_below HR0_1.out HB.out)); (case side4 => exact HC0_1.out); rintro e w14 ⟨rfl, hb⟩; refine ⟨_, rfl, ?_⟩; replace BK296 := bb_ BK296 hb; replace HB := Aside0.mk (below_step bl_ hb); clear hb; have hcz15_0 : w14.cell? ⟨gb296, 0, none⟩ = some (.slice A0_0 l0_0.length c0_0) := bc_ BK296.out 0; have hcz15_1 : w14.cell? ⟨gb296, 1, none⟩ = some (.slice A0_1 l0_1.length c0_1) := bc_ BK296.out 1; have hfz15_0 := blk_frozen BK296.out 0; have hfz15_1 := blk_frozen BK296.out 1) | ((with_reducible refine gate_callee (f := 38) rfl ?_); refine goesL_ (some 16) rfl rfl Try.func38 (by kernel_rfl) rfl #[.agg #[.slice A0_0 l0_0.length c0_0, .slice A0_1 l0_1.length c0_1]] rfl nc_ ?_; (with_reducible refine (laws_toNet.calls k _ _ l0_0 _ _ l0_1 t298 t301 _ ?side1 ?side2 ?side3 ?side4 A7.out).mono ?_); (case side1 => exact kc_ (Kd.C_below HR0_0.out HB.out)); (case side2 => exact HC0_0.out); (case side3 => exact kc_ (Kd.C_below HR0_1.out HB.out)); (case side4 => exact HC0_1.out); rintro e w16 ⟨v299, v302, rfl, ho0, ho1, hb⟩; refine ⟨_, rfl, ?_⟩; have HO300 := Aside0.mk (Kd.R_lower ho0 bz_); have HO303 := Aside0.mk (Kd.S_lower ho1 bz_); replace BK296 := bb_ BK296 hb; replace HB := Aside0.mk (below_step bl_ hb); clear hb ho0 ho1; obtain ⟨Ao17, co17, eo17⟩ := Kd.R_slice HO300.out; subst eo17; obtain ⟨Ao18, co18, eo18⟩ := Kd.S_slice HO303.out; subst eo18) | ((with_reducible refine gate_callee (f := 40) rfl ?_); refine goesL_ (some 17) rfl rfl Try.func40 (by kernel_rfl) rfl #[.agg #[.slice Ao17 t298.length co17, .slice Ao18 t301.length co18]] rfl nc_ ?_; (with_reducible refine (spec_TotalOf.calls k _ _ t298 _ _ t301 t304 t305 _ ?side1 ?side2 ?side3 ?side4 A8.out).mono ?_); (case side1 => exact kc_ (Kd.R_reads' HO300.out).2.2); (case side2 => exact (Kd.R_reads' HO300.out).2.1); (case side3 => exact kc_ (Kd.S_reads' HO303.out).2.2); (case side4 => exact (Kd.S_reads' HO303.out).2.1); rintro e w19 ⟨rfl, hb⟩; refine ⟨_, rfl, ?_⟩; replace HO300 := rb_ HO300 hb; replace HO303 := Aside0.mk (Kd.S_below (by (with_reducible repeat (first | apply Kd.S_alloc | apply Kd.S_drewN | apply Kd.S_drew)); exact HO303.out) hb); replace BK296 := bb_ BK296 hb; replace HB := Aside0.mk (below_step bl_ hb); clear hb; have hcz20_0 : w19.cell? ⟨gb296, 0, none⟩ = some (.slice A0_0 l0_0.length c0_0) := bc_ BK296.out 0; have hcz20_1 : w19.cell? ⟨gb296, 1, none⟩ = some (.slice A0_1 l0_1.length c0_1) := bc_ BK296.out 1; have hfz20_0 := blk_frozen BK296.out 0; have hfz20_1 := blk_frozen BK296.out 1) | ((with_reducible refine gate_callee (f := 38) rfl ?_); refine goesL_ (some 21) rfl rfl Try.func38 (by kernel_rfl) rfl #[.agg #[.slice A0_0 l0_0.length c0_0, .slice A0_1 l0_1.length c0_1]] rfl nc_ ?_; (with_reducible refine (laws_toNet.calls k _ _ l0_0 _ _ l0_1 t306 t309 _ ?side1 ?side2 ?side3 ?side4 A9.out).mono ?_); (case side1 => exact kc_ (Kd.C_below HR0_0.out HB.out)); (case side2 => exact HC0_0.out); (case side3 => exact kc_ (Kd.C_below HR0_1.out HB.out)); (case side4 => exact HC0_1.out); rintro e w21 ⟨v307, v310, rfl, ho0, ho1, hb⟩; refine ⟨_, rfl, ?_⟩; have HO308 := Aside0.mk (Kd.R_lower (rn_ ho0 HO300.out) bz_); replace HO300 := Aside0.mk (Kd.R_elder' (kr_ HO300.out) (Kd.R_base ho0) hb); have HO311 := Aside0.mk (Kd.S_lower (Kd.S_new' ho1 (Kd.S_lt (by (with_reducible repeat (first | apply Kd.S_alloc | apply Kd.S_drewN | apply Kd.S_drew)); exact HO303.out))) bz_); replace HO303 := Aside0.mk (Kd.S_elder' (by (with_reducible repeat (first | apply Kd.S_alloc | apply Kd.S_drewN | apply Kd.S_drew)); exact HO303.out) (Kd.S_base ho1) hb); replace BK296 := bb_ BK296 hb; replace HB := Aside0.mk (below_step bl_ hb); clear hb ho0 ho1) | ((with_reducible refine gate_dst (N := 6) rfl ?_); refine box_event rfl (N := 6) rfl (cs := #[.slice none 0 0, .slice none 0 0]) (t := 53) gs_ ?_; intro gb312 hg w22 hbox hb; replace HO300 := rb_ HO300 hb; replace HO303 := Aside0.mk (Kd.S_below (by (with_reducible repeat (first | apply Kd.S_alloc | apply Kd.S_drewN | apply Kd.S_drew)); exact HO303.out) hb); replace HO308 := rb_ HO308 hb; replace HO311 := Aside0.mk (Kd.S_below (by (with_reducible repeat (first | apply Kd.S_alloc | apply Kd.S_drewN | apply Kd.S_drew)); exact HO311.out) hb); have BK312 := Aside0.mk (hbox); have GW312 := Aside0.mk ((by rw [hg]; exact bz_ : w.heap.size ≤ gb312)); have GE312 := GW312; replace HB := Aside0.mk (below_step bl_ hb); have NB296_312 := nl_ hg BK296; have NB312_296 := nm_ hg BK296; replace BK296 := bb_ BK296 hb; clear hb hbox hg; obtain ⟨Ao23, co23, eo23⟩ := Kd.R_slice HO308.out; subst eo23; have hnb24 := NB312_296.out; have hnc24 := NB296_312.out; have hcz25_0 : w22.cell? ⟨gb312, 0, none⟩ = some (.slice none 0 0) := bc_ BK312.out 0; have hcz25_1 : w22.cell? ⟨gb312, 1, none⟩ = some (.slice none 0 0) := bc_ BK312.out 1; have hfz25_0 := blk_frozen BK312.out 0; have hfz25_1 := blk_frozen BK312.out 1; obtain ⟨Ao26, co26, eo26⟩ := Kd.S_slice HO311.out; subst eo26) | ((with_reducible refine gate_callee (f := 41) rfl ?_); refine goesL_ (some 24) rfl rfl Try.func41 (by kernel_rfl) rfl #[.agg #[.slice Ao23 t306.length co23, .slice Ao26 t309.length co26]] rfl nc_ ?_; (with_reducible refine (impl_TotalOf.calls k _ _ t306 _ _ t309 t313 t314 _ ?side1 ?side2 ?side3 ?side4 A10.out).mono ?_); (case side1 => exact (Kd.R_reads' (kr_ (rs2_ HO308.out BK312.out (.slice Ao23 t306.length co23) (.slice Ao26 t309.length co26)))).2.2); (case side2 => exact (Kd.R_reads' HO308.out).2.1); (case side3 => refine (Kd.S_reads' (e := 95) (base := w.heap.size) (ok := fun k_ => (True ∧ some k_ ≠ (.slice Ao18 t301.length co18 : Value).ownBlock)) (n := t309.length) (c := co26) ?_).2.2; exact (by (with_reducible repeat (first | apply Kd.S_alloc | apply Kd.S_drewN | apply Kd.S_drew)); exact (Kd.S_mono (Kd.S_far (p := ⟨gb312, 1, none⟩) (Kd.S_far (p := ⟨gb312, 0, none⟩) (Kd.S_types HO311.out BK312.out (by decide)) (fun _ hk => hk.2) (.slice Ao23 t306.length co23)) (fun _ hk => hk.2) (.slice Ao26 t309.length co26)) (fun _ h_ => h_.1)))); (case side4 => exact (Kd.S_reads' HO311.out).2.1); rintro e w27 ⟨rfl, hb⟩; refine ⟨_, rfl, ?_⟩; replace HO300 := Aside0.mk (Kd.R_below (kr_ (rs2_ HO300.out BK312.out (.slice Ao23 t306.length co23) (.slice Ao26 t309.length co26))) hb); replace HO303 := Aside0.mk (Kd.S_below (by (with_reducible repeat (first | apply Kd.S_alloc | apply Kd.S_drewN | apply Kd.S_drew)); exact (Kd.S_mono (Kd.S_far (p := ⟨gb312, 1, none⟩) (Kd.S_far (p := ⟨gb312, 0, none⟩) (Kd.S_types HO303.out BK312.out (by decide)) (fun _ hk => hk.2) (.slice Ao23 t306.length co23)) (fun _ hk => hk.2) (.slice Ao26 t309.length co26)) (fun _ h_ => h_.1))) hb); replace HO308 := Aside0.mk (Kd.R_below (kr_ (rs2_ HO308.out BK312.out (.slice Ao23 t306.length co23) (.slice Ao26 t309.length co26))) hb); replace HO311 := Aside0.mk (Kd.S_below (by (with_reducible repeat (first | apply Kd.S_alloc | apply Kd.S_drewN | apply Kd.S_drew)); exact (Kd.S_mono (Kd.S_far (p := ⟨gb312, 1, none⟩) (Kd.S_far (p := ⟨gb312, 0, none⟩) (Kd.S_types HO311.out BK312.out (by decide)) (fun _ hk => hk.2) (.slice Ao23 t306.length co23)) (fun _ hk => hk.2) (.slice Ao26 t309.length co26)) (fun _ h_ => h_.1))) hb); replace BK296 := Aside0.mk (blk_below (g := gb296) (o := .cells #[.slice A0_0 l0_0.length c0_0, .slice A0_1 l0_1.length c0_1] 65 (0, 0)) kz_ hb); replace BK312 := Aside0.mk (blk_below (g := gb312) (o := .cells #[.slice Ao23 t306.length co23, .slice Ao26 t309.length co26] 53 (0, 0)) (by (with_reducible repeat (first | refine blk_drewN ?_ _ | refine blk_drew ?_ | refine blk_alloc ?_ _)); refine blk_put (cs := #[.slice Ao23 t306.length co23, .slice none 0 0]) ?_ 1 _ rfl; (with_reducible repeat (first | refine blk_drewN ?_ _ | refine blk_drew ?_ | refine blk_alloc ?_ _)); refine blk_put (cs := #[.slice none 0 0, .slice none 0 0]) ?_ 0 _ rfl; exact kb_ BK312.out) hb); replace HB := Aside0.mk (below_step bl_ hb); clear hb))
 (try simp only [Act.put, List.setIfInBounds_toArray, List.set_cons_zero, List.set_cons_succ])
 go_cut [34] (fun v34 wc => ∃ (kq : Nat) (x34_10 : Bool), v34 = .bool x34_10 ∧ Aside0 (laws_FnExactTotalOf.j0 kq x34_10 l0_0 l0_1 t306 t309 = some r) ∧ Aside0 (kq ≤ k) ∧ Aside0 (Kd.R k92 92 wc w.heap.size (fun _ => True) (.slice Ao23 t306.length co23) t306) ∧ Aside0 (Kd.S k95 95 wc w.heap.size (fun _ => True) (.slice Ao26 t309.length co26) t309) ∧ Aside0 (wc.heap[gb296]? = some (.cells #[(.slice A0_0 l0_0.length c0_0), (.slice A0_1 l0_1.length c0_1)] 65 (0, 0))) ∧ Aside0 (wc.heap[gb312]? = some (.cells #[(.slice Ao23 t306.length co23), (.slice Ao26 t309.length co26)] 53 (0, 0))) ∧ Aside0 (Below w.heap.size w wc))
 case first =>
  have H := HC11.out
  clear HC11
  by_cases c28 : t313 = t304
  rotate_left
  ·rw [if_neg c28] at H
   exact absurd H (by simp)
  rw [if_pos c28] at H
  have c28b0 : (t313 == t304) = true := beq_iff_eq.mpr c28
  have c28b1 : (t313 != t304) = false := bne_eq_false_iff_eq.mpr c28
  clear c28
  (first | rw [c28b0] | (simp only [i64_w, i32_w]; rw [c28b0]) | skip)
  have H' := Aside0.mk H
  clear H
  go_wp2
  go_meet
  case rel => exact ⟨_, ((t314 != t305)), (by first | rfl | (simp; done) | (simp [*]; done)), H', ⟨by first | omega | exact Nat.le_refl _⟩, ⟨by exact kr_ (Kd.R_mono HO308.out (fun _ hk => trivial))⟩, ⟨by (with_reducible repeat (first | apply Kd.S_alloc | apply Kd.S_drewN | apply Kd.S_drew)); exact Kd.S_mono HO311.out (fun _ hk => trivial)⟩, ⟨by exact kb_ BK296.out⟩, ⟨by exact kb_ BK312.out⟩, ⟨bl_⟩⟩
 clear HC11
 try clear c2
 try clear p2
 try clear c3
 try clear c3b0
 try clear c4
 try clear c9
 try clear c24
 try clear c28
 try clear c28b0
 try clear c28b1
 try clear hcz13_0
 try clear hcz13_1
 try clear hcz15_0
 try clear hcz15_1
 try clear hcz20_0
 try clear hcz20_1
 try clear hcz25_0
 try clear hcz25_1
 try clear hcz5_0
 try clear hcz5_1
 try clear hfz13_0
 try clear hfz13_1
 try clear hfz15_0
 try clear hfz15_1
 try clear hfz20_0
 try clear hfz20_1
 try clear hfz25_0
 try clear hfz25_1
 try clear hfz5_0
 try clear hfz5_1
 obtain ⟨kq, x34_10, rfl, HA, HJ10, HO_313000, HO_313001, BK296, BK312, HB⟩ := hcut
 cases kq with
 | zero => exact absurd HA.out (by simp [laws_FnExactTotalOf.j0])
 | succ kj10 => ?_
 have H := HA.out
 clear HA
 simp only [laws_FnExactTotalOf.j0] at H
 by_cases c29 : x34_10 = true
 ·subst c29
  have H1 : (none) = some r := by rw [if_pos rfl] at H; exact H
  clear H
  have H := H1
  clear H1
  exact absurd H (by simp)
 replace c29 := Bool.eq_false_iff.mpr c29
 subst c29
 have H1 : ((laws_toNet.f kj10 l0_0 l0_1).bind fun bt315 => ((laws_eqNet.f kj10 t306 t309 bt315.1 bt315.2).bind fun t321 => (if t321 = true then (some true) else (none)))) = some r := by rw [if_neg (show ¬ (false = true) by decide)] at H; exact H
 clear H
 have H := H1
 clear H1
 replace H := Option.bind_eq_some_iff.mp H
 obtain ⟨⟨t315, t318⟩, A300, H⟩ := H
 replace H : ((laws_eqNet.f kj10 t306 t309 t315 t318).bind fun t321 => (if t321 = true then (some true) else (none))) = some r := H
 have A30 := Aside0.mk A300
 clear A300
 replace H := Option.bind_eq_some_iff.mp H
 obtain ⟨t321, A310, H⟩ := H
 replace H : (if t321 = true then (some true) else (none)) = some r := H
 have A31 := Aside0.mk A310
 clear A310
 by_cases c32 : t321 = true
 rotate_left
 ·replace c32 := Bool.eq_false_iff.mpr c32
  subst c32
  have H1 : (none) = some r := by rw [if_neg (show ¬ (false = true) by decide)] at H; exact H
  clear H
  have H := H1
  clear H1
  exact absurd H (by simp)
 subst c32
 have H1 : (some true) = some r := by rw [if_pos rfl] at H; exact H
 clear H
 have H := H1
 clear H1
 obtain rfl := Option.some.inj H
 try go_wp2
 replace HO_313000 := Aside0.mk (Kd.R_drew HO_313000.out)
 replace HO_313001 := Aside0.mk (Kd.S_drew HO_313001.out)
 replace BK296 := Aside0.mk (blk_drew BK296.out)
 replace BK312 := Aside0.mk (blk_drew BK312.out)
 replace HB := Aside0.mk (below_drew1 HB.out)
 refine start_ (n := 5) (S := fun w' => w'.cell? ⟨gb312, 0, none⟩ = some (.slice Ao23 t306.length co23) ∧ w'.cell? ⟨gb312, 1, none⟩ = some (.slice Ao26 t309.length co26) ∧ w'.cell? ⟨gb296, 0, none⟩ = some (.slice A0_0 l0_0.length c0_0) ∧ w'.cell? ⟨gb296, 1, none⟩ = some (.slice A0_1 l0_1.length c0_1)) (ds := []) #[false, false, false, false, false] (by kernel_rfl) rfl rfl ⟨bc_ BK312.out 0, bc_ BK312.out 1, bc_ BK296.out 0, bc_ BK296.out 1⟩ (fun hHeld => ?_)
 generalize wc.drew = w33 at HO_313000 HO_313001 BK296 BK312 HB hHeld ⊢
 refine tk4_ 0 (some 35) (h := ?_)
 refine tk4_ 1 (some 36) (h := ?_)
 refine on_ 2 (some 37) (h := fun K hK => ?_)
 refine goes_ Try.func38 (by kernel_rfl) rfl #[.agg #[.slice A0_0 l0_0.length c0_0, .slice A0_1 l0_1.length c0_1]] (by rfl) rfl rfl nc_ ?_
 with_reducible refine (laws_toNet.calls kj10 _ _ l0_0 _ _ l0_1 t315 t318 _ ?side1 ?side2 ?side3 ?side4 A30.out).mono ?_
 (case side1 => exact kc_ (Kd.C_below HR0_0.out HB.out))
 (case side2 => exact HC0_0.out)
 (case side3 => exact kc_ (Kd.C_below HR0_1.out HB.out))
 (case side4 => exact HC0_1.out)
 rintro e w34 ⟨v316, v319, rfl, ho0, ho1, hb⟩
 refine ⟨_, rfl, ?_⟩
 have HO317 := Aside0.mk (Kd.R_lower (rn_ ho0 HO_313000.out) bz_)
 replace HO_313000 := Aside0.mk (Kd.R_elder' (kr_ HO_313000.out) (Kd.R_base ho0) hb)
 have HO320 := Aside0.mk (Kd.S_lower (Kd.S_new' ho1 (Kd.S_lt (by (with_reducible repeat (first | apply Kd.S_alloc | apply Kd.S_drewN | apply Kd.S_drew)); exact HO_313001.out))) bz_)
 replace HO_313001 := Aside0.mk (Kd.S_elder' (by (with_reducible repeat (first | apply Kd.S_alloc | apply Kd.S_drewN | apply Kd.S_drew)); exact HO_313001.out) (Kd.S_base ho1) hb)
 replace BK296 := bb_ BK296 hb
 replace BK312 := bb_ BK312 hb
 replace HB := Aside0.mk (below_step bl_ hb)
 clear hb ho0 ho1
 obtain ⟨Ao35, co35, eo35⟩ := Kd.R_slice HO317.out
 (first | subst eo35 | (injection eo35 with f1_ f2_ f3_; have f4_ := f1_.symm; have f5_ := f3_.symm; clear f1_ f2_ f3_; subst f4_; subst f5_))
 obtain ⟨Ao36, co36, eo36⟩ := Kd.S_slice HO320.out
 (first | subst eo36 | (injection eo36 with f1_ f2_ f3_; have f4_ := f1_.symm; have f5_ := f3_.symm; clear f1_ f2_ f3_; subst f4_; subst f5_))
 refine hK.out _ _ ⟨bc_ BK312.out 0, bc_ BK312.out 1, bc_ BK296.out 0, bc_ BK296.out 1⟩ (fun hHeld => ?_)
 clear hK K
 refine norm_ nn_ ?_
 refine on_ 3 (some 38) (h := fun K hK => ?_)
 refine goes_ Try.func31 (by kernel_rfl) rfl #[.agg #[.slice Ao23 t306.length co23, .slice Ao26 t309.length co26], .agg #[.slice Ao35 t315.length co35, .slice Ao36 t318.length co36]] (by rfl) rfl rfl nc_ ?_
 with_reducible refine (laws_eqNet.calls kj10 _ _ t306 _ _ t309 _ _ t315 _ _ t318 true _ ?side1 ?side2 ?side3 ?side4 ?side5 ?side6 ?side7 ?side8 A31.out).mono ?_
 (case side1 => exact kc_ (Kd.R_reads' HO_313000.out).2.2)
 (case side2 => exact (Kd.R_reads' HO_313000.out).2.1)
 (case side3 => exact kc_ (Kd.S_reads' HO_313001.out).2.2)
 (case side4 => exact (Kd.S_reads' HO_313001.out).2.1)
 (case side5 => exact kc_ (Kd.R_reads' HO317.out).2.2)
 (case side6 => exact (Kd.R_reads' HO317.out).2.1)
 (case side7 => exact kc_ (Kd.S_reads' HO320.out).2.2)
 (case side8 => exact (Kd.S_reads' HO320.out).2.1)
 rintro e w37 ⟨rfl, hb⟩
 refine ⟨_, rfl, ?_⟩
 replace HO_313000 := rb_ HO_313000 hb
 replace HO_313001 := Aside0.mk (Kd.S_below (by (with_reducible repeat (first | apply Kd.S_alloc | apply Kd.S_drewN | apply Kd.S_drew)); exact HO_313001.out) hb)
 replace HO317 := rb_ HO317 hb
 replace HO320 := Aside0.mk (Kd.S_below (by (with_reducible repeat (first | apply Kd.S_alloc | apply Kd.S_drewN | apply Kd.S_drew)); exact HO320.out) hb)
 replace BK296 := bb_ BK296 hb
 replace BK312 := bb_ BK312 hb
 replace HB := Aside0.mk (below_step bl_ hb)
 clear hb
 refine hK.out _ _ ⟨bc_ BK312.out 0, bc_ BK312.out 1, bc_ BK296.out 0, bc_ BK296.out 1⟩ (fun hHeld => ?_)
 clear hK K
 refine norm_ nn_ ?_
 refine pu_ 4 (some 39) (h := ?_)
 refine done_ (by kernel_rfl) ?_
 try go_wp2
 go_ret
 exact ⟨ng_, bl_⟩

end Go.Proofs.Ytipfikmbldgliaa.PNX
