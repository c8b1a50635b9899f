/- What this text proves: the machine calls of these functions return what the plain functions say. Conditions: as each theorem says. Printed by a program of this session out of the translation. -/
import Derived.Test.YtipfikmbldgliaaPNXx0
import Derived.Test.YtipfikmbldgliaaPNXx3
import Derived.Test.YtipfikmbldgliaaPNXx6
import Derived.Test.YtipfikmbldgliaaPNXx9
import Derived.Test.YtipfikmbldgliaaPNXx12
namespace Go.Proofs.Ytipfikmbldgliaa.PNX
open Go.RowKit Go.Proofs.YtipfikmbldgliaaW.PrintWords Go.Proofs.YtipfikmbldgliaaW.PrintLast Go.Proofs.YtipfikmbldgliaaW.PrintMore
attribute [local go_sem] max2_int min2_int max_two min_two max_three min_three max_four min_four   -- for this text's walks alone
set_option linter.unusedVariables false
set_option linter.unusedSimpArgs false

/-! ### impl_PictureOf: function 43 -/
mutual
def impl_PictureOf.l0 : Nat → Int → List (S92) → Int → Int → List (S92) → List (S95) → Option (Int × Bool × Bool)
 | 0, _, _, _, _, _, _ => none
 | k + 1, x5, x16, x17, x18, x338000, x338001 => if x18 < x17 then (if 0 ≤ x18 then (if x18 < (x16.length : Int) then (impl_PictureOf.l0 k (wrap64 (x5 + ((rd_T92 x16 x18).f2))) x16 x17 (wrap64 (x18 + 1)) x338000 x338001) else (none)) else (none)) else (impl_PictureOf.l1 k x5 x338001 (x338001.length : Int) 0 x338000 x338001)
def impl_PictureOf.l1 : Nat → Int → List (S95) → Int → Int → List (S92) → List (S95) → Option (Int × Bool × Bool)
 | 0, _, _, _, _, _, _ => none
 | k + 1, x5, x28, x29, x30, x338000, x338001 => if x30 < x29 then (if 0 ≤ x30 then (if x30 < (x28.length : Int) then (impl_PictureOf.l2 k x5 x28 x29 x30 ((rd_T95 x28 x30).f4) (((rd_T95 x28 x30).f4).length : Int) 0 x338000 x338001) else (none)) else (none)) else ((impl_Net_isWhole.f x338000 x338001).bind fun t344 => (some (x5, t344, true)))
def impl_PictureOf.l2 : Nat → Int → List (S95) → Int → Int → List Int → Int → Int → List (S92) → List (S95) → Option (Int × Bool × Bool)
 | 0, _, _, _, _, _, _, _, _, _ => none
 | k + 1, x5, x28, x29, x30, x35, x36, x37, x338000, x338001 => if x37 < x36 then (if 0 ≤ x37 then (if x37 < (x35.length : Int) then (impl_PictureOf.l2 k (wrap64 (x5 + (rd x35 x37))) x28 x29 x30 x35 x36 (wrap64 (x37 + 1)) x338000 x338001) else (none)) else (none)) else (impl_PictureOf.l1 k x5 x28 x29 (wrap64 (x30 + 1)) x338000 x338001)
end
def impl_PictureOf.f (k : Nat) (l0_0 : List (S92)) (l0_1 : List (S95)) : Option (Int × Bool × Bool) := (impl_isNet.f k l0_0 l0_1).bind fun t338 => (if t338 = true then (impl_PictureOf.l0 k 0 l0_0 (l0_0.length : Int) 0 l0_0 l0_1) else (some (0, false, false)))
theorem impl_PictureOf.mono_l : ∀ k, (∀ y0 y1 y2 y3 y4 y5, LeO (impl_PictureOf.l0 k y0 y1 y2 y3 y4 y5) (impl_PictureOf.l0 (k + 1) y0 y1 y2 y3 y4 y5)) ∧ (∀ y0 y1 y2 y3 y4 y5, LeO (impl_PictureOf.l1 k y0 y1 y2 y3 y4 y5) (impl_PictureOf.l1 (k + 1) y0 y1 y2 y3 y4 y5)) ∧ (∀ y0 y1 y2 y3 y4 y5 y6 y7 y8, LeO (impl_PictureOf.l2 k y0 y1 y2 y3 y4 y5 y6 y7 y8) (impl_PictureOf.l2 (k + 1) y0 y1 y2 y3 y4 y5 y6 y7 y8))
 | 0 => ⟨fun _ _ _ _ _ _ r h => by simp [impl_PictureOf.l0] at h, fun _ _ _ _ _ _ r h => by simp [impl_PictureOf.l1] at h, fun _ _ _ _ _ _ _ _ _ r h => by simp [impl_PictureOf.l2] at h⟩
 | k + 1 => by
  obtain ⟨ih0, ih1, ih2⟩ := impl_PictureOf.mono_l k
  refine ⟨?_, ?_, ?_⟩
  ·intro y0 y1 y2 y3 y4 y5
   unfold impl_PictureOf.l0
   repeat' first
   | (with_reducible exact ih0 _ _ _ _ _ _)
   | (with_reducible exact ih1 _ _ _ _ _ _)
   | (with_reducible exact ih2 _ _ _ _ _ _ _ _ _)
   | (with_reducible exact impl_isNet.mono _ _ _)
   | (with_reducible exact LeO.refl _)
   | (with_reducible exact LeO.none _)
   | (with_reducible refine LeO.ite ?_ ?_)
   | (with_reducible refine LeO.bind ?_ (fun _ => ?_))
   | exact ih0 _ _ _ _ _ _
   | exact ih1 _ _ _ _ _ _
   | exact ih2 _ _ _ _ _ _ _ _ _
   | exact impl_isNet.mono _ _ _
   | exact LeO.none _
   | refine LeO.ite ?_ ?_
   | refine LeO.bind ?_ (fun _ => ?_)
  ·intro y0 y1 y2 y3 y4 y5
   unfold impl_PictureOf.l1
   repeat' first
   | (with_reducible exact ih0 _ _ _ _ _ _)
   | (with_reducible exact ih1 _ _ _ _ _ _)
   | (with_reducible exact ih2 _ _ _ _ _ _ _ _ _)
   | (with_reducible exact impl_isNet.mono _ _ _)
   | (with_reducible exact LeO.refl _)
   | (with_reducible exact LeO.none _)
   | (with_reducible refine LeO.ite ?_ ?_)
   | (with_reducible refine LeO.bind ?_ (fun _ => ?_))
   | exact ih0 _ _ _ _ _ _
   | exact ih1 _ _ _ _ _ _
   | exact ih2 _ _ _ _ _ _ _ _ _
   | exact impl_isNet.mono _ _ _
   | exact LeO.none _
   | refine LeO.ite ?_ ?_
   | refine LeO.bind ?_ (fun _ => ?_)
  ·intro y0 y1 y2 y3 y4 y5 y6 y7 y8
   unfold impl_PictureOf.l2
   repeat' first
   | (with_reducible exact ih0 _ _ _ _ _ _)
   | (with_reducible exact ih1 _ _ _ _ _ _)
   | (with_reducible exact ih2 _ _ _ _ _ _ _ _ _)
   | (with_reducible exact impl_isNet.mono _ _ _)
   | (with_reducible exact LeO.refl _)
   | (with_reducible exact LeO.none _)
   | (with_reducible refine LeO.ite ?_ ?_)
   | (with_reducible refine LeO.bind ?_ (fun _ => ?_))
   | exact ih0 _ _ _ _ _ _
   | exact ih1 _ _ _ _ _ _
   | exact ih2 _ _ _ _ _ _ _ _ _
   | exact impl_isNet.mono _ _ _
   | exact LeO.none _
   | refine LeO.ite ?_ ?_
   | refine LeO.bind ?_ (fun _ => ?_)
theorem impl_PictureOf.mono : ∀ a0 a1 k, LeO (impl_PictureOf.f k a0 a1) (impl_PictureOf.f (k + 1) a0 a1) := by
 intro a0 a1 k
 obtain ⟨ih0, ih1, ih2⟩ := impl_PictureOf.mono_l k
 unfold impl_PictureOf.f
 repeat' first
   | (with_reducible exact ih0 _ _ _ _ _ _)
   | (with_reducible exact ih1 _ _ _ _ _ _)
   | (with_reducible exact ih2 _ _ _ _ _ _ _ _ _)
   | (with_reducible exact impl_isNet.mono _ _ _)
   | (with_reducible exact LeO.refl _)
   | (with_reducible exact LeO.none _)
   | (with_reducible refine LeO.ite ?_ ?_)
   | (with_reducible refine LeO.bind ?_ (fun _ => ?_))
   | exact ih0 _ _ _ _ _ _
   | exact ih1 _ _ _ _ _ _
   | exact ih2 _ _ _ _ _ _ _ _ _
   | exact impl_isNet.mono _ _ _
   | exact LeO.none _
   | refine LeO.ite ?_ ?_
   | refine LeO.bind ?_ (fun _ => ?_)
set_option maxHeartbeats 8000000 in
set_option maxRecDepth 100000 in
theorem impl_PictureOf.calls (k : Nat) (A0_0 : Option Addr) (c0_0 : Nat) (l0_0 : List (S92)) (A0_1 : Option Addr) (c0_1 : Nat) (l0_1 : List (S95)) (r1 : Int) (r2 : Bool) (r3 : Bool) (w : World) (hr0_0 : Kd.C k92 w A0_0 l0_0.length l0_0) (hc0_0 : l0_0.length ≤ c0_0) (hr0_1 : Kd.C k95 w A0_1 l0_1.length l0_1) (hc0_1 : l0_1.length ≤ c0_1) (h : impl_PictureOf.f k l0_0 l0_1 = some (r1, r2, r3)) :
  Calls Try.prog 43 #[.agg #[.slice A0_0 l0_0.length c0_0, .slice A0_1 l0_1.length c0_1]] w fun e w' => e = .returned (.tuple #[.int .i64 r1, .bool r2, .bool r3]) ∧ Below w.heap.size w w' := by
 have hu53 := Try.underlying53
 have hu92 := Try.underlying92
 have hu95 := Try.underlying95
 have HR0_0 := Aside0.mk hr0_0
 have HC0_0 := Aside0.mk hc0_0
 clear hr0_0 hc0_0
 have HR0_1 := Aside0.mk hr0_1
 have HC0_1 := Aside0.mk hc0_1
 clear hr0_1 hc0_1
 have HB := Aside0.mk (Below.refl w.heap.size w)
 have H : ((impl_isNet.f k l0_0 l0_1).bind fun t338 => (if t338 = true then (impl_PictureOf.l0 k 0 l0_0 (l0_0.length : Int) 0 l0_0 l0_1) else (some (0, false, false)))) = some (r1, r2, r3) := h
 clear h
 replace H := Option.bind_eq_some_iff.mp H
 obtain ⟨t338, A20, H⟩ := H
 replace H : (if t338 = true then (impl_PictureOf.l0 k 0 l0_0 (l0_0.length : Int) 0 l0_0 l0_1) else (some (0, false, false))) = some (r1, r2, r3) := H
 have A2 := Aside0.mk A20
 clear A20
 by_cases c3 : t338 = true
 rotate_left
 ·replace c3 := Bool.eq_false_iff.mpr c3
  subst c3
  have H1 : (some (0, false, false)) = some (r1, r2, r3) := by rw [if_neg (show ¬ (false = true) by decide)] at H; exact H
  clear H
  have H := H1
  clear H1
  simp only [Option.some.injEq, Prod.mk.injEq] at H
  obtain ⟨rfl, rfl, rfl⟩ := H
  go_enter Try.func43, Try.ntmps43
  go_wp2_with (first | ((with_reducible refine gate_dst (N := 1) rfl ?_); refine box_event rfl (N := 1) rfl (cs := #[.slice A0_0 l0_0.length c0_0, .slice A0_1 l0_1.length c0_1]) (t := 53) gs_ ?_; intro gb337 hg w27 hbox hb; have BK337 := Aside0.mk (hbox); have GW337 := Aside0.mk ((by rw [hg]; exact bz_ : w.heap.size ≤ gb337)); have GE337 := GW337; replace HB := Aside0.mk (below_step bl_ hb); clear hb hbox hg; have hcz28_0 : w27.cell? ⟨gb337, 0, none⟩ = some (.slice A0_0 l0_0.length c0_0) := bc_ BK337.out 0; have hcz28_1 : w27.cell? ⟨gb337, 1, none⟩ = some (.slice A0_1 l0_1.length c0_1) := bc_ BK337.out 1; have hfz28_0 := blk_frozen BK337.out 0; have hfz28_1 := blk_frozen BK337.out 1) | ((with_reducible refine gate_callee (f := 76) rfl ?_); refine goesL_ (some 13) rfl rfl Try.func76 (by kernel_rfl) rfl #[.agg #[.slice A0_0 l0_0.length c0_0, .slice A0_1 l0_1.length c0_1]] rfl nc_ ?_; (with_reducible refine (impl_isNet.calls k _ _ l0_0 _ _ l0_1 false _ ?side1 ?side2 ?side3 ?side4 A2.out).mono ?_); (case side1 => exact kc_ (Kd.C_below HR0_0.out HB.out)); (case side2 => exact HC0_0.out); (case side3 => exact kc_ (Kd.C_below HR0_1.out HB.out)); (case side4 => exact HC0_1.out); rintro e w29 ⟨rfl, hb⟩; refine ⟨_, rfl, ?_⟩; replace BK337 := bb_ BK337 hb; replace HB := Aside0.mk (below_step bl_ hb); clear hb))
  go_ret3
  exact ⟨ng_, bl_⟩
 subst c3
 have H1 : (impl_PictureOf.l0 k 0 l0_0 (l0_0.length : Int) 0 l0_0 l0_1) = some (r1, r2, r3) := by rw [if_pos rfl] at H; exact H
 clear H
 have H := H1
 clear H1
 have H' := Aside0.mk H
 clear H
 go_enter Try.func43, Try.ntmps43
 go_wp2_with (first | ((with_reducible refine gate_dst (N := 1) rfl ?_); refine box_event rfl (N := 1) rfl (cs := #[.slice A0_0 l0_0.length c0_0, .slice A0_1 l0_1.length c0_1]) (t := 53) gs_ ?_; intro gb337 hg w4 hbox hb; have BK337 := Aside0.mk (hbox); have GW337 := Aside0.mk ((by rw [hg]; exact bz_ : w.heap.size ≤ gb337)); have GE337 := GW337; replace HB := Aside0.mk (below_step bl_ hb); clear hb hbox hg; have hcz5_0 : w4.cell? ⟨gb337, 0, none⟩ = some (.slice A0_0 l0_0.length c0_0) := bc_ BK337.out 0; have hcz5_1 : w4.cell? ⟨gb337, 1, none⟩ = some (.slice A0_1 l0_1.length c0_1) := bc_ BK337.out 1; have hfz5_0 := blk_frozen BK337.out 0; have hfz5_1 := blk_frozen BK337.out 1) | ((with_reducible refine gate_callee (f := 76) rfl ?_); refine goesL_ (some 13) rfl rfl Try.func76 (by kernel_rfl) rfl #[.agg #[.slice A0_0 l0_0.length c0_0, .slice A0_1 l0_1.length c0_1]] rfl nc_ ?_; (with_reducible refine (impl_isNet.calls k _ _ l0_0 _ _ l0_1 true _ ?side1 ?side2 ?side3 ?side4 A2.out).mono ?_); (case side1 => exact kc_ (Kd.C_below HR0_0.out HB.out)); (case side2 => exact HC0_0.out); (case side3 => exact kc_ (Kd.C_below HR0_1.out HB.out)); (case side4 => exact HC0_1.out); rintro e w6 ⟨rfl, hb⟩; refine ⟨_, rfl, ?_⟩; replace BK337 := bb_ BK337 hb; replace HB := Aside0.mk (below_step bl_ hb); clear hb; have hcz7_0 : w6.cell? ⟨gb337, 0, none⟩ = some (.slice A0_0 l0_0.length c0_0) := bc_ BK337.out 0; have hcz7_1 : w6.cell? ⟨gb337, 1, none⟩ = some (.slice A0_1 l0_1.length c0_1) := bc_ BK337.out 1; have hfz7_0 := blk_frozen BK337.out 0; have hfz7_1 := blk_frozen BK337.out 1))
 go_loopg [5, 18] k (fun kq v5 v18 w' => ∃ (x5_1 : Int) (x18_1 : Int), v5 = .int .i64 x5_1 ∧ v18 = .int .i64 x18_1 ∧ Aside0 (impl_PictureOf.l0 kq x5_1 l0_0 (l0_0.length : Int) x18_1 l0_0 l0_1 = some (r1, r2, r3)) ∧ Aside0 (kq ≤ k) ∧ Aside0 (w'.heap[gb337]? = some (.cells #[(.slice A0_0 l0_0.length c0_0), (.slice A0_1 l0_1.length c0_1)] 53 (0, 0))) ∧ Aside0 (Below w.heap.size w w'))
 case atStart => exact ⟨(0), (0), (by first | rfl | (simp; done) | (simp [*]; done)), (by first | rfl | (simp; done) | (simp [*]; done)), H', ⟨Nat.le_refl _⟩, ⟨by exact kb_ BK337.out⟩, ⟨bl_⟩⟩
 clear H'
 try clear p2
 try clear c3
 try clear c4
 try clear c7
 try clear hcz5_0
 try clear hcz5_1
 try clear hcz7_0
 try clear hcz7_1
 try clear hfz5_0
 try clear hfz5_1
 try clear hfz7_0
 try clear hfz7_1
 obtain ⟨x5_1, x18_1, rfl, rfl, HA, HK1, BK337, HB⟩ := hrel
 cases gk with
 | zero => exact absurd HA.out (by simp [impl_PictureOf.l0])
 | succ k1 => ?_
 have H := HA.out
 clear HA
 simp only [impl_PictureOf.l0] at H
 by_cases c8 : x18_1 < (l0_0.length : Int)
 ·rw [if_pos c8] at H
  have c8b0 : decide (x18_1 < (l0_0.length : Int)) = true := decide_eq_true c8
  clear c8
  by_cases c9 : 0 ≤ x18_1
  rotate_left
  ·rw [if_neg c9] at H
   exact absurd H (by simp)
  rw [if_pos c9] at H
  have c9b0 : decide (0 ≤ x18_1) = true := decide_eq_true c9
  clear c9
  by_cases c10 : x18_1 < (l0_0.length : Int)
  rotate_left
  ·rw [if_neg c10] at H
   exact absurd H (by simp)
  rw [if_pos c10] at H
  have c10b0 : decide (x18_1 < (l0_0.length : Int)) = true := decide_eq_true c10
  clear c10
  have H' := Aside0.mk H
  clear H
  have p339 : 0 ≤ (x18_1 : Int) := of_decide_eq_true (by first | (with_reducible assumption) | assumption)
  have q339 : x18_1 < (l0_0.length : Int) := of_decide_eq_true (by first | (with_reducible assumption) | assumption)
  obtain ⟨ad339, e339, hx339_0, hx339_1, hx339_2⟩ := at_T92 HR0_0.out x18_1 p339 q339
  cases e339
  replace hx339_0 := (HB.out.cell (World.block_lt_of_cell? w _ hx339_0)).trans hx339_0
  replace hx339_1 := (HB.out.cell (World.block_lt_of_cell? w _ hx339_1)).trans hx339_1
  replace hx339_2 := (HB.out.cell (World.block_lt_of_cell? w _ hx339_2)).trans hx339_2
  replace p339 := eq_true p339
  replace q339 := eq_true q339
  go_wp2_with (first | ((with_reducible refine gate_dst (N := 7) rfl ?_); refine box_event rfl (N := 7) rfl (cs := #[.int .i64 0, .bool false, .int .i64 0]) (t := 92) gs_ ?_; intro gb340 hg w11 hbox hb; have BK340 := Aside0.mk (hbox); have GW340 := Aside0.mk ((by rw [hg]; exact bz_ : w.heap.size ≤ gb340)); have GE340 := GW340; replace HB := Aside0.mk (below_step bl_ hb); have NB337_340 := nl_ hg BK337; have NB340_337 := nm_ hg BK337; replace BK337 := bb_ BK337 hb; clear hb hbox hg; have hnb12 := NB340_337.out; have hnc12 := NB337_340.out; have hcz13_0 : w11.cell? ⟨gb340, 0, none⟩ = some (.int .i64 0) := bc_ BK340.out 0; have hcz13_1 : w11.cell? ⟨gb340, 1, none⟩ = some (.bool false) := bc_ BK340.out 1; have hcz13_2 : w11.cell? ⟨gb340, 2, none⟩ = some (.int .i64 0) := bc_ BK340.out 2; have hfz13_0 := blk_frozen BK340.out 0; have hfz13_1 := blk_frozen BK340.out 1; have hfz13_2 := blk_frozen BK340.out 2))
  go_roundg k1
  case measure => have := HK1.out; omega
  case rel => exact ⟨(wrap64 (x5_1 + ((rd_T92 l0_0 x18_1).f2))), (wrap64 (x18_1 + 1)), (by first | rfl | (simp; done) | (simp [*]; done)), (by first | rfl | (simp; done) | (simp [*]; done)), H', ⟨by have := HK1.out; omega⟩, ⟨kz_⟩, ⟨bl_⟩⟩
 rw [if_neg c8] at H
 have c8b0 : decide (x18_1 < (l0_0.length : Int)) = false := decide_eq_false c8
 clear c8
 have H' := Aside0.mk H
 clear H
 have hcz14_0 : wr.cell? ⟨gb337, 0, none⟩ = some (.slice A0_0 l0_0.length c0_0) := bc_ BK337.out 0
 have hcz14_1 : wr.cell? ⟨gb337, 1, none⟩ = some (.slice A0_1 l0_1.length c0_1) := bc_ BK337.out 1
 have hfz14_0 := blk_frozen BK337.out 0
 have hfz14_1 := blk_frozen BK337.out 1
 go_wp2
 go_loopg [5, 30] k1 (fun kq v5 v30 w' => ∃ (x5_2 : Int) (x30_2 : Int), v5 = .int .i64 x5_2 ∧ v30 = .int .i64 x30_2 ∧ Aside0 (impl_PictureOf.l1 kq x5_2 l0_1 (l0_1.length : Int) x30_2 l0_0 l0_1 = some (r1, r2, r3)) ∧ Aside0 (kq ≤ k1) ∧ Aside0 (w'.heap[gb337]? = some (.cells #[(.slice A0_0 l0_0.length c0_0), (.slice A0_1 l0_1.length c0_1)] 53 (0, 0))) ∧ Aside0 (Below w.heap.size w w'))
 case atStart => exact ⟨(x5_1), (0), (by first | rfl | (simp; done) | (simp [*]; done)), (by first | rfl | (simp; done) | (simp [*]; done)), H', ⟨Nat.le_refl _⟩, ⟨by exact kb_ BK337.out⟩, ⟨bl_⟩⟩
 clear H'
 try clear c1
 try clear p2
 try clear c3
 try clear p3
 try clear q3
 try clear hx3
 try clear c4
 try clear p6
 try clear c7
 try clear c8
 try clear c8b0
 try clear c9
 try clear c9b0
 try clear c10
 try clear c10b0
 try clear c12
 try clear hcz13_0
 try clear hcz13_1
 try clear hcz13_2
 try clear hcz14_0
 try clear hcz14_1
 try clear hcz5_0
 try clear hcz5_1
 try clear hcz7_0
 try clear hcz7_1
 try clear hfz13_0
 try clear hfz13_1
 try clear hfz13_2
 try clear hfz14_0
 try clear hfz14_1
 try clear hfz5_0
 try clear hfz5_1
 try clear hfz7_0
 try clear hfz7_1
 try clear hx339_0
 try clear hx339_1
 try clear hx339_2
 try clear p2
 try clear p339
 try clear q339
 obtain ⟨x5_2, x30_2, rfl, rfl, HA, HK2, BK337, HB⟩ := hrel
 cases gk with
 | zero => exact absurd HA.out (by simp [impl_PictureOf.l1])
 | succ k2 => ?_
 have H := HA.out
 clear HA
 simp only [impl_PictureOf.l1] at H
 by_cases c15 : x30_2 < (l0_1.length : Int)
 rotate_left
 ·rw [if_neg c15] at H
  have c15b0 : decide (x30_2 < (l0_1.length : Int)) = false := decide_eq_false c15
  clear c15
  replace H := Option.bind_eq_some_iff.mp H
  obtain ⟨t344, A240, H⟩ := H
  replace H : (some (x5_2, t344, true)) = some (r1, r2, r3) := H
  have A24 := Aside0.mk A240
  clear A240
  simp only [Option.some.injEq, Prod.mk.injEq] at H
  obtain ⟨rfl, rfl, rfl⟩ := H
  have hcz25_0 : wr.cell? ⟨gb337, 0, none⟩ = some (.slice A0_0 l0_0.length c0_0) := bc_ BK337.out 0
  have hcz25_1 : wr.cell? ⟨gb337, 1, none⟩ = some (.slice A0_1 l0_1.length c0_1) := bc_ BK337.out 1
  have hfz25_0 := blk_frozen BK337.out 0
  have hfz25_1 := blk_frozen BK337.out 1
  go_wp2_with (first | ((with_reducible refine gate_callee (f := 78) rfl ?_); refine goesL_ (some 48) rfl rfl Try.func78 (by kernel_rfl) rfl #[.agg #[.slice A0_0 l0_0.length c0_0, .slice A0_1 l0_1.length c0_1]] rfl nc_ ?_; (with_reducible refine (impl_Net_isWhole.calls _ _ l0_0 _ _ l0_1 t344 _ ?side1 ?side2 ?side3 ?side4 A24.out).mono ?_); (case side1 => exact kc_ (Kd.C_below HR0_0.out HB.out)); (case side2 => exact HC0_0.out); (case side3 => exact kc_ (Kd.C_below HR0_1.out HB.out)); (case side4 => exact HC0_1.out); rintro e w26 ⟨rfl, hb⟩; refine ⟨_, rfl, ?_⟩; replace BK337 := bb_ BK337 hb; replace HB := Aside0.mk (below_step bl_ hb); clear hb))
  go_ret3
  exact ⟨ng_, bl_⟩
 rw [if_pos c15] at H
 have c15b0 : decide (x30_2 < (l0_1.length : Int)) = true := decide_eq_true c15
 clear c15
 by_cases c16 : 0 ≤ x30_2
 rotate_left
 ·rw [if_neg c16] at H
  exact absurd H (by simp)
 rw [if_pos c16] at H
 have c16b0 : decide (0 ≤ x30_2) = true := decide_eq_true c16
 clear c16
 by_cases c17 : x30_2 < (l0_1.length : Int)
 rotate_left
 ·rw [if_neg c17] at H
  exact absurd H (by simp)
 rw [if_pos c17] at H
 have c17b0 : decide (x30_2 < (l0_1.length : Int)) = true := decide_eq_true c17
 clear c17
 have H' := Aside0.mk H
 clear H
 have p341 : 0 ≤ (x30_2 : Int) := of_decide_eq_true (by first | (with_reducible assumption) | assumption)
 have q341 : x30_2 < (l0_1.length : Int) := of_decide_eq_true (by first | (with_reducible assumption) | assumption)
 obtain ⟨ad341, A341_2, c341_2, A341_4, c341_4, e341, hx341_0, hx341_1, hx341_2, hx341_3, hx341_4, hl341_2, hi341_2, hl341_4, hi341_4⟩ := at_T95 HR0_1.out x30_2 p341 q341
 cases e341
 replace hx341_0 := (HB.out.cell (World.block_lt_of_cell? w _ hx341_0)).trans hx341_0
 replace hx341_1 := (HB.out.cell (World.block_lt_of_cell? w _ hx341_1)).trans hx341_1
 replace hx341_2 := (HB.out.cell (World.block_lt_of_cell? w _ hx341_2)).trans hx341_2
 replace hx341_3 := (HB.out.cell (World.block_lt_of_cell? w _ hx341_3)).trans hx341_3
 replace hx341_4 := (HB.out.cell (World.block_lt_of_cell? w _ hx341_4)).trans hx341_4
 have HR341_2 := Aside0.mk hi341_2
 have HC341_2 := Aside0.mk hl341_2
 clear hi341_2 hl341_2
 have HR341_4 := Aside0.mk hi341_4
 have HC341_4 := Aside0.mk hl341_4
 clear hi341_4 hl341_4
 replace p341 := eq_true p341
 replace q341 := eq_true q341
 go_wp2_with (first | ((with_reducible refine gate_dst (N := 9) rfl ?_); refine box_event rfl (N := 9) rfl (cs := #[.int .i64 0, .int .i64 0, .slice none 0 0, .bool false, .slice none 0 0]) (t := 95) gs_ ?_; intro gb342 hg w18 hbox hb; have BK342 := Aside0.mk (hbox); have GW342 := Aside0.mk ((by rw [hg]; exact bz_ : w.heap.size ≤ gb342)); have GE342 := GW342; replace HB := Aside0.mk (below_step bl_ hb); have NB337_342 := nl_ hg BK337; have NB342_337 := nm_ hg BK337; replace BK337 := bb_ BK337 hb; clear hb hbox hg; have hnb19 := NB342_337.out; have hnc19 := NB337_342.out; have hcz20_0 : w18.cell? ⟨gb342, 0, none⟩ = some (.int .i64 0) := bc_ BK342.out 0; have hcz20_1 : w18.cell? ⟨gb342, 1, none⟩ = some (.int .i64 0) := bc_ BK342.out 1; have hcz20_2 : w18.cell? ⟨gb342, 2, none⟩ = some (.slice none 0 0) := bc_ BK342.out 2; have hcz20_3 : w18.cell? ⟨gb342, 3, none⟩ = some (.bool false) := bc_ BK342.out 3; have hcz20_4 : w18.cell? ⟨gb342, 4, none⟩ = some (.slice none 0 0) := bc_ BK342.out 4; have hfz20_0 := blk_frozen BK342.out 0; have hfz20_1 := blk_frozen BK342.out 1; have hfz20_2 := blk_frozen BK342.out 2; have hfz20_3 := blk_frozen BK342.out 3; have hfz20_4 := blk_frozen BK342.out 4))
 go_loopg [5, 37] k2 (fun kq v5 v37 w' => ∃ (x5_3 : Int) (x37_3 : Int), v5 = .int .i64 x5_3 ∧ v37 = .int .i64 x37_3 ∧ Aside0 (impl_PictureOf.l2 kq x5_3 l0_1 (l0_1.length : Int) x30_2 ((rd_T95 l0_1 x30_2).f4) (((rd_T95 l0_1 x30_2).f4).length : Int) x37_3 l0_0 l0_1 = some (r1, r2, r3)) ∧ Aside0 (kq ≤ k2) ∧ Aside0 (w'.heap[gb337]? = some (.cells #[(.slice A0_0 l0_0.length c0_0), (.slice (some ad341) l0_1.length c0_1)] 53 (0, 0))) ∧ Aside0 (w'.heap[gb342]? = some (.cells #[.int .i64 ((rd_T95 l0_1 x30_2).f0), .int .i64 ((rd_T95 l0_1 x30_2).f1), (.slice A341_2 ((rd_T95 l0_1 x30_2).f2).length c341_2), .bool ((rd_T95 l0_1 x30_2).f3), (.slice A341_4 ((rd_T95 l0_1 x30_2).f4).length c341_4)] 95 (0, 0))) ∧ Aside0 (Below w.heap.size w w'))
 case atStart => exact ⟨(x5_2), (0), (by first | rfl | (simp; done) | (simp [*]; done)), (by first | rfl | (simp; done) | (simp [*]; done)), H', ⟨Nat.le_refl _⟩, ⟨kz_⟩, ⟨by (with_reducible repeat (first | refine blk_drewN ?_ _ | refine blk_drew ?_ | refine blk_alloc ?_ _)); refine blk_put (cs := #[.int .i64 ((rd_T95 l0_1 x30_2).f0), .int .i64 ((rd_T95 l0_1 x30_2).f1), .slice A341_2 ((rd_T95 l0_1 x30_2).f2).length c341_2, .bool ((rd_T95 l0_1 x30_2).f3), .slice none 0 0]) ?_ 4 _ rfl; (with_reducible repeat (first | refine blk_drewN ?_ _ | refine blk_drew ?_ | refine blk_alloc ?_ _)); refine blk_put (cs := #[.int .i64 ((rd_T95 l0_1 x30_2).f0), .int .i64 ((rd_T95 l0_1 x30_2).f1), .slice A341_2 ((rd_T95 l0_1 x30_2).f2).length c341_2, .bool false, .slice none 0 0]) ?_ 3 _ rfl; (with_reducible repeat (first | refine blk_drewN ?_ _ | refine blk_drew ?_ | refine blk_alloc ?_ _)); refine blk_put (cs := #[.int .i64 ((rd_T95 l0_1 x30_2).f0), .int .i64 ((rd_T95 l0_1 x30_2).f1), .slice none 0 0, .bool false, .slice none 0 0]) ?_ 2 _ rfl; (with_reducible repeat (first | refine blk_drewN ?_ _ | refine blk_drew ?_ | refine blk_alloc ?_ _)); refine blk_put (cs := #[.int .i64 ((rd_T95 l0_1 x30_2).f0), .int .i64 0, .slice none 0 0, .bool false, .slice none 0 0]) ?_ 1 _ rfl; (with_reducible repeat (first | refine blk_drewN ?_ _ | refine blk_drew ?_ | refine blk_alloc ?_ _)); refine blk_put (cs := #[.int .i64 0, .int .i64 0, .slice none 0 0, .bool false, .slice none 0 0]) ?_ 0 _ rfl; exact kb_ BK342.out⟩, ⟨bl_⟩⟩
 clear H'
 try clear c1
 try clear p2
 try clear c3
 try clear p3
 try clear q3
 try clear hx3
 try clear c4
 try clear p6
 try clear c7
 try clear c8
 try clear c8b0
 try clear c9
 try clear c9b0
 try clear c10
 try clear c10b0
 try clear c12
 try clear c15
 try clear c15b0
 try clear c16
 try clear c16b0
 try clear c17
 try clear c17b0
 try clear c19
 try clear hcz13_0
 try clear hcz13_1
 try clear hcz13_2
 try clear hcz14_0
 try clear hcz14_1
 try clear hcz20_0
 try clear hcz20_1
 try clear hcz20_2
 try clear hcz20_3
 try clear hcz20_4
 try clear hcz5_0
 try clear hcz5_1
 try clear hcz7_0
 try clear hcz7_1
 try clear hfz13_0
 try clear hfz13_1
 try clear hfz13_2
 try clear hfz14_0
 try clear hfz14_1
 try clear hfz20_0
 try clear hfz20_1
 try clear hfz20_2
 try clear hfz20_3
 try clear hfz20_4
 try clear hfz5_0
 try clear hfz5_1
 try clear hfz7_0
 try clear hfz7_1
 try clear hx339_0
 try clear hx339_1
 try clear hx339_2
 try clear hx341_0
 try clear hx341_1
 try clear hx341_2
 try clear hx341_3
 try clear hx341_4
 try clear p2
 try clear p3
 try clear p339
 try clear p341
 try clear p6
 try clear q3
 try clear q339
 try clear q341
 obtain ⟨x5_3, x37_3, rfl, rfl, HA, HK3, BK337, BK342, HB⟩ := hrel
 cases gk with
 | zero => exact absurd HA.out (by simp [impl_PictureOf.l2])
 | succ k3 => ?_
 have H := HA.out
 clear HA
 simp only [impl_PictureOf.l2] at H
 by_cases c21 : x37_3 < (((rd_T95 l0_1 x30_2).f4).length : Int)
 rotate_left
 ·rw [if_neg c21] at H
  have c21b0 : decide (x37_3 < (((rd_T95 l0_1 x30_2).f4).length : Int)) = false := decide_eq_false c21
  clear c21
  have H' := Aside0.mk H
  clear H
  go_wp2
  go_roundg k3
  case measure => have := HK1.out; have := HK2.out; have := HK3.out; omega
  case rel => exact ⟨(x5_3), (wrap64 (x30_2 + 1)), (by first | rfl | (simp; done) | (simp [*]; done)), (by first | rfl | (simp; done) | (simp [*]; done)), H', ⟨by have := HK1.out; have := HK2.out; have := HK3.out; omega⟩, ⟨by exact kb_ BK337.out⟩, ⟨bl_⟩⟩
 rw [if_pos c21] at H
 have c21b0 : decide (x37_3 < (((rd_T95 l0_1 x30_2).f4).length : Int)) = true := decide_eq_true c21
 clear c21
 by_cases c22 : 0 ≤ x37_3
 rotate_left
 ·rw [if_neg c22] at H
  exact absurd H (by simp)
 rw [if_pos c22] at H
 have c22b0 : decide (0 ≤ x37_3) = true := decide_eq_true c22
 clear c22
 by_cases c23 : x37_3 < (((rd_T95 l0_1 x30_2).f4).length : Int)
 rotate_left
 ·rw [if_neg c23] at H
  exact absurd H (by simp)
 rw [if_pos c23] at H
 have c23b0 : decide (x37_3 < (((rd_T95 l0_1 x30_2).f4).length : Int)) = true := decide_eq_true c23
 clear c23
 have H' := Aside0.mk H
 clear H
 have p343 : 0 ≤ (x37_3 : Int) := of_decide_eq_true (by first | (with_reducible assumption) | assumption)
 have q343 : x37_3 < (((rd_T95 l0_1 x30_2).f4).length : Int) := of_decide_eq_true (by first | (with_reducible assumption) | assumption)
 obtain ⟨ad343, e343, hx343_0⟩ := Kd.at_int HR341_4.out x37_3 p343 q343
 cases e343
 replace hx343_0 := (HB.out.cell (World.block_lt_of_cell? w _ hx343_0)).trans hx343_0
 replace p343 := eq_true p343
 replace q343 := eq_true q343
 go_wp2
 go_roundg k3
 case measure => have := HK1.out; have := HK2.out; have := HK3.out; omega
 case rel => exact ⟨(wrap64 (x5_3 + (rd ((rd_T95 l0_1 x30_2).f4) x37_3))), (wrap64 (x37_3 + 1)), (by first | rfl | (simp; done) | (simp [*]; done)), (by first | rfl | (simp; done) | (simp [*]; done)), H', ⟨by have := HK1.out; have := HK2.out; have := HK3.out; omega⟩, ⟨by exact kb_ BK337.out⟩, ⟨by exact kb_ BK342.out⟩, ⟨bl_⟩⟩

/-! ### laws_FnExactPictureOf: function 10 -/
def laws_FnExactPictureOf.j0 : Nat → Bool → List (S127) → List (S125) → List (S92) → List (S95) → Option (Bool)
 | 0, _, _, _, _, _ => none
 | k + 1, x43, x346000, x346001, x363000, x363001 => if x43 = true then (none) else ((laws_toNet.f k x346000 x346001).bind fun bt366 => ((laws_eqNet.f k x363000 x363001 bt366.1 bt366.2).bind fun t372 => (if t372 = true then (some true) else (none))))
def laws_FnExactPictureOf.f (k : Nat) (l0_0 : List (S127)) (l0_1 : List (S125)) : Option (Bool) := (laws_szNet.f k l0_0 l0_1 1048576).bind fun t346 => (if t346 < 0 then (some true) else ((laws_toNet.f k l0_0 l0_1).bind fun bt347 => ((spec_PictureOf.f k bt347.1 bt347.2).bind fun bt353 => ((laws_toNet.f k l0_0 l0_1).bind fun bt356 => ((impl_PictureOf.f k bt356.1 bt356.2).bind fun bt363 => (if bt363.1 = bt353.1 then (if (bt363.2.1 != bt353.2.1) = true then (none) else (laws_FnExactPictureOf.j0 k (bt363.2.2 != bt353.2.2) l0_0 l0_1 bt356.1 bt356.2)) else (none)))))))
theorem laws_FnExactPictureOf.mono_l : ∀ k, (∀ y0 y1 y2 y3 y4, LeO (laws_FnExactPictureOf.j0 k y0 y1 y2 y3 y4) (laws_FnExactPictureOf.j0 (k + 1) y0 y1 y2 y3 y4))
 | 0 => fun _ _ _ _ _ r h => by simp [laws_FnExactPictureOf.j0] at h
 | k + 1 => by
  have ih0 := laws_FnExactPictureOf.mono_l k
  ·intro y0 y1 y2 y3 y4
   unfold laws_FnExactPictureOf.j0
   repeat' first
   | (with_reducible exact ih0 _ _ _ _ _)
   | (with_reducible exact impl_PictureOf.mono _ _ _)
   | (with_reducible exact laws_eqNet.mono _ _ _ _ _)
   | (with_reducible exact laws_szNet.mono _ _ _ _)
   | (with_reducible exact laws_toNet.mono _ _ _)
   | (with_reducible exact spec_PictureOf.mono _ _ _)
   | (with_reducible exact LeO.refl _)
   | (with_reducible exact LeO.none _)
   | (with_reducible refine LeO.ite ?_ ?_)
   | (with_reducible refine LeO.bind ?_ (fun _ => ?_))
   | exact ih0 _ _ _ _ _
   | exact impl_PictureOf.mono _ _ _
   | exact laws_eqNet.mono _ _ _ _ _
   | exact laws_szNet.mono _ _ _ _
   | exact laws_toNet.mono _ _ _
   | exact spec_PictureOf.mono _ _ _
   | exact LeO.none _
   | refine LeO.ite ?_ ?_
   | refine LeO.bind ?_ (fun _ => ?_)
theorem laws_FnExactPictureOf.mono : ∀ a0 a1 k, LeO (laws_FnExactPictureOf.f k a0 a1) (laws_FnExactPictureOf.f (k + 1) a0 a1) := by
 intro a0 a1 k
 have ih0 := laws_FnExactPictureOf.mono_l k
 unfold laws_FnExactPictureOf.f
 repeat' first
   | (with_reducible exact ih0 _ _ _ _ _)
   | (with_reducible exact impl_PictureOf.mono _ _ _)
   | (with_reducible exact laws_eqNet.mono _ _ _ _ _)
   | (with_reducible exact laws_szNet.mono _ _ _ _)
   | (with_reducible exact laws_toNet.mono _ _ _)
   | (with_reducible exact spec_PictureOf.mono _ _ _)
   | (with_reducible exact LeO.refl _)
   | (with_reducible exact LeO.none _)
   | (with_reducible refine LeO.ite ?_ ?_)
   | (with_reducible refine LeO.bind ?_ (fun _ => ?_))
   | exact ih0 _ _ _ _ _
   | exact impl_PictureOf.mono _ _ _
   | exact laws_eqNet.mono _ _ _ _ _
   | exact laws_szNet.mono _ _ _ _
   | exact laws_toNet.mono _ _ _
   | exact spec_PictureOf.mono _ _ _
   | exact LeO.none _
   | refine LeO.ite ?_ ?_
   | refine LeO.bind ?_ (fun _ => ?_)
set_option maxHeartbeats 8000000 in
set_option maxRecDepth 100000 in
theorem laws_FnExactPictureOf.calls (k : Nat) (A0_0 : Option Addr) (c0_0 : Nat) (l0_0 : List (S127)) (A0_1 : Option Addr) (c0_1 : Nat) (l0_1 : List (S125)) (r : Bool) (w : World) (hr0_0 : Kd.C k127 w A0_0 l0_0.length l0_0) (hc0_0 : l0_0.length ≤ c0_0) (hr0_1 : Kd.C k125 w A0_1 l0_1.length l0_1) (hc0_1 : l0_1.length ≤ c0_1) (h : laws_FnExactPictureOf.f k l0_0 l0_1 = some r) :
  Calls Try.prog 10 #[.agg #[.slice A0_0 l0_0.length c0_0, .slice A0_1 l0_1.length c0_1]] w fun e w' => e = .returned (.bool r) ∧ Below w.heap.size w w' := by
 have hu65 := Try.underlying65
 have hu53 := Try.underlying53
 have HR0_0 := Aside0.mk hr0_0
 have HC0_0 := Aside0.mk hc0_0
 clear hr0_0 hc0_0
 have HR0_1 := Aside0.mk hr0_1
 have HC0_1 := Aside0.mk hc0_1
 clear hr0_1 hc0_1
 have HB := Aside0.mk (Below.refl w.heap.size w)
 have H : ((laws_szNet.f k l0_0 l0_1 1048576).bind fun t346 => (if t346 < 0 then (some true) else ((laws_toNet.f k l0_0 l0_1).bind fun bt347 => ((spec_PictureOf.f k bt347.1 bt347.2).bind fun bt353 => ((laws_toNet.f k l0_0 l0_1).bind fun bt356 => ((impl_PictureOf.f k bt356.1 bt356.2).bind fun bt363 => (if bt363.1 = bt353.1 then (if (bt363.2.1 != bt353.2.1) = true then (none) else (laws_FnExactPictureOf.j0 k (bt363.2.2 != bt353.2.2) l0_0 l0_1 bt356.1 bt356.2)) else (none)))))))) = some r := h
 clear h
 replace H := Option.bind_eq_some_iff.mp H
 obtain ⟨t346, A20, H⟩ := H
 replace H : (if t346 < 0 then (some true) else ((laws_toNet.f k l0_0 l0_1).bind fun bt347 => ((spec_PictureOf.f k bt347.1 bt347.2).bind fun bt353 => ((laws_toNet.f k l0_0 l0_1).bind fun bt356 => ((impl_PictureOf.f k bt356.1 bt356.2).bind fun bt363 => (if bt363.1 = bt353.1 then (if (bt363.2.1 != bt353.2.1) = true then (none) else (laws_FnExactPictureOf.j0 k (bt363.2.2 != bt353.2.2) l0_0 l0_1 bt356.1 bt356.2)) else (none))))))) = some r := H
 have A2 := Aside0.mk A20
 clear A20
 by_cases c3 : t346 < 0
 ·rw [if_pos c3] at H
  have c3b0 : decide (t346 < 0) = true := decide_eq_true c3
  clear c3
  obtain rfl := Option.some.inj H
  go_enter Try.func10, Try.ntmps10
  go_wp2_with (first | ((with_reducible refine gate_dst (N := 1) rfl ?_); refine box_event rfl (N := 1) rfl (cs := #[.slice A0_0 l0_0.length c0_0, .slice A0_1 l0_1.length c0_1]) (t := 65) gs_ ?_; intro gb345 hg w4 hbox hb; have BK345 := Aside0.mk (hbox); have GW345 := Aside0.mk ((by rw [hg]; exact bz_ : w.heap.size ≤ gb345)); have GE345 := GW345; replace HB := Aside0.mk (below_step bl_ hb); clear hb hbox hg; have hcz5_0 : w4.cell? ⟨gb345, 0, none⟩ = some (.slice A0_0 l0_0.length c0_0) := bc_ BK345.out 0; have hcz5_1 : w4.cell? ⟨gb345, 1, none⟩ = some (.slice A0_1 l0_1.length c0_1) := bc_ BK345.out 1; have hfz5_0 := blk_frozen BK345.out 0; have hfz5_1 := blk_frozen BK345.out 1) | ((with_reducible refine gate_callee (f := 36) rfl ?_); refine goesL_ (some 13) rfl rfl Try.func36 (by kernel_rfl) rfl #[.agg #[.slice A0_0 l0_0.length c0_0, .slice A0_1 l0_1.length c0_1], .int .i64 1048576] rfl nc_ ?_; (with_reducible refine (laws_szNet.calls k _ _ l0_0 _ _ l0_1 1048576 t346 _ ?side1 ?side2 ?side3 ?side4 A2.out).mono ?_); (case side1 => exact kc_ (Kd.C_below HR0_0.out HB.out)); (case side2 => exact HC0_0.out); (case side3 => exact kc_ (Kd.C_below HR0_1.out HB.out)); (case side4 => exact HC0_1.out); rintro e w6 ⟨rfl, hb⟩; refine ⟨_, rfl, ?_⟩; replace BK345 := bb_ BK345 hb; replace HB := Aside0.mk (below_step bl_ hb); clear hb))
  go_ret
  exact ⟨ng_, bl_⟩
 rw [if_neg c3] at H
 have c3b0 : decide (t346 < 0) = false := decide_eq_false c3
 clear c3
 replace H := Option.bind_eq_some_iff.mp H
 obtain ⟨⟨t347, t350⟩, A70, H⟩ := H
 replace H : ((spec_PictureOf.f k t347 t350).bind fun bt353 => ((laws_toNet.f k l0_0 l0_1).bind fun bt356 => ((impl_PictureOf.f k bt356.1 bt356.2).bind fun bt363 => (if bt363.1 = bt353.1 then (if (bt363.2.1 != bt353.2.1) = true then (none) else (laws_FnExactPictureOf.j0 k (bt363.2.2 != bt353.2.2) l0_0 l0_1 bt356.1 bt356.2)) else (none))))) = some r := H
 have A7 := Aside0.mk A70
 clear A70
 replace H := Option.bind_eq_some_iff.mp H
 obtain ⟨⟨t353, t354, t355⟩, A80, H⟩ := H
 replace H : ((laws_toNet.f k l0_0 l0_1).bind fun bt356 => ((impl_PictureOf.f k bt356.1 bt356.2).bind fun bt363 => (if bt363.1 = t353 then (if (bt363.2.1 != t354) = true then (none) else (laws_FnExactPictureOf.j0 k (bt363.2.2 != t355) l0_0 l0_1 bt356.1 bt356.2)) else (none)))) = some r := H
 have A8 := Aside0.mk A80
 clear A80
 replace H := Option.bind_eq_some_iff.mp H
 obtain ⟨⟨t356, t359⟩, A90, H⟩ := H
 replace H : ((impl_PictureOf.f k t356 t359).bind fun bt363 => (if bt363.1 = t353 then (if (bt363.2.1 != t354) = true then (none) else (laws_FnExactPictureOf.j0 k (bt363.2.2 != t355) l0_0 l0_1 t356 t359)) else (none))) = some r := H
 have A9 := Aside0.mk A90
 clear A90
 replace H := Option.bind_eq_some_iff.mp H
 obtain ⟨⟨t363, t364, t365⟩, A100, H⟩ := H
 replace H : (if t363 = t353 then (if (t364 != t354) = true then (none) else (laws_FnExactPictureOf.j0 k (t365 != t355) l0_0 l0_1 t356 t359)) else (none)) = some r := H
 have A10 := Aside0.mk A100
 clear A100
 have HC11 := Aside0.mk H
 clear H
 go_enter Try.func10, Try.ntmps10
 go_upto_region 8 with (first | ((with_reducible refine gate_dst (N := 1) rfl ?_); refine box_event rfl (N := 1) rfl (cs := #[.slice A0_0 l0_0.length c0_0, .slice A0_1 l0_1.length c0_1]) (t := 65) gs_ ?_; intro gb345 hg w12 hbox hb; have BK345 := Aside0.mk (hbox); have GW345 := Aside0.mk ((by rw [hg]; exact bz_ : w.heap.size ≤ gb345)); have GE345 := GW345; replace HB := Aside0.mk (below_step bl_ hb); clear hb hbox hg; have hcz13_0 : w12.cell? ⟨gb345, 0, none⟩ = some (.slice A0_0 l0_0.length c0_0) := bc_ BK345.out 0; have hcz13_1 : w12.cell? ⟨gb345, 1, none⟩ = some (.slice A0_1 l0_1.length c0_1) := bc_ BK345.out 1; have hfz13_0 := blk_frozen BK345.out 0; have hfz13_1 := blk_frozen BK345.out 1) | ((with_reducible refine gate_callee (f := 36) rfl ?_); refine goesL_ (some 13) rfl rfl Try.func36 (by kernel_rfl) rfl #[.agg #[.slice A0_0 l0_0.length c0_0, .slice A0_1 l0_1.length c0_1], .int .i64 1048576] rfl nc_ ?_; (with_reducible refine (laws_szNet.calls k _ _ l0_0 _ _ l0_1 1048576 t346 _ ?side1 ?side2 ?side3 ?side4 A2.out).mono ?_); (case side1 => exact kc_ (Kd.C_below HR0_0.out HB.out)); (case side2 => exact HC0_0.out); (case side3 => exact kc_ (Kd.C_below HR0_1.out HB.out)); (case side4 => exact HC0_1.out); rintro e w14 ⟨rfl, hb⟩; refine ⟨_, rfl, ?_⟩; replace BK345 := bb_ BK345 hb; replace HB := Aside0.mk (below_step bl_ hb); clear hb; have hcz15_0 : w14.cell? ⟨gb345, 0, none⟩ = some (.slice A0_0 l0_0.length c0_0) := bc_ BK345.out 0; have hcz15_1 : w14.cell? ⟨gb345, 1, none⟩ = some (.slice A0_1 l0_1.length c0_1) := bc_ BK345.out 1; have hfz15_0 := blk_frozen BK345.out 0; have hfz15_1 := blk_frozen BK345.out 1) | ((with_reducible refine gate_callee (f := 38) rfl ?_); refine goesL_ (some 18) rfl rfl Try.func38 (by kernel_rfl) rfl #[.agg #[.slice A0_0 l0_0.length c0_0, .slice A0_1 l0_1.length c0_1]] rfl nc_ ?_; (with_reducible refine (laws_toNet.calls k _ _ l0_0 _ _ l0_1 t347 t350 _ ?side1 ?side2 ?side3 ?side4 A7.out).mono ?_); (case side1 => exact kc_ (Kd.C_below HR0_0.out HB.out)); (case side2 => exact HC0_0.out); (case side3 => exact kc_ (Kd.C_below HR0_1.out HB.out)); (case side4 => exact HC0_1.out); rintro e w16 ⟨v348, v351, rfl, ho0, ho1, hb⟩; refine ⟨_, rfl, ?_⟩; have HO349 := Aside0.mk (Kd.R_lower ho0 bz_); have HO352 := Aside0.mk (Kd.S_lower ho1 bz_); replace BK345 := bb_ BK345 hb; replace HB := Aside0.mk (below_step bl_ hb); clear hb ho0 ho1; obtain ⟨Ao17, co17, eo17⟩ := Kd.R_slice HO349.out; subst eo17; obtain ⟨Ao18, co18, eo18⟩ := Kd.S_slice HO352.out; subst eo18) | ((with_reducible refine gate_callee (f := 42) rfl ?_); refine goesL_ (some 19) rfl rfl Try.func42 (by kernel_rfl) rfl #[.agg #[.slice Ao17 t347.length co17, .slice Ao18 t350.length co18]] rfl nc_ ?_; (with_reducible refine (spec_PictureOf.calls k _ _ t347 _ _ t350 t353 t354 t355 _ ?side1 ?side2 ?side3 ?side4 A8.out).mono ?_); (case side1 => exact kc_ (Kd.R_reads' HO349.out).2.2); (case side2 => exact (Kd.R_reads' HO349.out).2.1); (case side3 => exact kc_ (Kd.S_reads' HO352.out).2.2); (case side4 => exact (Kd.S_reads' HO352.out).2.1); rintro e w19 ⟨rfl, hb⟩; refine ⟨_, rfl, ?_⟩; replace HO349 := rb_ HO349 hb; replace HO352 := Aside0.mk (Kd.S_below (by (with_reducible repeat (first | apply Kd.S_alloc | apply Kd.S_drewN | apply Kd.S_drew)); exact HO352.out) hb); replace BK345 := bb_ BK345 hb; replace HB := Aside0.mk (below_step bl_ hb); clear hb; have hcz20_0 : w19.cell? ⟨gb345, 0, none⟩ = some (.slice A0_0 l0_0.length c0_0) := bc_ BK345.out 0; have hcz20_1 : w19.cell? ⟨gb345, 1, none⟩ = some (.slice A0_1 l0_1.length c0_1) := bc_ BK345.out 1; have hfz20_0 := blk_frozen BK345.out 0; have hfz20_1 := blk_frozen BK345.out 1) | ((with_reducible refine gate_callee (f := 38) rfl ?_); refine goesL_ (some 24) rfl rfl Try.func38 (by kernel_rfl) rfl #[.agg #[.slice A0_0 l0_0.length c0_0, .slice A0_1 l0_1.length c0_1]] rfl nc_ ?_; (with_reducible refine (laws_toNet.calls k _ _ l0_0 _ _ l0_1 t356 t359 _ ?side1 ?side2 ?side3 ?side4 A9.out).mono ?_); (case side1 => exact kc_ (Kd.C_below HR0_0.out HB.out)); (case side2 => exact HC0_0.out); (case side3 => exact kc_ (Kd.C_below HR0_1.out HB.out)); (case side4 => exact HC0_1.out); rintro e w21 ⟨v357, v360, rfl, ho0, ho1, hb⟩; refine ⟨_, rfl, ?_⟩; have HO358 := Aside0.mk (Kd.R_lower (rn_ ho0 HO349.out) bz_); replace HO349 := Aside0.mk (Kd.R_elder' (kr_ HO349.out) (Kd.R_base ho0) hb); have HO361 := Aside0.mk (Kd.S_lower (Kd.S_new' ho1 (Kd.S_lt (by (with_reducible repeat (first | apply Kd.S_alloc | apply Kd.S_drewN | apply Kd.S_drew)); exact HO352.out))) bz_); replace HO352 := Aside0.mk (Kd.S_elder' (by (with_reducible repeat (first | apply Kd.S_alloc | apply Kd.S_drewN | apply Kd.S_drew)); exact HO352.out) (Kd.S_base ho1) hb); replace BK345 := bb_ BK345 hb; replace HB := Aside0.mk (below_step bl_ hb); clear hb ho0 ho1) | ((with_reducible refine gate_dst (N := 7) rfl ?_); refine box_event rfl (N := 7) rfl (cs := #[.slice none 0 0, .slice none 0 0]) (t := 53) gs_ ?_; intro gb362 hg w22 hbox hb; replace HO349 := rb_ HO349 hb; replace HO352 := Aside0.mk (Kd.S_below (by (with_reducible repeat (first | apply Kd.S_alloc | apply Kd.S_drewN | apply Kd.S_drew)); exact HO352.out) hb); replace HO358 := rb_ HO358 hb; replace HO361 := Aside0.mk (Kd.S_below (by (with_reducible repeat (first | apply Kd.S_alloc | apply Kd.S_drewN | apply Kd.S_drew)); exact HO361.out) hb); have BK362 := Aside0.mk (hbox); have GW362 := Aside0.mk ((by rw [hg]; exact bz_ : w.heap.size ≤ gb362)); have GE362 := GW362; replace HB := Aside0.mk (below_step bl_ hb); have NB345_362 := nl_ hg BK345; have NB362_345 := nm_ hg BK345; replace BK345 := bb_ BK345 hb; clear hb hbox hg; obtain ⟨Ao23, co23, eo23⟩ := Kd.R_slice HO358.out; subst eo23; have hnb24 := NB362_345.out; have hnc24 := NB345_362.out; have hcz25_0 : w22.cell? ⟨gb362, 0, none⟩ = some (.slice none 0 0) := bc_ BK362.out 0; have hcz25_1 : w22.cell? ⟨gb362, 1, none⟩ = some (.slice none 0 0) := bc_ BK362.out 1; have hfz25_0 := blk_frozen BK362.out 0; have hfz25_1 := blk_frozen BK362.out 1; obtain ⟨Ao26, co26, eo26⟩ := Kd.S_slice HO361.out; subst eo26) | ((with_reducible refine gate_callee (f := 43) rfl ?_); refine goesL_ (some 27) rfl rfl Try.func43 (by kernel_rfl) rfl #[.agg #[.slice Ao23 t356.length co23, .slice Ao26 t359.length co26]] rfl nc_ ?_; (with_reducible refine (impl_PictureOf.calls k _ _ t356 _ _ t359 t363 t364 t365 _ ?side1 ?side2 ?side3 ?side4 A10.out).mono ?_); (case side1 => exact (Kd.R_reads' (kr_ (rs2_ HO358.out BK362.out (.slice Ao23 t356.length co23) (.slice Ao26 t359.length co26)))).2.2); (case side2 => exact (Kd.R_reads' HO358.out).2.1); (case side3 => refine (Kd.S_reads' (e := 95) (base := w.heap.size) (ok := fun k_ => (True ∧ some k_ ≠ (.slice Ao18 t350.length co18 : Value).ownBlock)) (n := t359.length) (c := co26) ?_).2.2; exact (by (with_reducible repeat (first | apply Kd.S_alloc | apply Kd.S_drewN | apply Kd.S_drew)); exact (Kd.S_mono (Kd.S_far (p := ⟨gb362, 1, none⟩) (Kd.S_far (p := ⟨gb362, 0, none⟩) (Kd.S_types HO361.out BK362.out (by decide)) (fun _ hk => hk.2) (.slice Ao23 t356.length co23)) (fun _ hk => hk.2) (.slice Ao26 t359.length co26)) (fun _ h_ => h_.1)))); (case side4 => exact (Kd.S_reads' HO361.out).2.1); rintro e w27 ⟨rfl, hb⟩; refine ⟨_, rfl, ?_⟩; replace HO349 := Aside0.mk (Kd.R_below (kr_ (rs2_ HO349.out BK362.out (.slice Ao23 t356.length co23) (.slice Ao26 t359.length co26))) hb); replace HO352 := Aside0.mk (Kd.S_below (by (with_reducible repeat (first | apply Kd.S_alloc | apply Kd.S_drewN | apply Kd.S_drew)); exact (Kd.S_mono (Kd.S_far (p := ⟨gb362, 1, none⟩) (Kd.S_far (p := ⟨gb362, 0, none⟩) (Kd.S_types HO352.out BK362.out (by decide)) (fun _ hk => hk.2) (.slice Ao23 t356.length co23)) (fun _ hk => hk.2) (.slice Ao26 t359.length co26)) (fun _ h_ => h_.1))) hb); replace HO358 := Aside0.mk (Kd.R_below (kr_ (rs2_ HO358.out BK362.out (.slice Ao23 t356.length co23) (.slice Ao26 t359.length co26))) hb); replace HO361 := Aside0.mk (Kd.S_below (by (with_reducible repeat (first | apply Kd.S_alloc | apply Kd.S_drewN | apply Kd.S_drew)); exact (Kd.S_mono (Kd.S_far (p := ⟨gb362, 1, none⟩) (Kd.S_far (p := ⟨gb362, 0, none⟩) (Kd.S_types HO361.out BK362.out (by decide)) (fun _ hk => hk.2) (.slice Ao23 t356.length co23)) (fun _ hk => hk.2) (.slice Ao26 t359.length co26)) (fun _ h_ => h_.1))) hb); replace BK345 := Aside0.mk (blk_below (g := gb345) (o := .cells #[.slice A0_0 l0_0.length c0_0, .slice A0_1 l0_1.length c0_1] 65 (0, 0)) kz_ hb); replace BK362 := Aside0.mk (blk_below (g := gb362) (o := .cells #[.slice Ao23 t356.length co23, .slice Ao26 t359.length co26] 53 (0, 0)) (by (with_reducible repeat (first | refine blk_drewN ?_ _ | refine blk_drew ?_ | refine blk_alloc ?_ _)); refine blk_put (cs := #[.slice Ao23 t356.length co23, .slice none 0 0]) ?_ 1 _ rfl; (with_reducible repeat (first | refine blk_drewN ?_ _ | refine blk_drew ?_ | refine blk_alloc ?_ _)); refine blk_put (cs := #[.slice none 0 0, .slice none 0 0]) ?_ 0 _ rfl; exact kb_ BK362.out) hb); replace HB := Aside0.mk (below_step bl_ hb); clear hb))
 (try simp only [Act.put, List.setIfInBounds_toArray, List.set_cons_zero, List.set_cons_succ])
 go_cut [43] (fun v43 wc => ∃ (kq : Nat) (x43_10 : Bool), v43 = .bool x43_10 ∧ Aside0 (laws_FnExactPictureOf.j0 kq x43_10 l0_0 l0_1 t356 t359 = some r) ∧ Aside0 (kq ≤ k) ∧ Aside0 (Kd.R k92 92 wc w.heap.size (fun _ => True) (.slice Ao23 t356.length co23) t356) ∧ Aside0 (Kd.S k95 95 wc w.heap.size (fun _ => True) (.slice Ao26 t359.length co26) t359) ∧ Aside0 (wc.heap[gb345]? = some (.cells #[(.slice A0_0 l0_0.length c0_0), (.slice A0_1 l0_1.length c0_1)] 65 (0, 0))) ∧ Aside0 (wc.heap[gb362]? = some (.cells #[(.slice Ao23 t356.length co23), (.slice Ao26 t359.length co26)] 53 (0, 0))) ∧ Aside0 (Below w.heap.size w wc))
 case first =>
  have H := HC11.out
  clear HC11
  by_cases c28 : t363 = t353
  rotate_left
  ·rw [if_neg c28] at H
   exact absurd H (by simp)
  rw [if_pos c28] at H
  have c28b0 : (t363 == t353) = true := beq_iff_eq.mpr c28
  have c28b1 : (t363 != t353) = false := bne_eq_false_iff_eq.mpr c28
  clear c28
  (first | rw [c28b0] | (simp only [i64_w, i32_w]; rw [c28b0]) | skip)
  by_cases c29 : (t364 != t354) = true
  ·rw [if_pos c29] at H
   exact absurd H (by simp)
  rw [if_neg c29] at H
  have c29b0 : (t364 != t354) = false := by simpa using c29
  (try (have c29b1 : decide (t364 = t354) = true := by simpa using c29))
  (try (have c29b2 : (t364 == t354) = true := by simpa using c29))
  clear c29
  have H' := Aside0.mk H
  clear H
  go_wp2
  go_meet
  case rel => exact ⟨_, ((t365 != t355)), (by first | rfl | (simp; done) | (simp [*]; done)), H', ⟨by first | omega | exact Nat.le_refl _⟩, ⟨by exact kr_ (Kd.R_mono HO358.out (fun _ hk => trivial))⟩, ⟨by (with_reducible repeat (first | apply Kd.S_alloc | apply Kd.S_drewN | apply Kd.S_drew)); exact Kd.S_mono HO361.out (fun _ hk => trivial)⟩, ⟨by exact kb_ BK345.out⟩, ⟨by exact kb_ BK362.out⟩, ⟨bl_⟩⟩
 clear HC11
 try clear c1
 try clear c2
 try clear p2
 try clear c3
 try clear c3b0
 try clear c4
 try clear c10
 try clear c24
 try clear c28
 try clear c28b0
 try clear c28b1
 try clear c29
 try clear c29b0
 try clear c29b1
 try clear c29b2
 try clear hcz13_0
 try clear hcz13_1
 try clear hcz15_0
 try clear hcz15_1
 try clear hcz20_0
 try clear hcz20_1
 try clear hcz25_0
 try clear hcz25_1
 try clear hcz5_0
 try clear hcz5_1
 try clear hfz13_0
 try clear hfz13_1
 try clear hfz15_0
 try clear hfz15_1
 try clear hfz20_0
 try clear hfz20_1
 try clear hfz25_0
 try clear hfz25_1
 try clear hfz5_0
 try clear hfz5_1
 obtain ⟨kq, x43_10, rfl, HA, HJ10, HO_363000, HO_363001, BK345, BK362, HB⟩ := hcut
 cases kq with
 | zero => exact absurd HA.out (by simp [laws_FnExactPictureOf.j0])
 | succ kj10 => ?_
 have H := HA.out
 clear HA
 simp only [laws_FnExactPictureOf.j0] at H
 by_cases c30 : x43_10 = true
 ·subst c30
  have H1 : (none) = some r := by rw [if_pos rfl] at H; exact H
  clear H
  have H := H1
  clear H1
  exact absurd H (by simp)
 replace c30 := Bool.eq_false_iff.mpr c30
 subst c30
 have H1 : ((laws_toNet.f kj10 l0_0 l0_1).bind fun bt366 => ((laws_eqNet.f kj10 t356 t359 bt366.1 bt366.2).bind fun t372 => (if t372 = true then (some true) else (none)))) = some r := by rw [if_neg (show ¬ (false = true) by decide)] at H; exact H
 clear H
 have H := H1
 clear H1
 replace H := Option.bind_eq_some_iff.mp H
 obtain ⟨⟨t366, t369⟩, A310, H⟩ := H
 replace H : ((laws_eqNet.f kj10 t356 t359 t366 t369).bind fun t372 => (if t372 = true then (some true) else (none))) = some r := H
 have A31 := Aside0.mk A310
 clear A310
 replace H := Option.bind_eq_some_iff.mp H
 obtain ⟨t372, A320, H⟩ := H
 replace H : (if t372 = true then (some true) else (none)) = some r := H
 have A32 := Aside0.mk A320
 clear A320
 by_cases c33 : t372 = true
 rotate_left
 ·replace c33 := Bool.eq_false_iff.mpr c33
  subst c33
  have H1 : (none) = some r := by rw [if_neg (show ¬ (false = true) by decide)] at H; exact H
  clear H
  have H := H1
  clear H1
  exact absurd H (by simp)
 subst c33
 have H1 : (some true) = some r := by rw [if_pos rfl] at H; exact H
 clear H
 have H := H1
 clear H1
 obtain rfl := Option.some.inj H
 try go_wp2
 replace HO_363000 := Aside0.mk (Kd.R_drew HO_363000.out)
 replace HO_363001 := Aside0.mk (Kd.S_drew HO_363001.out)
 replace BK345 := Aside0.mk (blk_drew BK345.out)
 replace BK362 := Aside0.mk (blk_drew BK362.out)
 replace HB := Aside0.mk (below_drew1 HB.out)
 refine start_ (n := 5) (S := fun w' => w'.cell? ⟨gb362, 0, none⟩ = some (.slice Ao23 t356.length co23) ∧ w'.cell? ⟨gb362, 1, none⟩ = some (.slice Ao26 t359.length co26) ∧ w'.cell? ⟨gb345, 0, none⟩ = some (.slice A0_0 l0_0.length c0_0) ∧ w'.cell? ⟨gb345, 1, none⟩ = some (.slice A0_1 l0_1.length c0_1)) (ds := []) #[false, false, false, false, false] (by kernel_rfl) rfl rfl ⟨bc_ BK362.out 0, bc_ BK362.out 1, bc_ BK345.out 0, bc_ BK345.out 1⟩ (fun hHeld => ?_)
 generalize wc.drew = w34 at HO_363000 HO_363001 BK345 BK362 HB hHeld ⊢
 refine tk4_ 0 (some 44) (h := ?_)
 refine tk4_ 1 (some 45) (h := ?_)
 refine on_ 2 (some 46) (h := fun K hK => ?_)
 refine goes_ Try.func38 (by kernel_rfl) rfl #[.agg #[.slice A0_0 l0_0.length c0_0, .slice A0_1 l0_1.length c0_1]] (by rfl) rfl rfl nc_ ?_
 with_reducible refine (laws_toNet.calls kj10 _ _ l0_0 _ _ l0_1 t366 t369 _ ?side1 ?side2 ?side3 ?side4 A31.out).mono ?_
 (case side1 => exact kc_ (Kd.C_below HR0_0.out HB.out))
 (case side2 => exact HC0_0.out)
 (case side3 => exact kc_ (Kd.C_below HR0_1.out HB.out))
 (case side4 => exact HC0_1.out)
 rintro e w35 ⟨v367, v370, rfl, ho0, ho1, hb⟩
 refine ⟨_, rfl, ?_⟩
 have HO368 := Aside0.mk (Kd.R_lower (rn_ ho0 HO_363000.out) bz_)
 replace HO_363000 := Aside0.mk (Kd.R_elder' (kr_ HO_363000.out) (Kd.R_base ho0) hb)
 have HO371 := Aside0.mk (Kd.S_lower (Kd.S_new' ho1 (Kd.S_lt (by (with_reducible repeat (first | apply Kd.S_alloc | apply Kd.S_drewN | apply Kd.S_drew)); exact HO_363001.out))) bz_)
 replace HO_363001 := Aside0.mk (Kd.S_elder' (by (with_reducible repeat (first | apply Kd.S_alloc | apply Kd.S_drewN | apply Kd.S_drew)); exact HO_363001.out) (Kd.S_base ho1) hb)
 replace BK345 := bb_ BK345 hb
 replace BK362 := bb_ BK362 hb
 replace HB := Aside0.mk (below_step bl_ hb)
 clear hb ho0 ho1
 obtain ⟨Ao36, co36, eo36⟩ := Kd.R_slice HO368.out
 (first | subst eo36 | (injection eo36 with f1_ f2_ f3_; have f4_ := f1_.symm; have f5_ := f3_.symm; clear f1_ f2_ f3_; subst f4_; subst f5_))
 obtain ⟨Ao37, co37, eo37⟩ := Kd.S_slice HO371.out
 (first | subst eo37 | (injection eo37 with f1_ f2_ f3_; have f4_ := f1_.symm; have f5_ := f3_.symm; clear f1_ f2_ f3_; subst f4_; subst f5_))
 refine hK.out _ _ ⟨bc_ BK362.out 0, bc_ BK362.out 1, bc_ BK345.out 0, bc_ BK345.out 1⟩ (fun hHeld => ?_)
 clear hK K
 refine norm_ nn_ ?_
 refine on_ 3 (some 47) (h := fun K hK => ?_)
 refine goes_ Try.func31 (by kernel_rfl) rfl #[.agg #[.slice Ao23 t356.length co23, .slice Ao26 t359.length co26], .agg #[.slice Ao36 t366.length co36, .slice Ao37 t369.length co37]] (by rfl) rfl rfl nc_ ?_
 with_reducible refine (laws_eqNet.calls kj10 _ _ t356 _ _ t359 _ _ t366 _ _ t369 true _ ?side1 ?side2 ?side3 ?side4 ?side5 ?side6 ?side7 ?side8 A32.out).mono ?_
 (case side1 => exact kc_ (Kd.R_reads' HO_363000.out).2.2)
 (case side2 => exact (Kd.R_reads' HO_363000.out).2.1)
 (case side3 => exact kc_ (Kd.S_reads' HO_363001.out).2.2)
 (case side4 => exact (Kd.S_reads' HO_363001.out).2.1)
 (case side5 => exact kc_ (Kd.R_reads' HO368.out).2.2)
 (case side6 => exact (Kd.R_reads' HO368.out).2.1)
 (case side7 => exact kc_ (Kd.S_reads' HO371.out).2.2)
 (case side8 => exact (Kd.S_reads' HO371.out).2.1)
 rintro e w38 ⟨rfl, hb⟩
 refine ⟨_, rfl, ?_⟩
 replace HO_363000 := rb_ HO_363000 hb
 replace HO_363001 := Aside0.mk (Kd.S_below (by (with_reducible repeat (first | apply Kd.S_alloc | apply Kd.S_drewN | apply Kd.S_drew)); exact HO_363001.out) hb)
 replace HO368 := rb_ HO368 hb
 replace HO371 := Aside0.mk (Kd.S_below (by (with_reducible repeat (first | apply Kd.S_alloc | apply Kd.S_drewN | apply Kd.S_drew)); exact HO371.out) hb)
 replace BK345 := bb_ BK345 hb
 replace BK362 := bb_ BK362 hb
 replace HB := Aside0.mk (below_step bl_ hb)
 clear hb
 refine hK.out _ _ ⟨bc_ BK362.out 0, bc_ BK362.out 1, bc_ BK345.out 0, bc_ BK345.out 1⟩ (fun hHeld => ?_)
 clear hK K
 refine norm_ nn_ ?_
 refine pu_ 4 (some 48) (h := ?_)
 refine done_ (by kernel_rfl) ?_
 try go_wp2
 go_ret
 exact ⟨ng_, bl_⟩

end Go.Proofs.Ytipfikmbldgliaa.PNX
