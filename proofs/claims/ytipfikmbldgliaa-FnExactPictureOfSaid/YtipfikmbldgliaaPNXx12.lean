/- What this text proves: the machine calls of these functions return what the plain functions say. Conditions: as each theorem says. Printed by a program of this session out of the translation. -/
import Derived.Test.YtipfikmbldgliaaPNXx0
import Derived.Test.YtipfikmbldgliaaPNXx5
import Derived.Test.YtipfikmbldgliaaPNXx7
namespace Go.Proofs.Ytipfikmbldgliaa.PNX
open Go.RowKit Go.Proofs.YtipfikmbldgliaaW.PrintWords Go.Proofs.YtipfikmbldgliaaW.PrintLast Go.Proofs.YtipfikmbldgliaaW.PrintMore
attribute [local go_sem] max2_int min2_int max_two min_two max_three min_three max_four min_four   -- for this text's walks alone
set_option linter.unusedVariables false
set_option linter.unusedSimpArgs false

/-! ### spec_l13Picture: function 77 -/
mutual
def spec_l13Picture.l0 : Nat → Int → Bool → List (S92) → Int → Int → List (S92) → List (S95) → Option (Int × Bool)
 | 0, _, _, _, _, _, _, _ => none
 | k + 1, x4, x5, x13, x14, x15, x323000, x323001 => if x15 < x14 then (if 0 ≤ x15 then (if x15 < (x13.length : Int) then (if x5 = true then (spec_l13Picture.l0 k (wrap64 (x4 + ((rd_T92 x13 x15).f2))) ((rd_T92 x13 x15).f1) x13 x14 (wrap64 (x15 + 1)) x323000 x323001) else (spec_l13Picture.l0 k (wrap64 (x4 + ((rd_T92 x13 x15).f2))) false x13 x14 (wrap64 (x15 + 1)) x323000 x323001)) else (none)) else (none)) else (spec_l13Picture.l1 k x4 x5 x323001 (x323001.length : Int) 0)
def spec_l13Picture.l1 : Nat → Int → Bool → List (S95) → Int → Int → Option (Int × Bool)
 | 0, _, _, _, _, _ => none
 | k + 1, x4, x5, x30, x31, x32 => if x32 < x31 then (if 0 ≤ x32 then (if x32 < (x30.length : Int) then (spec_l13Picture.l2 k x4 x5 x30 x31 x32 ((rd_T95 x30 x32).f4) (((rd_T95 x30 x32).f4).length : Int) 0 ((rd_T95 x30 x32).f0) ((rd_T95 x30 x32).f1) ((rd_T95 x30 x32).f2) ((rd_T95 x30 x32).f3) ((rd_T95 x30 x32).f4)) else (none)) else (none)) else (some (x4, x5))
def spec_l13Picture.l2 : Nat → Int → Bool → List (S95) → Int → Int → List Int → Int → Int → Int → Int → List (S103) → Bool → List Int → Option (Int × Bool)
 | 0, _, _, _, _, _, _, _, _, _, _, _, _, _ => none
 | k + 1, x4, x5, x30, x31, x32, x37, x38, x39, x327000, x327001, x327002, x327003, x327004 => if x39 < x38 then (if 0 ≤ x39 then (if x39 < (x37.length : Int) then (spec_l13Picture.l2 k (wrap64 (x4 + (rd x37 x39))) x5 x30 x31 x32 x37 x38 (wrap64 (x39 + 1)) x327000 x327001 x327002 x327003 x327004) else (none)) else (none)) else (if x5 = true then (spec_l13Picture.l1 k x4 (!x327003) x30 x31 (wrap64 (x32 + 1))) else (spec_l13Picture.l1 k x4 false x30 x31 (wrap64 (x32 + 1))))
end
def spec_l13Picture.f (k : Nat) (l0_0 : List (S92)) (l0_1 : List (S95)) : Option (Int × Bool) := spec_l13Picture.l0 k 0 true l0_0 (l0_0.length : Int) 0 l0_0 l0_1
theorem spec_l13Picture.mono_l : ∀ k, (∀ y0 y1 y2 y3 y4 y5 y6, LeO (spec_l13Picture.l0 k y0 y1 y2 y3 y4 y5 y6) (spec_l13Picture.l0 (k + 1) y0 y1 y2 y3 y4 y5 y6)) ∧ (∀ y0 y1 y2 y3 y4, LeO (spec_l13Picture.l1 k y0 y1 y2 y3 y4) (spec_l13Picture.l1 (k + 1) y0 y1 y2 y3 y4)) ∧ (∀ y0 y1 y2 y3 y4 y5 y6 y7 y8 y9 y10 y11 y12, LeO (spec_l13Picture.l2 k y0 y1 y2 y3 y4 y5 y6 y7 y8 y9 y10 y11 y12) (spec_l13Picture.l2 (k + 1) y0 y1 y2 y3 y4 y5 y6 y7 y8 y9 y10 y11 y12))
 | 0 => ⟨fun _ _ _ _ _ _ _ r h => by simp [spec_l13Picture.l0] at h, fun _ _ _ _ _ r h => by simp [spec_l13Picture.l1] at h, fun _ _ _ _ _ _ _ _ _ _ _ _ _ r h => by simp [spec_l13Picture.l2] at h⟩
 | k + 1 => by
  obtain ⟨ih0, ih1, ih2⟩ := spec_l13Picture.mono_l k
  refine ⟨?_, ?_, ?_⟩
  ·intro y0 y1 y2 y3 y4 y5 y6
   unfold spec_l13Picture.l0
   repeat' first
   | (with_reducible exact ih0 _ _ _ _ _ _ _)
   | (with_reducible exact ih1 _ _ _ _ _)
   | (with_reducible exact ih2 _ _ _ _ _ _ _ _ _ _ _ _ _)
   | (with_reducible exact LeO.refl _)
   | (with_reducible exact LeO.none _)
   | (with_reducible refine LeO.ite ?_ ?_)
   | (with_reducible refine LeO.bind ?_ (fun _ => ?_))
   | exact ih0 _ _ _ _ _ _ _
   | exact ih1 _ _ _ _ _
   | exact ih2 _ _ _ _ _ _ _ _ _ _ _ _ _
   | exact LeO.none _
   | refine LeO.ite ?_ ?_
   | refine LeO.bind ?_ (fun _ => ?_)
  ·intro y0 y1 y2 y3 y4
   unfold spec_l13Picture.l1
   repeat' first
   | (with_reducible exact ih0 _ _ _ _ _ _ _)
   | (with_reducible exact ih1 _ _ _ _ _)
   | (with_reducible exact ih2 _ _ _ _ _ _ _ _ _ _ _ _ _)
   | (with_reducible exact LeO.refl _)
   | (with_reducible exact LeO.none _)
   | (with_reducible refine LeO.ite ?_ ?_)
   | (with_reducible refine LeO.bind ?_ (fun _ => ?_))
   | exact ih0 _ _ _ _ _ _ _
   | exact ih1 _ _ _ _ _
   | exact ih2 _ _ _ _ _ _ _ _ _ _ _ _ _
   | exact LeO.none _
   | refine LeO.ite ?_ ?_
   | refine LeO.bind ?_ (fun _ => ?_)
  ·intro y0 y1 y2 y3 y4 y5 y6 y7 y8 y9 y10 y11 y12
   unfold spec_l13Picture.l2
   repeat' first
   | (with_reducible exact ih0 _ _ _ _ _ _ _)
   | (with_reducible exact ih1 _ _ _ _ _)
   | (with_reducible exact ih2 _ _ _ _ _ _ _ _ _ _ _ _ _)
   | (with_reducible exact LeO.refl _)
   | (with_reducible exact LeO.none _)
   | (with_reducible refine LeO.ite ?_ ?_)
   | (with_reducible refine LeO.bind ?_ (fun _ => ?_))
   | exact ih0 _ _ _ _ _ _ _
   | exact ih1 _ _ _ _ _
   | exact ih2 _ _ _ _ _ _ _ _ _ _ _ _ _
   | exact LeO.none _
   | refine LeO.ite ?_ ?_
   | refine LeO.bind ?_ (fun _ => ?_)
theorem spec_l13Picture.mono : ∀ a0 a1 k, LeO (spec_l13Picture.f k a0 a1) (spec_l13Picture.f (k + 1) a0 a1) := by
 intro a0 a1 k
 obtain ⟨ih0, ih1, ih2⟩ := spec_l13Picture.mono_l k
 unfold spec_l13Picture.f
 repeat' first
   | (with_reducible exact ih0 _ _ _ _ _ _ _)
   | (with_reducible exact ih1 _ _ _ _ _)
   | (with_reducible exact ih2 _ _ _ _ _ _ _ _ _ _ _ _ _)
   | (with_reducible exact LeO.refl _)
   | (with_reducible exact LeO.none _)
   | (with_reducible refine LeO.ite ?_ ?_)
   | (with_reducible refine LeO.bind ?_ (fun _ => ?_))
   | exact ih0 _ _ _ _ _ _ _
   | exact ih1 _ _ _ _ _
   | exact ih2 _ _ _ _ _ _ _ _ _ _ _ _ _
   | exact LeO.none _
   | refine LeO.ite ?_ ?_
   | refine LeO.bind ?_ (fun _ => ?_)
set_option maxHeartbeats 8000000 in
set_option maxRecDepth 100000 in
theorem spec_l13Picture.calls (k : Nat) (A0_0 : Option Addr) (c0_0 : Nat) (l0_0 : List (S92)) (A0_1 : Option Addr) (c0_1 : Nat) (l0_1 : List (S95)) (r1 : Int) (r2 : Bool) (w : World) (hr0_0 : Kd.C k92 w A0_0 l0_0.length l0_0) (hc0_0 : l0_0.length ≤ c0_0) (hr0_1 : Kd.C k95 w A0_1 l0_1.length l0_1) (hc0_1 : l0_1.length ≤ c0_1) (h : spec_l13Picture.f k l0_0 l0_1 = some (r1, r2)) :
  Calls Try.prog 77 #[.agg #[.slice A0_0 l0_0.length c0_0, .slice A0_1 l0_1.length c0_1]] w fun e w' => e = .returned (.tuple #[.int .i64 r1, .bool r2]) ∧ Below w.heap.size w w' := by
 have hu53 := Try.underlying53
 have hu92 := Try.underlying92
 have hu95 := Try.underlying95
 have HR0_0 := Aside0.mk hr0_0
 have HC0_0 := Aside0.mk hc0_0
 clear hr0_0 hc0_0
 have HR0_1 := Aside0.mk hr0_1
 have HC0_1 := Aside0.mk hc0_1
 clear hr0_1 hc0_1
 have HB := Aside0.mk (Below.refl w.heap.size w)
 have H : (spec_l13Picture.l0 k 0 true l0_0 (l0_0.length : Int) 0 l0_0 l0_1) = some (r1, r2) := h
 clear h
 have H' := Aside0.mk H
 clear H
 go_enter Try.func77, Try.ntmps77
 go_wp2_with (first | ((with_reducible refine gate_dst (N := 1) rfl ?_); refine box_event rfl (N := 1) rfl (cs := #[.slice A0_0 l0_0.length c0_0, .slice A0_1 l0_1.length c0_1]) (t := 53) gs_ ?_; intro gb322 hg w2 hbox hb; have BK322 := Aside0.mk (hbox); have GW322 := Aside0.mk ((by rw [hg]; exact bz_ : w.heap.size ≤ gb322)); have GE322 := GW322; replace HB := Aside0.mk (below_step bl_ hb); clear hb hbox hg; have hcz3_0 : w2.cell? ⟨gb322, 0, none⟩ = some (.slice A0_0 l0_0.length c0_0) := bc_ BK322.out 0; have hcz3_1 : w2.cell? ⟨gb322, 1, none⟩ = some (.slice A0_1 l0_1.length c0_1) := bc_ BK322.out 1; have hfz3_0 := blk_frozen BK322.out 0; have hfz3_1 := blk_frozen BK322.out 1))
 go_loopg [4, 5, 15] k (fun kq v4 v5 v15 w' => ∃ (x4_1 : Int) (x5_1 : Bool) (x15_1 : Int), v4 = .int .i64 x4_1 ∧ v5 = .bool x5_1 ∧ v15 = .int .i64 x15_1 ∧ Aside0 (spec_l13Picture.l0 kq x4_1 x5_1 l0_0 (l0_0.length : Int) x15_1 l0_0 l0_1 = some (r1, r2)) ∧ Aside0 (kq ≤ k) ∧ Aside0 (w'.heap[gb322]? = some (.cells #[(.slice A0_0 l0_0.length c0_0), (.slice A0_1 l0_1.length c0_1)] 53 (0, 0))) ∧ Aside0 (Below w.heap.size w w'))
 case atStart => exact ⟨(0), (true), (0), (by first | rfl | (simp; done) | (simp [*]; done)), (by first | rfl | (simp; done) | (simp [*]; done)), (by first | rfl | (simp; done) | (simp [*]; done)), H', ⟨Nat.le_refl _⟩, ⟨by exact kb_ BK322.out⟩, ⟨bl_⟩⟩
 clear H'
 try clear p2
 try clear hcz3_0
 try clear hcz3_1
 try clear hfz3_0
 try clear hfz3_1
 obtain ⟨x4_1, x5_1, x15_1, rfl, rfl, rfl, HA, HK1, BK322, HB⟩ := hrel
 cases gk with
 | zero => exact absurd HA.out (by simp [spec_l13Picture.l0])
 | succ k1 => ?_
 have H := HA.out
 clear HA
 simp only [spec_l13Picture.l0] at H
 by_cases c4 : x15_1 < (l0_0.length : Int)
 ·rw [if_pos c4] at H
  have c4b0 : decide (x15_1 < (l0_0.length : Int)) = true := decide_eq_true c4
  clear c4
  by_cases c5 : 0 ≤ x15_1
  rotate_left
  ·rw [if_neg c5] at H
   exact absurd H (by simp)
  rw [if_pos c5] at H
  have c5b0 : decide (0 ≤ x15_1) = true := decide_eq_true c5
  clear c5
  by_cases c6 : x15_1 < (l0_0.length : Int)
  rotate_left
  ·rw [if_neg c6] at H
   exact absurd H (by simp)
  rw [if_pos c6] at H
  have c6b0 : decide (x15_1 < (l0_0.length : Int)) = true := decide_eq_true c6
  clear c6
  by_cases c7 : x5_1 = true
  ·subst c7
   have H1 : (spec_l13Picture.l0 k1 (wrap64 (x4_1 + ((rd_T92 l0_0 x15_1).f2))) ((rd_T92 l0_0 x15_1).f1) l0_0 (l0_0.length : Int) (wrap64 (x15_1 + 1)) l0_0 l0_1) = some (r1, r2) := by rw [if_pos rfl] at H; exact H
   clear H
   have H := H1
   clear H1
   have H' := Aside0.mk H
   clear H
   have p323 : 0 ≤ (x15_1 : Int) := of_decide_eq_true (by first | (with_reducible assumption) | assumption)
   have q323 : x15_1 < (l0_0.length : Int) := of_decide_eq_true (by first | (with_reducible assumption) | assumption)
   obtain ⟨ad323, e323, hx323_0, hx323_1, hx323_2⟩ := at_T92 HR0_0.out x15_1 p323 q323
   cases e323
   replace hx323_0 := (HB.out.cell (World.block_lt_of_cell? w _ hx323_0)).trans hx323_0
   replace hx323_1 := (HB.out.cell (World.block_lt_of_cell? w _ hx323_1)).trans hx323_1
   replace hx323_2 := (HB.out.cell (World.block_lt_of_cell? w _ hx323_2)).trans hx323_2
   replace p323 := eq_true p323
   replace q323 := eq_true q323
   go_wp2_with (first | ((with_reducible refine gate_dst (N := 7) rfl ?_); refine box_event rfl (N := 7) rfl (cs := #[.int .i64 0, .bool false, .int .i64 0]) (t := 92) gs_ ?_; intro gb324 hg w8 hbox hb; have BK324 := Aside0.mk (hbox); have GW324 := Aside0.mk ((by rw [hg]; exact bz_ : w.heap.size ≤ gb324)); have GE324 := GW324; replace HB := Aside0.mk (below_step bl_ hb); have NB322_324 := nl_ hg BK322; have NB324_322 := nm_ hg BK322; replace BK322 := bb_ BK322 hb; clear hb hbox hg; have hnb9 := NB324_322.out; have hnc9 := NB322_324.out; have hcz10_0 : w8.cell? ⟨gb324, 0, none⟩ = some (.int .i64 0) := bc_ BK324.out 0; have hcz10_1 : w8.cell? ⟨gb324, 1, none⟩ = some (.bool false) := bc_ BK324.out 1; have hcz10_2 : w8.cell? ⟨gb324, 2, none⟩ = some (.int .i64 0) := bc_ BK324.out 2; have hfz10_0 := blk_frozen BK324.out 0; have hfz10_1 := blk_frozen BK324.out 1; have hfz10_2 := blk_frozen BK324.out 2))
   go_roundg k1
   case measure => have := HK1.out; omega
   case rel => exact ⟨(wrap64 (x4_1 + ((rd_T92 l0_0 x15_1).f2))), ((rd_T92 l0_0 x15_1).f1), (wrap64 (x15_1 + 1)), (by first | rfl | (simp; done) | (simp [*]; done)), (by first | rfl | (simp; done) | (simp [*]; done)), (by first | rfl | (simp; done) | (simp [*]; done)), H', ⟨by have := HK1.out; omega⟩, ⟨kz_⟩, ⟨bl_⟩⟩
  replace c7 := Bool.eq_false_iff.mpr c7
  subst c7
  have H1 : (spec_l13Picture.l0 k1 (wrap64 (x4_1 + ((rd_T92 l0_0 x15_1).f2))) false l0_0 (l0_0.length : Int) (wrap64 (x15_1 + 1)) l0_0 l0_1) = some (r1, r2) := by rw [if_neg (show ¬ (false = true) by decide)] at H; exact H
  clear H
  have H := H1
  clear H1
  have H' := Aside0.mk H
  clear H
  have p323 : 0 ≤ (x15_1 : Int) := of_decide_eq_true (by first | (with_reducible assumption) | assumption)
  have q323 : x15_1 < (l0_0.length : Int) := of_decide_eq_true (by first | (with_reducible assumption) | assumption)
  obtain ⟨ad323, e323, hx323_0, hx323_1, hx323_2⟩ := at_T92 HR0_0.out x15_1 p323 q323
  cases e323
  replace hx323_0 := (HB.out.cell (World.block_lt_of_cell? w _ hx323_0)).trans hx323_0
  replace hx323_1 := (HB.out.cell (World.block_lt_of_cell? w _ hx323_1)).trans hx323_1
  replace hx323_2 := (HB.out.cell (World.block_lt_of_cell? w _ hx323_2)).trans hx323_2
  replace p323 := eq_true p323
  replace q323 := eq_true q323
  go_wp2_with (first | ((with_reducible refine gate_dst (N := 7) rfl ?_); refine box_event rfl (N := 7) rfl (cs := #[.int .i64 0, .bool false, .int .i64 0]) (t := 92) gs_ ?_; intro gb324 hg w11 hbox hb; have BK324 := Aside0.mk (hbox); have GW324 := Aside0.mk ((by rw [hg]; exact bz_ : w.heap.size ≤ gb324)); have GE324 := GW324; replace HB := Aside0.mk (below_step bl_ hb); have NB322_324 := nl_ hg BK322; have NB324_322 := nm_ hg BK322; replace BK322 := bb_ BK322 hb; clear hb hbox hg; have hnb12 := NB324_322.out; have hnc12 := NB322_324.out; have hcz13_0 : w11.cell? ⟨gb324, 0, none⟩ = some (.int .i64 0) := bc_ BK324.out 0; have hcz13_1 : w11.cell? ⟨gb324, 1, none⟩ = some (.bool false) := bc_ BK324.out 1; have hcz13_2 : w11.cell? ⟨gb324, 2, none⟩ = some (.int .i64 0) := bc_ BK324.out 2; have hfz13_0 := blk_frozen BK324.out 0; have hfz13_1 := blk_frozen BK324.out 1; have hfz13_2 := blk_frozen BK324.out 2))
  go_roundg k1
  case measure => have := HK1.out; omega
  case rel => exact ⟨(wrap64 (x4_1 + ((rd_T92 l0_0 x15_1).f2))), (false), (wrap64 (x15_1 + 1)), (by first | rfl | (simp; done) | (simp [*]; done)), (by first | rfl | (simp; done) | (simp [*]; done)), (by first | rfl | (simp; done) | (simp [*]; done)), H', ⟨by have := HK1.out; omega⟩, ⟨kz_⟩, ⟨bl_⟩⟩
 rw [if_neg c4] at H
 have c4b0 : decide (x15_1 < (l0_0.length : Int)) = false := decide_eq_false c4
 clear c4
 have H' := Aside0.mk H
 clear H
 have hcz14_0 : wr.cell? ⟨gb322, 0, none⟩ = some (.slice A0_0 l0_0.length c0_0) := bc_ BK322.out 0
 have hcz14_1 : wr.cell? ⟨gb322, 1, none⟩ = some (.slice A0_1 l0_1.length c0_1) := bc_ BK322.out 1
 have hfz14_0 := blk_frozen BK322.out 0
 have hfz14_1 := blk_frozen BK322.out 1
 go_wp2
 go_loopg [4, 5, 32] k1 (fun kq v4 v5 v32 w' => ∃ (x4_2 : Int) (x5_2 : Bool) (x32_2 : Int), v4 = .int .i64 x4_2 ∧ v5 = .bool x5_2 ∧ v32 = .int .i64 x32_2 ∧ Aside0 (spec_l13Picture.l1 kq x4_2 x5_2 l0_1 (l0_1.length : Int) x32_2 = some (r1, r2)) ∧ Aside0 (kq ≤ k1) ∧ Aside0 (w'.heap[gb322]? = some (.cells #[(.slice A0_0 l0_0.length c0_0), (.slice A0_1 l0_1.length c0_1)] 53 (0, 0))) ∧ Aside0 (Below w.heap.size w w'))
 case atStart => exact ⟨(x4_1), (x5_1), (0), (by first | rfl | (simp; done) | (simp [*]; done)), (by first | rfl | (simp; done) | (simp [*]; done)), (by first | rfl | (simp; done) | (simp [*]; done)), H', ⟨Nat.le_refl _⟩, ⟨by exact kb_ BK322.out⟩, ⟨bl_⟩⟩
 clear H'
 try clear c1
 try clear p2
 try clear p3
 try clear q3
 try clear hx3
 try clear c4
 try clear c4b0
 try clear c5
 try clear c5b0
 try clear c6
 try clear c6b0
 try clear p6
 try clear c7
 try clear c9
 try clear c12
 try clear hcz10_0
 try clear hcz10_1
 try clear hcz10_2
 try clear hcz13_0
 try clear hcz13_1
 try clear hcz13_2
 try clear hcz14_0
 try clear hcz14_1
 try clear hcz3_0
 try clear hcz3_1
 try clear hfz10_0
 try clear hfz10_1
 try clear hfz10_2
 try clear hfz13_0
 try clear hfz13_1
 try clear hfz13_2
 try clear hfz14_0
 try clear hfz14_1
 try clear hfz3_0
 try clear hfz3_1
 try clear hx323_0
 try clear hx323_1
 try clear hx323_2
 try clear p2
 try clear p323
 try clear q323
 obtain ⟨x4_2, x5_2, x32_2, rfl, rfl, rfl, HA, HK2, BK322, HB⟩ := hrel
 cases gk with
 | zero => exact absurd HA.out (by simp [spec_l13Picture.l1])
 | succ k2 => ?_
 have H := HA.out
 clear HA
 simp only [spec_l13Picture.l1] at H
 by_cases c15 : x32_2 < (l0_1.length : Int)
 rotate_left
 ·rw [if_neg c15] at H
  have c15b0 : decide (x32_2 < (l0_1.length : Int)) = false := decide_eq_false c15
  clear c15
  simp only [Option.some.injEq, Prod.mk.injEq] at H
  obtain ⟨rfl, rfl⟩ := H
  go_wp2
  go_ret2
  exact ⟨ng_, bl_⟩
 rw [if_pos c15] at H
 have c15b0 : decide (x32_2 < (l0_1.length : Int)) = true := decide_eq_true c15
 clear c15
 by_cases c16 : 0 ≤ x32_2
 rotate_left
 ·rw [if_neg c16] at H
  exact absurd H (by simp)
 rw [if_pos c16] at H
 have c16b0 : decide (0 ≤ x32_2) = true := decide_eq_true c16
 clear c16
 by_cases c17 : x32_2 < (l0_1.length : Int)
 rotate_left
 ·rw [if_neg c17] at H
  exact absurd H (by simp)
 rw [if_pos c17] at H
 have c17b0 : decide (x32_2 < (l0_1.length : Int)) = true := decide_eq_true c17
 clear c17
 have H' := Aside0.mk H
 clear H
 have p325 : 0 ≤ (x32_2 : Int) := of_decide_eq_true (by first | (with_reducible assumption) | assumption)
 have q325 : x32_2 < (l0_1.length : Int) := of_decide_eq_true (by first | (with_reducible assumption) | assumption)
 obtain ⟨ad325, A325_2, c325_2, A325_4, c325_4, e325, hx325_0, hx325_1, hx325_2, hx325_3, hx325_4, hl325_2, hi325_2, hl325_4, hi325_4⟩ := at_T95 HR0_1.out x32_2 p325 q325
 cases e325
 replace hx325_0 := (HB.out.cell (World.block_lt_of_cell? w _ hx325_0)).trans hx325_0
 replace hx325_1 := (HB.out.cell (World.block_lt_of_cell? w _ hx325_1)).trans hx325_1
 replace hx325_2 := (HB.out.cell (World.block_lt_of_cell? w _ hx325_2)).trans hx325_2
 replace hx325_3 := (HB.out.cell (World.block_lt_of_cell? w _ hx325_3)).trans hx325_3
 replace hx325_4 := (HB.out.cell (World.block_lt_of_cell? w _ hx325_4)).trans hx325_4
 have HR325_2 := Aside0.mk hi325_2
 have HC325_2 := Aside0.mk hl325_2
 clear hi325_2 hl325_2
 have HR325_4 := Aside0.mk hi325_4
 have HC325_4 := Aside0.mk hl325_4
 clear hi325_4 hl325_4
 replace p325 := eq_true p325
 replace q325 := eq_true q325
 go_wp2_with (first | ((with_reducible refine gate_dst (N := 9) rfl ?_); refine box_event rfl (N := 9) rfl (cs := #[.int .i64 0, .int .i64 0, .slice none 0 0, .bool false, .slice none 0 0]) (t := 95) gs_ ?_; intro gb326 hg w18 hbox hb; have BK326 := Aside0.mk (hbox); have GW326 := Aside0.mk ((by rw [hg]; exact bz_ : w.heap.size ≤ gb326)); have GE326 := GW326; replace HB := Aside0.mk (below_step bl_ hb); have NB322_326 := nl_ hg BK322; have NB326_322 := nm_ hg BK322; replace BK322 := bb_ BK322 hb; clear hb hbox hg; have hnb19 := NB326_322.out; have hnc19 := NB322_326.out; have hcz20_0 : w18.cell? ⟨gb326, 0, none⟩ = some (.int .i64 0) := bc_ BK326.out 0; have hcz20_1 : w18.cell? ⟨gb326, 1, none⟩ = some (.int .i64 0) := bc_ BK326.out 1; have hcz20_2 : w18.cell? ⟨gb326, 2, none⟩ = some (.slice none 0 0) := bc_ BK326.out 2; have hcz20_3 : w18.cell? ⟨gb326, 3, none⟩ = some (.bool false) := bc_ BK326.out 3; have hcz20_4 : w18.cell? ⟨gb326, 4, none⟩ = some (.slice none 0 0) := bc_ BK326.out 4; have hfz20_0 := blk_frozen BK326.out 0; have hfz20_1 := blk_frozen BK326.out 1; have hfz20_2 := blk_frozen BK326.out 2; have hfz20_3 := blk_frozen BK326.out 3; have hfz20_4 := blk_frozen BK326.out 4))
 go_loopg [4, 39] k2 (fun kq v4 v39 w' => ∃ (x4_3 : Int) (x39_3 : Int), v4 = .int .i64 x4_3 ∧ v39 = .int .i64 x39_3 ∧ Aside0 (spec_l13Picture.l2 kq x4_3 x5_2 l0_1 (l0_1.length : Int) x32_2 ((rd_T95 l0_1 x32_2).f4) (((rd_T95 l0_1 x32_2).f4).length : Int) x39_3 ((rd_T95 l0_1 x32_2).f0) ((rd_T95 l0_1 x32_2).f1) ((rd_T95 l0_1 x32_2).f2) ((rd_T95 l0_1 x32_2).f3) ((rd_T95 l0_1 x32_2).f4) = some (r1, r2)) ∧ Aside0 (kq ≤ k2) ∧ Aside0 (w'.heap[gb322]? = some (.cells #[(.slice A0_0 l0_0.length c0_0), (.slice (some ad325) l0_1.length c0_1)] 53 (0, 0))) ∧ Aside0 (w'.heap[gb326]? = some (.cells #[.int .i64 ((rd_T95 l0_1 x32_2).f0), .int .i64 ((rd_T95 l0_1 x32_2).f1), (.slice A325_2 ((rd_T95 l0_1 x32_2).f2).length c325_2), .bool ((rd_T95 l0_1 x32_2).f3), (.slice A325_4 ((rd_T95 l0_1 x32_2).f4).length c325_4)] 95 (0, 0))) ∧ Aside0 (Below w.heap.size w w'))
 case atStart => exact ⟨(x4_2), (0), (by first | rfl | (simp; done) | (simp [*]; done)), (by first | rfl | (simp; done) | (simp [*]; done)), H', ⟨Nat.le_refl _⟩, ⟨kz_⟩, ⟨by (with_reducible repeat (first | refine blk_drewN ?_ _ | refine blk_drew ?_ | refine blk_alloc ?_ _)); refine blk_put (cs := #[.int .i64 ((rd_T95 l0_1 x32_2).f0), .int .i64 ((rd_T95 l0_1 x32_2).f1), .slice A325_2 ((rd_T95 l0_1 x32_2).f2).length c325_2, .bool ((rd_T95 l0_1 x32_2).f3), .slice none 0 0]) ?_ 4 _ rfl; (with_reducible repeat (first | refine blk_drewN ?_ _ | refine blk_drew ?_ | refine blk_alloc ?_ _)); refine blk_put (cs := #[.int .i64 ((rd_T95 l0_1 x32_2).f0), .int .i64 ((rd_T95 l0_1 x32_2).f1), .slice A325_2 ((rd_T95 l0_1 x32_2).f2).length c325_2, .bool false, .slice none 0 0]) ?_ 3 _ rfl; (with_reducible repeat (first | refine blk_drewN ?_ _ | refine blk_drew ?_ | refine blk_alloc ?_ _)); refine blk_put (cs := #[.int .i64 ((rd_T95 l0_1 x32_2).f0), .int .i64 ((rd_T95 l0_1 x32_2).f1), .slice none 0 0, .bool false, .slice none 0 0]) ?_ 2 _ rfl; (with_reducible repeat (first | refine blk_drewN ?_ _ | refine blk_drew ?_ | refine blk_alloc ?_ _)); refine blk_put (cs := #[.int .i64 ((rd_T95 l0_1 x32_2).f0), .int .i64 0, .slice none 0 0, .bool false, .slice none 0 0]) ?_ 1 _ rfl; (with_reducible repeat (first | refine blk_drewN ?_ _ | refine blk_drew ?_ | refine blk_alloc ?_ _)); refine blk_put (cs := #[.int .i64 0, .int .i64 0, .slice none 0 0, .bool false, .slice none 0 0]) ?_ 0 _ rfl; exact kb_ BK326.out⟩, ⟨bl_⟩⟩
 clear H'
 try clear c1
 try clear p2
 try clear c3
 try clear p3
 try clear q3
 try clear hx3
 try clear c4
 try clear c4b0
 try clear c5
 try clear c5b0
 try clear c6
 try clear c6b0
 try clear p6
 try clear c7
 try clear c9
 try clear c12
 try clear c15
 try clear c15b0
 try clear c16
 try clear c16b0
 try clear c17
 try clear c17b0
 try clear c19
 try clear hcz10_0
 try clear hcz10_1
 try clear hcz10_2
 try clear hcz13_0
 try clear hcz13_1
 try clear hcz13_2
 try clear hcz14_0
 try clear hcz14_1
 try clear hcz20_0
 try clear hcz20_1
 try clear hcz20_2
 try clear hcz20_3
 try clear hcz20_4
 try clear hcz3_0
 try clear hcz3_1
 try clear hfz10_0
 try clear hfz10_1
 try clear hfz10_2
 try clear hfz13_0
 try clear hfz13_1
 try clear hfz13_2
 try clear hfz14_0
 try clear hfz14_1
 try clear hfz20_0
 try clear hfz20_1
 try clear hfz20_2
 try clear hfz20_3
 try clear hfz20_4
 try clear hfz3_0
 try clear hfz3_1
 try clear hx323_0
 try clear hx323_1
 try clear hx323_2
 try clear hx325_0
 try clear hx325_1
 try clear hx325_2
 try clear hx325_3
 try clear hx325_4
 try clear p2
 try clear p3
 try clear p323
 try clear p325
 try clear p6
 try clear q3
 try clear q323
 try clear q325
 obtain ⟨x4_3, x39_3, rfl, rfl, HA, HK3, BK322, BK326, HB⟩ := hrel
 cases gk with
 | zero => exact absurd HA.out (by simp [spec_l13Picture.l2])
 | succ k3 => ?_
 have H := HA.out
 clear HA
 simp only [spec_l13Picture.l2] at H
 by_cases c21 : x39_3 < (((rd_T95 l0_1 x32_2).f4).length : Int)
 ·rw [if_pos c21] at H
  have c21b0 : decide (x39_3 < (((rd_T95 l0_1 x32_2).f4).length : Int)) = true := decide_eq_true c21
  clear c21
  by_cases c22 : 0 ≤ x39_3
  rotate_left
  ·rw [if_neg c22] at H
   exact absurd H (by simp)
  rw [if_pos c22] at H
  have c22b0 : decide (0 ≤ x39_3) = true := decide_eq_true c22
  clear c22
  by_cases c23 : x39_3 < (((rd_T95 l0_1 x32_2).f4).length : Int)
  rotate_left
  ·rw [if_neg c23] at H
   exact absurd H (by simp)
  rw [if_pos c23] at H
  have c23b0 : decide (x39_3 < (((rd_T95 l0_1 x32_2).f4).length : Int)) = true := decide_eq_true c23
  clear c23
  have H' := Aside0.mk H
  clear H
  have p327 : 0 ≤ (x39_3 : Int) := of_decide_eq_true (by first | (with_reducible assumption) | assumption)
  have q327 : x39_3 < (((rd_T95 l0_1 x32_2).f4).length : Int) := of_decide_eq_true (by first | (with_reducible assumption) | assumption)
  obtain ⟨ad327, e327, hx327_0⟩ := Kd.at_int HR325_4.out x39_3 p327 q327
  cases e327
  replace hx327_0 := (HB.out.cell (World.block_lt_of_cell? w _ hx327_0)).trans hx327_0
  replace p327 := eq_true p327
  replace q327 := eq_true q327
  go_wp2
  go_roundg k3
  case measure => have := HK1.out; have := HK2.out; have := HK3.out; omega
  case rel => exact ⟨(wrap64 (x4_3 + (rd ((rd_T95 l0_1 x32_2).f4) x39_3))), (wrap64 (x39_3 + 1)), (by first | rfl | (simp; done) | (simp [*]; done)), (by first | rfl | (simp; done) | (simp [*]; done)), H', ⟨by have := HK1.out; have := HK2.out; have := HK3.out; omega⟩, ⟨by exact kb_ BK322.out⟩, ⟨by exact kb_ BK326.out⟩, ⟨bl_⟩⟩
 rw [if_neg c21] at H
 have c21b0 : decide (x39_3 < (((rd_T95 l0_1 x32_2).f4).length : Int)) = false := decide_eq_false c21
 clear c21
 by_cases c24 : x5_2 = true
 rotate_left
 ·replace c24 := Bool.eq_false_iff.mpr c24
  subst c24
  have H1 : (spec_l13Picture.l1 k3 x4_3 false l0_1 (l0_1.length : Int) (wrap64 (x32_2 + 1))) = some (r1, r2) := by rw [if_neg (show ¬ (false = true) by decide)] at H; exact H
  clear H
  have H := H1
  clear H1
  have H' := Aside0.mk H
  clear H
  go_wp2
  go_roundg k3
  case measure => have := HK1.out; have := HK2.out; have := HK3.out; omega
  case rel => exact ⟨(x4_3), (false), (wrap64 (x32_2 + 1)), (by first | rfl | (simp; done) | (simp [*]; done)), (by first | rfl | (simp; done) | (simp [*]; done)), (by first | rfl | (simp; done) | (simp [*]; done)), H', ⟨by have := HK1.out; have := HK2.out; have := HK3.out; omega⟩, ⟨by exact kb_ BK322.out⟩, ⟨bl_⟩⟩
 subst c24
 have H1 : (spec_l13Picture.l1 k3 x4_3 (!((rd_T95 l0_1 x32_2).f3)) l0_1 (l0_1.length : Int) (wrap64 (x32_2 + 1))) = some (r1, r2) := by rw [if_pos rfl] at H; exact H
 clear H
 have H := H1
 clear H1
 have H' := Aside0.mk H
 clear H
 have hnb25 := NB326_322.out
 have hnc25 := NB322_326.out
 have hcz26_0 : wr.cell? ⟨gb326, 0, none⟩ = some (.int .i64 ((rd_T95 l0_1 x32_2).f0)) := bc_ BK326.out 0
 have hcz26_1 : wr.cell? ⟨gb326, 1, none⟩ = some (.int .i64 ((rd_T95 l0_1 x32_2).f1)) := bc_ BK326.out 1
 have hcz26_2 : wr.cell? ⟨gb326, 2, none⟩ = some (.slice A325_2 ((rd_T95 l0_1 x32_2).f2).length c325_2) := bc_ BK326.out 2
 have hcz26_3 : wr.cell? ⟨gb326, 3, none⟩ = some (.bool ((rd_T95 l0_1 x32_2).f3)) := bc_ BK326.out 3
 have hcz26_4 : wr.cell? ⟨gb326, 4, none⟩ = some (.slice A325_4 ((rd_T95 l0_1 x32_2).f4).length c325_4) := bc_ BK326.out 4
 have hfz26_0 := blk_frozen BK326.out 0
 have hfz26_1 := blk_frozen BK326.out 1
 have hfz26_2 := blk_frozen BK326.out 2
 have hfz26_3 := blk_frozen BK326.out 3
 have hfz26_4 := blk_frozen BK326.out 4
 go_wp2
 go_roundg k3
 case measure => have := HK1.out; have := HK2.out; have := HK3.out; omega
 case rel => exact ⟨(x4_3), (!((rd_T95 l0_1 x32_2).f3)), (wrap64 (x32_2 + 1)), (by first | rfl | (simp; done) | (simp [*]; done)), (by first | rfl | (simp; done) | (simp [*]; done)), (by first | rfl | (simp; done) | (simp [*]; done)), H', ⟨by have := HK1.out; have := HK2.out; have := HK3.out; omega⟩, ⟨by exact kb_ BK322.out⟩, ⟨bl_⟩⟩

/-! ### spec_PictureOf: function 42 -/
def spec_PictureOf.f (k : Nat) (l0_0 : List (S92)) (l0_1 : List (S95)) : Option (Int × Bool × Bool) := (spec_GoodNet.f k l0_0 l0_1).bind fun t329 => (if t329 = true then ((spec_l13Picture.f k l0_0 l0_1).bind fun bt330 => (some (bt330.1, bt330.2, true))) else (some (0, false, false)))
theorem spec_PictureOf.mono : ∀ a0 a1 k, LeO (spec_PictureOf.f k a0 a1) (spec_PictureOf.f (k + 1) a0 a1) := by
 intro a0 a1 k
 unfold spec_PictureOf.f
 repeat' first
   | (with_reducible exact spec_GoodNet.mono _ _ _)
   | (with_reducible exact spec_l13Picture.mono _ _ _)
   | (with_reducible exact LeO.refl _)
   | (with_reducible exact LeO.none _)
   | (with_reducible refine LeO.ite ?_ ?_)
   | (with_reducible refine LeO.bind ?_ (fun _ => ?_))
   | exact spec_GoodNet.mono _ _ _
   | exact spec_l13Picture.mono _ _ _
   | exact LeO.none _
   | refine LeO.ite ?_ ?_
   | refine LeO.bind ?_ (fun _ => ?_)
set_option maxHeartbeats 8000000 in
set_option maxRecDepth 100000 in
theorem spec_PictureOf.calls (k : Nat) (A0_0 : Option Addr) (c0_0 : Nat) (l0_0 : List (S92)) (A0_1 : Option Addr) (c0_1 : Nat) (l0_1 : List (S95)) (r1 : Int) (r2 : Bool) (r3 : Bool) (w : World) (hr0_0 : Kd.C k92 w A0_0 l0_0.length l0_0) (hc0_0 : l0_0.length ≤ c0_0) (hr0_1 : Kd.C k95 w A0_1 l0_1.length l0_1) (hc0_1 : l0_1.length ≤ c0_1) (h : spec_PictureOf.f k l0_0 l0_1 = some (r1, r2, r3)) :
  Calls Try.prog 42 #[.agg #[.slice A0_0 l0_0.length c0_0, .slice A0_1 l0_1.length c0_1]] w fun e w' => e = .returned (.tuple #[.int .i64 r1, .bool r2, .bool r3]) ∧ Below w.heap.size w w' := by
 have hu53 := Try.underlying53
 have HR0_0 := Aside0.mk hr0_0
 have HC0_0 := Aside0.mk hc0_0
 clear hr0_0 hc0_0
 have HR0_1 := Aside0.mk hr0_1
 have HC0_1 := Aside0.mk hc0_1
 clear hr0_1 hc0_1
 have HB := Aside0.mk (Below.refl w.heap.size w)
 have H : ((spec_GoodNet.f k l0_0 l0_1).bind fun t329 => (if t329 = true then ((spec_l13Picture.f k l0_0 l0_1).bind fun bt330 => (some (bt330.1, bt330.2, true))) else (some (0, false, false)))) = some (r1, r2, r3) := h
 clear h
 replace H := Option.bind_eq_some_iff.mp H
 obtain ⟨t329, A20, H⟩ := H
 replace H : (if t329 = true then ((spec_l13Picture.f k l0_0 l0_1).bind fun bt330 => (some (bt330.1, bt330.2, true))) else (some (0, false, false))) = some (r1, r2, r3) := H
 have A2 := Aside0.mk A20
 clear A20
 by_cases c3 : t329 = true
 rotate_left
 ·replace c3 := Bool.eq_false_iff.mpr c3
  subst c3
  have H1 : (some (0, false, false)) = some (r1, r2, r3) := by rw [if_neg (show ¬ (false = true) by decide)] at H; exact H
  clear H
  have H := H1
  clear H1
  simp only [Option.some.injEq, Prod.mk.injEq] at H
  obtain ⟨rfl, rfl, rfl⟩ := H
  go_enter Try.func42, Try.ntmps42
  go_wp2_with (first | ((with_reducible refine gate_dst (N := 1) rfl ?_); refine box_event rfl (N := 1) rfl (cs := #[.slice A0_0 l0_0.length c0_0, .slice A0_1 l0_1.length c0_1]) (t := 53) gs_ ?_; intro gb328 hg w10 hbox hb; have BK328 := Aside0.mk (hbox); have GW328 := Aside0.mk ((by rw [hg]; exact bz_ : w.heap.size ≤ gb328)); have GE328 := GW328; replace HB := Aside0.mk (below_step bl_ hb); clear hb hbox hg; have hcz11_0 : w10.cell? ⟨gb328, 0, none⟩ = some (.slice A0_0 l0_0.length c0_0) := bc_ BK328.out 0; have hcz11_1 : w10.cell? ⟨gb328, 1, none⟩ = some (.slice A0_1 l0_1.length c0_1) := bc_ BK328.out 1; have hfz11_0 := blk_frozen BK328.out 0; have hfz11_1 := blk_frozen BK328.out 1) | ((with_reducible refine gate_callee (f := 37) rfl ?_); refine goesL_ (some 8) rfl rfl Try.func37 (by kernel_rfl) rfl #[.agg #[.slice A0_0 l0_0.length c0_0, .slice A0_1 l0_1.length c0_1]] rfl nc_ ?_; (with_reducible refine (spec_GoodNet.calls k _ _ l0_0 _ _ l0_1 false _ ?side1 ?side2 ?side3 ?side4 A2.out).mono ?_); (case side1 => exact kc_ (Kd.C_below HR0_0.out HB.out)); (case side2 => exact HC0_0.out); (case side3 => exact kc_ (Kd.C_below HR0_1.out HB.out)); (case side4 => exact HC0_1.out); rintro e w12 ⟨rfl, hb⟩; refine ⟨_, rfl, ?_⟩; replace BK328 := bb_ BK328 hb; replace HB := Aside0.mk (below_step bl_ hb); clear hb))
  go_ret3
  exact ⟨ng_, bl_⟩
 subst c3
 have H1 : ((spec_l13Picture.f k l0_0 l0_1).bind fun bt330 => (some (bt330.1, bt330.2, true))) = some (r1, r2, r3) := by rw [if_pos rfl] at H; exact H
 clear H
 have H := H1
 clear H1
 replace H := Option.bind_eq_some_iff.mp H
 obtain ⟨⟨t330, t331⟩, A40, H⟩ := H
 replace H : (some (t330, t331, true)) = some (r1, r2, r3) := H
 have A4 := Aside0.mk A40
 clear A40
 simp only [Option.some.injEq, Prod.mk.injEq] at H
 obtain ⟨rfl, rfl, rfl⟩ := H
 go_enter Try.func42, Try.ntmps42
 go_wp2_with (first | ((with_reducible refine gate_dst (N := 1) rfl ?_); refine box_event rfl (N := 1) rfl (cs := #[.slice A0_0 l0_0.length c0_0, .slice A0_1 l0_1.length c0_1]) (t := 53) gs_ ?_; intro gb328 hg w5 hbox hb; have BK328 := Aside0.mk (hbox); have GW328 := Aside0.mk ((by rw [hg]; exact bz_ : w.heap.size ≤ gb328)); have GE328 := GW328; replace HB := Aside0.mk (below_step bl_ hb); clear hb hbox hg; have hcz6_0 : w5.cell? ⟨gb328, 0, none⟩ = some (.slice A0_0 l0_0.length c0_0) := bc_ BK328.out 0; have hcz6_1 : w5.cell? ⟨gb328, 1, none⟩ = some (.slice A0_1 l0_1.length c0_1) := bc_ BK328.out 1; have hfz6_0 := blk_frozen BK328.out 0; have hfz6_1 := blk_frozen BK328.out 1) | ((with_reducible refine gate_callee (f := 37) rfl ?_); refine goesL_ (some 8) rfl rfl Try.func37 (by kernel_rfl) rfl #[.agg #[.slice A0_0 l0_0.length c0_0, .slice A0_1 l0_1.length c0_1]] rfl nc_ ?_; (with_reducible refine (spec_GoodNet.calls k _ _ l0_0 _ _ l0_1 true _ ?side1 ?side2 ?side3 ?side4 A2.out).mono ?_); (case side1 => exact kc_ (Kd.C_below HR0_0.out HB.out)); (case side2 => exact HC0_0.out); (case side3 => exact kc_ (Kd.C_below HR0_1.out HB.out)); (case side4 => exact HC0_1.out); rintro e w7 ⟨rfl, hb⟩; refine ⟨_, rfl, ?_⟩; replace BK328 := bb_ BK328 hb; replace HB := Aside0.mk (below_step bl_ hb); clear hb; have hcz8_0 : w7.cell? ⟨gb328, 0, none⟩ = some (.slice A0_0 l0_0.length c0_0) := bc_ BK328.out 0; have hcz8_1 : w7.cell? ⟨gb328, 1, none⟩ = some (.slice A0_1 l0_1.length c0_1) := bc_ BK328.out 1; have hfz8_0 := blk_frozen BK328.out 0; have hfz8_1 := blk_frozen BK328.out 1) | ((with_reducible refine gate_callee (f := 77) rfl ?_); refine goesL_ (some 12) rfl rfl Try.func77 (by kernel_rfl) rfl #[.agg #[.slice A0_0 l0_0.length c0_0, .slice A0_1 l0_1.length c0_1]] rfl nc_ ?_; (with_reducible refine (spec_l13Picture.calls k _ _ l0_0 _ _ l0_1 t330 t331 _ ?side1 ?side2 ?side3 ?side4 A4.out).mono ?_); (case side1 => exact kc_ (Kd.C_below HR0_0.out HB.out)); (case side2 => exact HC0_0.out); (case side3 => exact kc_ (Kd.C_below HR0_1.out HB.out)); (case side4 => exact HC0_1.out); rintro e w9 ⟨rfl, hb⟩; refine ⟨_, rfl, ?_⟩; replace BK328 := bb_ BK328 hb; replace HB := Aside0.mk (below_step bl_ hb); clear hb))
 go_ret3
 exact ⟨ng_, bl_⟩

theorem rd_nth_T92 {xs : List S92} {i : Nat} (h : i < xs.length) : rd_T92 xs (i : Int) = xs[i] := by simp [rd_T92, h]
/-! ### slices.IndexFunc at type 92: function 109 -/
set_option maxHeartbeats 2000000 in
theorem idxT92.any (g : Nat) (lb : Array Value) (eg : ∀ args w, (callFunc g args).run Try.prog w = .ok (.enter g args) w) (p : S92 → Option Bool) (A : Option Addr) (c : Nat) (xs : List S92) (res : Int) (w : World)
  (hp : ∀ (x : S92) (b : Bool) (W : World), p x = some b → Below w.heap.size w W → Calls Try.prog g (#[.agg #[.int .i64 x.f0, .bool x.f1, .int .i64 x.f2]] ++ lb) W fun e w' => e = .returned (.bool b) ∧ Below W.heap.size W w') (hr : Kd.C k92 w A xs.length xs) (h : idxO p xs 0 = some res) :
  Calls Try.prog 109 #[.slice A xs.length c, .func (.func g) #[] lb] w fun e w' => e = .returned (.int .i64 res) ∧ Below w.heap.size w w' := by
 have hbig : xs.length ≤ 9223372036854775807 := hr.2.1
 have HR := Aside0.mk hr
 have HP := Aside0.mk hp
 have HS := Aside0.mk (show idxO p (xs.drop 0) 0 = some res from h)
 clear hr hp h
 go_enter Try.func109, Try.ntmps109
 go_wp2
 go_loopg [5, 8] xs.length (fun gg _ s8 wr => ∃ kk : Nat, kk ≤ xs.length ∧ xs.length - kk ≤ gg ∧ s8 = .int .i64 kk ∧ Aside0 (Below w.heap.size w wr) ∧ Aside0 (idxO p (xs.drop kk) kk = some res))
 case atStart => exact ⟨0, Nat.zero_le _, by omega, rfl, ⟨Below.refl _ w⟩, HS⟩
 case round =>
  obtain ⟨kk, hkk, hg, rfl, HD, HA⟩ := hrel
  clear HS
  by_cases hlt : kk < xs.length
  ·have hltz : (kk : Int) < (xs.length : Int) := by omega
   obtain ⟨bb, hbb, hyes, hno⟩ := idxO_drop hlt HA.out
   clear HA
   obtain ⟨ad, e1, hx0, hx1, hx2⟩ := at_T92 HR.out (kk : Int) (by omega) (by omega)
   cases e1
   replace hx0 := (HD.out.cell (World.block_lt_of_cell? w _ hx0)).trans hx0
   simp only [Int.toNat_natCast] at hx0
   replace hx1 := (HD.out.cell (World.block_lt_of_cell? w _ hx1)).trans hx1
   simp only [Int.toNat_natCast] at hx1
   replace hx2 := (HD.out.cell (World.block_lt_of_cell? w _ hx2)).trans hx2
   simp only [Int.toNat_natCast] at hx2
   have hcall := HP.out (rd_T92 xs (kk : Int)) bb wr (by rw [rd_nth_T92 hlt]; exact hbb) HD.out
   clear hbb
   generalize hy : rd_T92 xs (kk : Int) = y at hx0 hx1 hx2 hcall
   have HY := Aside0.mk hy
   clear hy
   cases bb with
   | true =>
    have HQ := Aside0.mk (hyes rfl)
    clear hyes hno
    go_wp2_with (go_at_fn g; refine hcall.mono ?_; rintro e w' ⟨rfl, hd⟩)
    go_ret
    exact ⟨by rw [HQ.out]; rfl, below_then HD.out HD.out.size hd⟩
   | false =>
    have HQ := Aside0.mk (hno rfl)
    clear hyes hno
    go_wp2_with (go_at_fn g; refine hcall.mono ?_; rintro e w' ⟨rfl, hd⟩)
    go_roundg (xs.length - (kk + 1))
    case measure => omega
    case rel => exact ⟨kk + 1, by omega, by omega, by go_num, ⟨below_then HD.out HD.out.size hd⟩, HQ⟩
  ·have : kk = xs.length := by omega
   subst this
   have HE := Aside0.mk (idxO_end HA.out)
   go_wp2
   go_ret
   exact ⟨by rw [HE.out]; rfl, HD.out⟩

/-! ### slices.ContainsFunc at type 92: function 98 -/
theorem conT92.any (g : Nat) (lb : Array Value) (eg : ∀ args w, (callFunc g args).run Try.prog w = .ok (.enter g args) w) (p : S92 → Option Bool) (A : Option Addr) (c : Nat) (xs : List S92) (res : Int) (w : World)
  (hp : ∀ (x : S92) (b : Bool) (W : World), p x = some b → Below w.heap.size w W → Calls Try.prog g (#[.agg #[.int .i64 x.f0, .bool x.f1, .int .i64 x.f2]] ++ lb) W fun e w' => e = .returned (.bool b) ∧ Below W.heap.size W w') (hr : Kd.C k92 w A xs.length xs) (h : idxO p xs 0 = some res) :
  Calls Try.prog 98 #[.slice A xs.length c, .func (.func g) #[] lb] w fun e w' => e = .returned (.bool (decide (res ≥ 0))) ∧ Below w.heap.size w w' := by
 have hc := idxT92.any g lb eg p A c xs res w hp hr h
 clear hr hp eg h
 go_enter Try.func98, Try.ntmps98
 go_wp2_with (go_at_call 109; refine hc.mono ?_; rintro e w' ⟨rfl, hd⟩)
 go_ret
 exact ⟨rfl, hd⟩

/-! ### impl_Net_isWhole_1: function 99 -/
def impl_Net_isWhole_1.f (a0_0 : Int) (a0_1 : Bool) (a0_2 : Int) : Option (Bool) := some (!a0_1)
set_option maxHeartbeats 8000000 in
set_option maxRecDepth 100000 in
theorem impl_Net_isWhole_1.calls (a0_0 : Int) (a0_1 : Bool) (a0_2 : Int) (r : Bool) (w : World) (h : impl_Net_isWhole_1.f a0_0 a0_1 a0_2 = some r) :
  Calls Try.prog 99 #[.agg #[.int .i64 a0_0, .bool a0_1, .int .i64 a0_2]] w fun e w' => e = .returned (.bool r) ∧ Below w.heap.size w w' := by
 have hu92 := Try.underlying92
 have HB := Aside0.mk (Below.refl w.heap.size w)
 have H : (some (!a0_1)) = some r := h
 clear h
 obtain rfl := Option.some.inj H
 go_enter Try.func99, Try.ntmps99
 go_wp2_with (first | ((with_reducible refine gate_dst (N := 1) rfl ?_); refine box_event rfl (N := 1) rfl (cs := #[.int .i64 a0_0, .bool a0_1, .int .i64 a0_2]) (t := 92) gs_ ?_; intro gb332 hg w2 hbox hb; have BK332 := Aside0.mk (hbox); have GW332 := Aside0.mk ((by rw [hg]; exact bz_ : w.heap.size ≤ gb332)); have GE332 := GW332; replace HB := Aside0.mk (below_step bl_ hb); clear hb hbox hg; have hcz3_0 : w2.cell? ⟨gb332, 0, none⟩ = some (.int .i64 a0_0) := bc_ BK332.out 0; have hcz3_1 : w2.cell? ⟨gb332, 1, none⟩ = some (.bool a0_1) := bc_ BK332.out 1; have hcz3_2 : w2.cell? ⟨gb332, 2, none⟩ = some (.int .i64 a0_2) := bc_ BK332.out 2; have hfz3_0 := blk_frozen BK332.out 0; have hfz3_1 := blk_frozen BK332.out 1; have hfz3_2 := blk_frozen BK332.out 2))
 go_ret
 exact ⟨ng_, bl_⟩

theorem rd_nth_T95 {xs : List S95} {i : Nat} (h : i < xs.length) : rd_T95 xs (i : Int) = xs[i] := by simp [rd_T95, h]
/-! ### slices.IndexFunc at type 95: function 110 -/
set_option maxHeartbeats 2000000 in
theorem idxT95.any (g : Nat) (lb : Array Value) (eg : ∀ args w, (callFunc g args).run Try.prog w = .ok (.enter g args) w) (p : S95 → Option Bool) (A : Option Addr) (c : Nat) (xs : List S95) (res : Int) (w : World)
  (hp : ∀ (x : S95) (b : Bool) (W : World) (A2 : Option Addr) (c2 : Nat) (A4 : Option Addr) (c4 : Nat), p x = some b → Below w.heap.size w W → x.f2.length ≤ c2 → Kd.C k103 W A2 x.f2.length x.f2 → x.f4.length ≤ c4 → Kd.C (Kd.int .i64) W A4 x.f4.length x.f4 → Calls Try.prog g (#[.agg #[.int .i64 x.f0, .int .i64 x.f1, .slice A2 x.f2.length c2, .bool x.f3, .slice A4 x.f4.length c4]] ++ lb) W fun e w' => e = .returned (.bool b) ∧ Below W.heap.size W w') (hr : Kd.C k95 w A xs.length xs) (h : idxO p xs 0 = some res) :
  Calls Try.prog 110 #[.slice A xs.length c, .func (.func g) #[] lb] w fun e w' => e = .returned (.int .i64 res) ∧ Below w.heap.size w w' := by
 have hbig : xs.length ≤ 9223372036854775807 := hr.2.1
 have HR := Aside0.mk hr
 have HP := Aside0.mk hp
 have HS := Aside0.mk (show idxO p (xs.drop 0) 0 = some res from h)
 clear hr hp h
 go_enter Try.func110, Try.ntmps110
 go_wp2
 go_loopg [5, 8] xs.length (fun gg _ s8 wr => ∃ kk : Nat, kk ≤ xs.length ∧ xs.length - kk ≤ gg ∧ s8 = .int .i64 kk ∧ Aside0 (Below w.heap.size w wr) ∧ Aside0 (idxO p (xs.drop kk) kk = some res))
 case atStart => exact ⟨0, Nat.zero_le _, by omega, rfl, ⟨Below.refl _ w⟩, HS⟩
 case round =>
  obtain ⟨kk, hkk, hg, rfl, HD, HA⟩ := hrel
  clear HS
  by_cases hlt : kk < xs.length
  ·have hltz : (kk : Int) < (xs.length : Int) := by omega
   obtain ⟨bb, hbb, hyes, hno⟩ := idxO_drop hlt HA.out
   clear HA
   obtain ⟨ad, A2, c2, A4, c4, e1, hx0, hx1, hx2, hx3, hx4, hl2, hi2, hl4, hi4⟩ := at_T95 HR.out (kk : Int) (by omega) (by omega)
   cases e1
   replace hx0 := (HD.out.cell (World.block_lt_of_cell? w _ hx0)).trans hx0
   simp only [Int.toNat_natCast] at hx0
   replace hx1 := (HD.out.cell (World.block_lt_of_cell? w _ hx1)).trans hx1
   simp only [Int.toNat_natCast] at hx1
   replace hx2 := (HD.out.cell (World.block_lt_of_cell? w _ hx2)).trans hx2
   simp only [Int.toNat_natCast] at hx2
   replace hx3 := (HD.out.cell (World.block_lt_of_cell? w _ hx3)).trans hx3
   simp only [Int.toNat_natCast] at hx3
   replace hx4 := (HD.out.cell (World.block_lt_of_cell? w _ hx4)).trans hx4
   simp only [Int.toNat_natCast] at hx4
   have hcall := HP.out (rd_T95 xs (kk : Int)) bb wr A2 c2 A4 c4 (by rw [rd_nth_T95 hlt]; exact hbb) HD.out hl2 (Kd.C_below hi2 HD.out) hl4 (Kd.C_below hi4 HD.out)
   clear hl2 hi2 hl4 hi4 hbb
   generalize hy : rd_T95 xs (kk : Int) = y at hx0 hx1 hx2 hx3 hx4 hcall
   have HY := Aside0.mk hy
   clear hy
   cases bb with
   | true =>
    have HQ := Aside0.mk (hyes rfl)
    clear hyes hno
    go_wp2_with (go_at_fn g; refine hcall.mono ?_; rintro e w' ⟨rfl, hd⟩)
    go_ret
    exact ⟨by rw [HQ.out]; rfl, below_then HD.out HD.out.size hd⟩
   | false =>
    have HQ := Aside0.mk (hno rfl)
    clear hyes hno
    go_wp2_with (go_at_fn g; refine hcall.mono ?_; rintro e w' ⟨rfl, hd⟩)
    go_roundg (xs.length - (kk + 1))
    case measure => omega
    case rel => exact ⟨kk + 1, by omega, by omega, by go_num, ⟨below_then HD.out HD.out.size hd⟩, HQ⟩
  ·have : kk = xs.length := by omega
   subst this
   have HE := Aside0.mk (idxO_end HA.out)
   go_wp2
   go_ret
   exact ⟨by rw [HE.out]; rfl, HD.out⟩

/-! ### slices.ContainsFunc at type 95: function 100 -/
theorem conT95.any (g : Nat) (lb : Array Value) (eg : ∀ args w, (callFunc g args).run Try.prog w = .ok (.enter g args) w) (p : S95 → Option Bool) (A : Option Addr) (c : Nat) (xs : List S95) (res : Int) (w : World)
  (hp : ∀ (x : S95) (b : Bool) (W : World) (A2 : Option Addr) (c2 : Nat) (A4 : Option Addr) (c4 : Nat), p x = some b → Below w.heap.size w W → x.f2.length ≤ c2 → Kd.C k103 W A2 x.f2.length x.f2 → x.f4.length ≤ c4 → Kd.C (Kd.int .i64) W A4 x.f4.length x.f4 → Calls Try.prog g (#[.agg #[.int .i64 x.f0, .int .i64 x.f1, .slice A2 x.f2.length c2, .bool x.f3, .slice A4 x.f4.length c4]] ++ lb) W fun e w' => e = .returned (.bool b) ∧ Below W.heap.size W w') (hr : Kd.C k95 w A xs.length xs) (h : idxO p xs 0 = some res) :
  Calls Try.prog 100 #[.slice A xs.length c, .func (.func g) #[] lb] w fun e w' => e = .returned (.bool (decide (res ≥ 0))) ∧ Below w.heap.size w w' := by
 have hc := idxT95.any g lb eg p A c xs res w hp hr h
 clear hr hp eg h
 go_enter Try.func100, Try.ntmps100
 go_wp2_with (go_at_call 110; refine hc.mono ?_; rintro e w' ⟨rfl, hd⟩)
 go_ret
 exact ⟨rfl, hd⟩

/-! ### impl_Net_isWhole_2: function 101 -/
def impl_Net_isWhole_2.f (a0_0 : Int) (a0_1 : Int) (l0_2 : List (S103)) (a0_3 : Bool) (l0_4 : List Int) : Option (Bool) := some a0_3
set_option maxHeartbeats 8000000 in
set_option maxRecDepth 100000 in
theorem impl_Net_isWhole_2.calls (a0_0 : Int) (a0_1 : Int) (A0_2 : Option Addr) (c0_2 : Nat) (l0_2 : List (S103)) (a0_3 : Bool) (A0_4 : Option Addr) (c0_4 : Nat) (l0_4 : List Int) (r : Bool) (w : World) (hr0_2 : Kd.C k103 w A0_2 l0_2.length l0_2) (hc0_2 : l0_2.length ≤ c0_2) (hr0_4 : Kd.C (Kd.int .i64) w A0_4 l0_4.length l0_4) (hc0_4 : l0_4.length ≤ c0_4) (h : impl_Net_isWhole_2.f a0_0 a0_1 l0_2 a0_3 l0_4 = some r) :
  Calls Try.prog 101 #[.agg #[.int .i64 a0_0, .int .i64 a0_1, .slice A0_2 l0_2.length c0_2, .bool a0_3, .slice A0_4 l0_4.length c0_4]] w fun e w' => e = .returned (.bool r) ∧ Below w.heap.size w w' := by
 have hu95 := Try.underlying95
 have HR0_2 := Aside0.mk hr0_2
 have HC0_2 := Aside0.mk hc0_2
 clear hr0_2 hc0_2
 have HR0_4 := Aside0.mk hr0_4
 have HC0_4 := Aside0.mk hc0_4
 clear hr0_4 hc0_4
 have HB := Aside0.mk (Below.refl w.heap.size w)
 have H : (some a0_3) = some r := h
 clear h
 obtain rfl := Option.some.inj H
 go_enter Try.func101, Try.ntmps101
 go_wp2_with (first | ((with_reducible refine gate_dst (N := 1) rfl ?_); refine box_event rfl (N := 1) rfl (cs := #[.int .i64 a0_0, .int .i64 a0_1, .slice A0_2 l0_2.length c0_2, .bool a0_3, .slice A0_4 l0_4.length c0_4]) (t := 95) gs_ ?_; intro gb333 hg w2 hbox hb; have BK333 := Aside0.mk (hbox); have GW333 := Aside0.mk ((by rw [hg]; exact bz_ : w.heap.size ≤ gb333)); have GE333 := GW333; replace HB := Aside0.mk (below_step bl_ hb); clear hb hbox hg; have hcz3_0 : w2.cell? ⟨gb333, 0, none⟩ = some (.int .i64 a0_0) := bc_ BK333.out 0; have hcz3_1 : w2.cell? ⟨gb333, 1, none⟩ = some (.int .i64 a0_1) := bc_ BK333.out 1; have hcz3_2 : w2.cell? ⟨gb333, 2, none⟩ = some (.slice A0_2 l0_2.length c0_2) := bc_ BK333.out 2; have hcz3_3 : w2.cell? ⟨gb333, 3, none⟩ = some (.bool a0_3) := bc_ BK333.out 3; have hcz3_4 : w2.cell? ⟨gb333, 4, none⟩ = some (.slice A0_4 l0_4.length c0_4) := bc_ BK333.out 4; have hfz3_0 := blk_frozen BK333.out 0; have hfz3_1 := blk_frozen BK333.out 1; have hfz3_2 := blk_frozen BK333.out 2; have hfz3_3 := blk_frozen BK333.out 3; have hfz3_4 := blk_frozen BK333.out 4))
 go_ret
 exact ⟨ng_, bl_⟩

/-! ### has_impl_Net_isWhole_1: slices.ContainsFunc[[]loop.example/g00218/impl.Bank,loop.example/g00218/impl.Bank] with function 99 -/
def has_impl_Net_isWhole_1.f (l0 : List S92) : Option (Bool) := (idxO (fun x : S92 => impl_Net_isWhole_1.f x.f0 x.f1 x.f2) l0 0).bind fun i => some (decide (i ≥ 0))
theorem has_impl_Net_isWhole_1.calls (A0 : Option Addr) (c0 : Nat) (l0 : List S92) (r : Bool) (w : World) (hr0 : Kd.C k92 w A0 l0.length l0) (hc0 : l0.length ≤ c0) (h : has_impl_Net_isWhole_1.f l0 = some r) :
  Calls Try.prog 98 #[.slice A0 l0.length c0, .func (.func 99) #[] #[]] w fun e w' => e = .returned (.bool r) ∧ Below w.heap.size w w' := by
 have eg : ∀ args w, (callFunc 99 args).run Try.prog w = .ok (.enter 99 args) w := Go.Proofs.enters_of Try.func99 (by kernel_rfl) rfl
 unfold has_impl_Net_isWhole_1.f at h
 rw [Option.bind_eq_some_iff] at h
 obtain ⟨i, hi, he⟩ := h
 obtain rfl := Option.some.inj he
 exact conT92.any 99 #[] eg (fun x : S92 => impl_Net_isWhole_1.f x.f0 x.f1 x.f2) A0 c0 l0 i w (fun x b W hx _ => (impl_Net_isWhole_1.calls x.f0 x.f1 x.f2 b W hx).mono fun _ _ h_ => ⟨h_.1, (by first | exact h_.2 | exact h_.2.below)⟩) hr0 hi

/-! ### has_impl_Net_isWhole_2: slices.ContainsFunc[[]loop.example/g00218/impl.Way,loop.example/g00218/impl.Way] with function 101 -/
def has_impl_Net_isWhole_2.f (l0 : List S95) : Option (Bool) := (idxO (fun x : S95 => impl_Net_isWhole_2.f x.f0 x.f1 x.f2 x.f3 x.f4) l0 0).bind fun i => some (decide (i ≥ 0))
theorem has_impl_Net_isWhole_2.calls (A0 : Option Addr) (c0 : Nat) (l0 : List S95) (r : Bool) (w : World) (hr0 : Kd.C k95 w A0 l0.length l0) (hc0 : l0.length ≤ c0) (h : has_impl_Net_isWhole_2.f l0 = some r) :
  Calls Try.prog 100 #[.slice A0 l0.length c0, .func (.func 101) #[] #[]] w fun e w' => e = .returned (.bool r) ∧ Below w.heap.size w w' := by
 have eg : ∀ args w, (callFunc 101 args).run Try.prog w = .ok (.enter 101 args) w := Go.Proofs.enters_of Try.func101 (by kernel_rfl) rfl
 unfold has_impl_Net_isWhole_2.f at h
 rw [Option.bind_eq_some_iff] at h
 obtain ⟨i, hi, he⟩ := h
 obtain rfl := Option.some.inj he
 exact conT95.any 101 #[] eg (fun x : S95 => impl_Net_isWhole_2.f x.f0 x.f1 x.f2 x.f3 x.f4) A0 c0 l0 i w (fun x b W A2 c2 A4 c4 hx _ hl2 hr2 hl4 hr4 => (impl_Net_isWhole_2.calls x.f0 x.f1 _ _ x.f2 x.f3 _ _ x.f4 b W hr2 hl2 hr4 hl4 hx).mono fun _ _ h_ => ⟨h_.1, (by first | exact h_.2 | exact h_.2.below)⟩) hr0 hi

/-! ### impl_Net_isWhole: function 78 -/
def impl_Net_isWhole.f (l0_0 : List (S92)) (l0_1 : List (S95)) : Option (Bool) := (has_impl_Net_isWhole_1.f l0_0).bind fun t335 => (if t335 = true then (some false) else ((has_impl_Net_isWhole_2.f l0_1).bind fun t336 => (some (!t336))))
set_option maxHeartbeats 8000000 in
set_option maxRecDepth 100000 in
theorem impl_Net_isWhole.calls (A0_0 : Option Addr) (c0_0 : Nat) (l0_0 : List (S92)) (A0_1 : Option Addr) (c0_1 : Nat) (l0_1 : List (S95)) (r : Bool) (w : World) (hr0_0 : Kd.C k92 w A0_0 l0_0.length l0_0) (hc0_0 : l0_0.length ≤ c0_0) (hr0_1 : Kd.C k95 w A0_1 l0_1.length l0_1) (hc0_1 : l0_1.length ≤ c0_1) (h : impl_Net_isWhole.f l0_0 l0_1 = some r) :
  Calls Try.prog 78 #[.agg #[.slice A0_0 l0_0.length c0_0, .slice A0_1 l0_1.length c0_1]] w fun e w' => e = .returned (.bool r) ∧ Below w.heap.size w w' := by
 have hu53 := Try.underlying53
 have HR0_0 := Aside0.mk hr0_0
 have HC0_0 := Aside0.mk hc0_0
 clear hr0_0 hc0_0
 have HR0_1 := Aside0.mk hr0_1
 have HC0_1 := Aside0.mk hc0_1
 clear hr0_1 hc0_1
 have HB := Aside0.mk (Below.refl w.heap.size w)
 have H : ((has_impl_Net_isWhole_1.f l0_0).bind fun t335 => (if t335 = true then (some false) else ((has_impl_Net_isWhole_2.f l0_1).bind fun t336 => (some (!t336))))) = some r := h
 clear h
 replace H := Option.bind_eq_some_iff.mp H
 obtain ⟨t335, A20, H⟩ := H
 replace H : (if t335 = true then (some false) else ((has_impl_Net_isWhole_2.f l0_1).bind fun t336 => (some (!t336)))) = some r := H
 have A2 := Aside0.mk A20
 clear A20
 by_cases c3 : t335 = true
 ·subst c3
  have H1 : (some false) = some r := by rw [if_pos rfl] at H; exact H
  clear H
  have H := H1
  clear H1
  obtain rfl := Option.some.inj H
  go_enter Try.func78, Try.ntmps78
  go_wp2_with (first | ((with_reducible refine gate_dst (N := 1) rfl ?_); refine box_event rfl (N := 1) rfl (cs := #[.slice A0_0 l0_0.length c0_0, .slice A0_1 l0_1.length c0_1]) (t := 53) gs_ ?_; intro gb334 hg w4 hbox hb; have BK334 := Aside0.mk (hbox); have GW334 := Aside0.mk ((by rw [hg]; exact bz_ : w.heap.size ≤ gb334)); have GE334 := GW334; replace HB := Aside0.mk (below_step bl_ hb); clear hb hbox hg; have hcz5_0 : w4.cell? ⟨gb334, 0, none⟩ = some (.slice A0_0 l0_0.length c0_0) := bc_ BK334.out 0; have hcz5_1 : w4.cell? ⟨gb334, 1, none⟩ = some (.slice A0_1 l0_1.length c0_1) := bc_ BK334.out 1; have hfz5_0 := blk_frozen BK334.out 0; have hfz5_1 := blk_frozen BK334.out 1) | ((with_reducible refine gate_callee (f := 98) rfl ?_); refine goesL_ (some 5) rfl rfl Try.func98 (by kernel_rfl) rfl #[.slice A0_0 l0_0.length c0_0, .func (.func 99) #[] #[]] rfl nc_ ?_; (with_reducible refine (has_impl_Net_isWhole_1.calls _ _ l0_0  true _ ?side1 ?side2 A2.out).mono ?_); (case side1 => exact kc_ (Kd.C_below HR0_0.out HB.out)); (case side2 => exact HC0_0.out); rintro e w6 ⟨rfl, hb⟩; refine ⟨_, rfl, ?_⟩; replace BK334 := bb_ BK334 hb; replace HB := Aside0.mk (below_step bl_ hb); clear hb))
  go_ret
  exact ⟨ng_, bl_⟩
 replace c3 := Bool.eq_false_iff.mpr c3
 subst c3
 have H1 : ((has_impl_Net_isWhole_2.f l0_1).bind fun t336 => (some (!t336))) = some r := by rw [if_neg (show ¬ (false = true) by decide)] at H; exact H
 clear H
 have H := H1
 clear H1
 replace H := Option.bind_eq_some_iff.mp H
 obtain ⟨t336, A70, H⟩ := H
 replace H : (some (!t336)) = some r := H
 have A7 := Aside0.mk A70
 clear A70
 obtain rfl := Option.some.inj H
 go_enter Try.func78, Try.ntmps78
 go_wp2_with (first | ((with_reducible refine gate_dst (N := 1) rfl ?_); refine box_event rfl (N := 1) rfl (cs := #[.slice A0_0 l0_0.length c0_0, .slice A0_1 l0_1.length c0_1]) (t := 53) gs_ ?_; intro gb334 hg w8 hbox hb; have BK334 := Aside0.mk (hbox); have GW334 := Aside0.mk ((by rw [hg]; exact bz_ : w.heap.size ≤ gb334)); have GE334 := GW334; replace HB := Aside0.mk (below_step bl_ hb); clear hb hbox hg; have hcz9_0 : w8.cell? ⟨gb334, 0, none⟩ = some (.slice A0_0 l0_0.length c0_0) := bc_ BK334.out 0; have hcz9_1 : w8.cell? ⟨gb334, 1, none⟩ = some (.slice A0_1 l0_1.length c0_1) := bc_ BK334.out 1; have hfz9_0 := blk_frozen BK334.out 0; have hfz9_1 := blk_frozen BK334.out 1) | ((with_reducible refine gate_callee (f := 98) rfl ?_); refine goesL_ (some 5) rfl rfl Try.func98 (by kernel_rfl) rfl #[.slice A0_0 l0_0.length c0_0, .func (.func 99) #[] #[]] rfl nc_ ?_; (with_reducible refine (has_impl_Net_isWhole_1.calls _ _ l0_0  false _ ?side1 ?side2 A2.out).mono ?_); (case side1 => exact kc_ (Kd.C_below HR0_0.out HB.out)); (case side2 => exact HC0_0.out); rintro e w10 ⟨rfl, hb⟩; refine ⟨_, rfl, ?_⟩; replace BK334 := bb_ BK334 hb; replace HB := Aside0.mk (below_step bl_ hb); clear hb; have hcz11_0 : w10.cell? ⟨gb334, 0, none⟩ = some (.slice A0_0 l0_0.length c0_0) := bc_ BK334.out 0; have hcz11_1 : w10.cell? ⟨gb334, 1, none⟩ = some (.slice A0_1 l0_1.length c0_1) := bc_ BK334.out 1; have hfz11_0 := blk_frozen BK334.out 0; have hfz11_1 := blk_frozen BK334.out 1) | (go_at_call 100; (with_reducible refine (has_impl_Net_isWhole_2.calls _ _ l0_1  t336 _ ?side1 ?side2 A7.out).mono ?_); (case side1 => exact kc_ (Kd.C_below HR0_1.out HB.out)); (case side2 => exact HC0_1.out); rintro e w12 ⟨rfl, hb⟩; replace BK334 := bb_ BK334 hb; replace HB := Aside0.mk (below_step bl_ hb); clear hb))
 go_ret
 exact ⟨ng_, bl_⟩

end Go.Proofs.Ytipfikmbldgliaa.PNX
