/- What this text proves: the machine calls of these functions return what the plain functions say. Conditions: as each theorem says. Printed by a program of this session out of the translation. -/
import Derived.Test.YtdnapgnnliibfaaPMBx0
import Derived.Test.YtdnapgnnliibfaaPMBx8
import Derived.Test.YtdnapgnnliibfaaPMBx22
import Derived.Test.YtdnapgnnliibfaaPMBx23
import Derived.Test.YtdnapgnnliibfaaPMBx42
namespace Go.Proofs.Ytdnapgnnliibfaa.PMB
open Go.RowKit Go.Proofs.YtdnapgnnliibfaaW.PrintWords Go.Proofs.YtdnapgnnliibfaaW.PrintLast Go.Proofs.YtdnapgnnliibfaaW.PrintMore
attribute [local go_sem] max2_int min2_int max_two min_two max_three min_three max_four min_four   -- for this text's walks alone
set_option linter.unusedVariables false
set_option linter.unusedSimpArgs false

/-! ### impl_MergeBag: function 18 -/
mutual
def impl_MergeBag.j0 : Nat → Bool → List (S48) → List (S48) → List (S48) → List (S48) → Option ((List (S48)) × (List (S48)) × Bool)
 | 0, _, _, _, _, _ => none
 | k + 1, x18, x606000, x606001, x607000, x607001 => if x18 = true then (some (([] : List (S48)), ([] : List (S48)), false)) else ((some (([] : List (S48)) : List (S48))).bind fun y610 => (if y610.length + x606000.length < 4398046511104 then ((some (y610 ++ x606000 : List (S48))).bind fun y613 => (if y613.length + x606001.length < 4398046511104 then ((some (y613 ++ x606001 : List (S48))).bind fun y616 => (if y616.length + x607000.length < 4398046511104 then ((some (y616 ++ x607000 : List (S48))).bind fun y619 => (if y619.length + x607001.length < 4398046511104 then ((some (y619 ++ x607001 : List (S48))).bind fun y622 => (impl_MergeBag.l0 k y622 y622 (y622.length : Int) 0 x606000 x606001 x607000 x607001)) else (none))) else (none))) else (none))) else (none)))
def impl_MergeBag.l0 : Nat → List (S48) → List (S48) → Int → Int → List (S48) → List (S48) → List (S48) → List (S48) → Option ((List (S48)) × (List (S48)) × Bool)
 | 0, _, _, _, _, _, _, _, _ => none
 | k + 1, x6, x33, x34, x35, x606000, x606001, x607000, x607001 => if x35 < x34 then (if 0 ≤ x35 then (if x35 < (x33.length : Int) then (if x35 ≤ (x6.length : Int) then ((has_impl_MergeBag_1.f k (x6.take (x35 : Int).toNat) ((rd_T48 x33 x35).f0) ((rd_T48 x33 x35).f1) ((rd_T48 x33 x35).f2)).bind fun t631 => (if t631 = true then (some (([] : List (S48)), ([] : List (S48)), false)) else (impl_MergeBag.l0 k x6 x33 x34 (wrap64 (x35 + 1)) x606000 x606001 x607000 x607001))) else (none)) else (none)) else (none)) else ((some (([] : List (S48)) : List (S48))).bind fun y632 => (if y632.length + x606001.length < 4398046511104 then ((some (y632 ++ x606001 : List (S48))).bind fun y635 => (if y635.length + x607001.length < 4398046511104 then ((some (([] : List (S48)) : List (S48))).bind fun y642 => (if y642.length + x606000.length < 4398046511104 then ((some (y642 ++ x606000 : List (S48))).bind fun y645 => (if y645.length + x607000.length < 4398046511104 then ((impl_Add_41.f k (y645 ++ x607000) (y635 ++ x607001)).bind fun t651 => ((impl_goodBag.f k t651 (y635 ++ x607001)).bind fun bt654 => (some (bt654.1, bt654.2.1, bt654.2.2)))) else (none))) else (none))) else (none))) else (none)))
end
def impl_MergeBag.f (k : Nat) (l0_0 : List (S48)) (l0_1 : List (S48)) (l1_0 : List (S48)) (l1_1 : List (S48)) : Option ((List (S48)) × (List (S48)) × Bool) := (impl_isBag.f k l0_0 l0_1).bind fun t608 => (if t608 = true then ((impl_isBag.f k l1_0 l1_1).bind fun t609 => (impl_MergeBag.j0 k (!t609) l0_0 l0_1 l1_0 l1_1)) else (impl_MergeBag.j0 k true l0_0 l0_1 l1_0 l1_1))
theorem impl_MergeBag.mono_l : ∀ k, (∀ y0 y1 y2 y3 y4, LeO (impl_MergeBag.j0 k y0 y1 y2 y3 y4) (impl_MergeBag.j0 (k + 1) y0 y1 y2 y3 y4)) ∧ (∀ y0 y1 y2 y3 y4 y5 y6 y7, LeO (impl_MergeBag.l0 k y0 y1 y2 y3 y4 y5 y6 y7) (impl_MergeBag.l0 (k + 1) y0 y1 y2 y3 y4 y5 y6 y7))
 | 0 => ⟨fun _ _ _ _ _ r h => by simp [impl_MergeBag.j0] at h, fun _ _ _ _ _ _ _ _ r h => by simp [impl_MergeBag.l0] at h⟩
 | k + 1 => by
  obtain ⟨ih0, ih1⟩ := impl_MergeBag.mono_l k
  refine ⟨?_, ?_⟩
  ·intro y0 y1 y2 y3 y4
   unfold impl_MergeBag.j0
   repeat' first
   | (with_reducible exact ih0 _ _ _ _ _)
   | (with_reducible exact ih1 _ _ _ _ _ _ _ _)
   | (with_reducible exact has_impl_MergeBag_1.mono _ _ _ _ _)
   | (with_reducible exact impl_Add_41.mono _ _ _)
   | (with_reducible exact impl_goodBag.mono _ _ _)
   | (with_reducible exact impl_isBag.mono _ _ _)
   | (with_reducible exact LeO.refl _)
   | (with_reducible exact LeO.none _)
   | (with_reducible refine LeO.ite ?_ ?_)
   | (with_reducible refine LeO.bind ?_ (fun _ => ?_))
   | exact ih0 _ _ _ _ _
   | exact ih1 _ _ _ _ _ _ _ _
   | exact has_impl_MergeBag_1.mono _ _ _ _ _
   | exact impl_Add_41.mono _ _ _
   | exact impl_goodBag.mono _ _ _
   | exact impl_isBag.mono _ _ _
   | exact LeO.none _
   | refine LeO.ite ?_ ?_
   | refine LeO.bind ?_ (fun _ => ?_)
  ·intro y0 y1 y2 y3 y4 y5 y6 y7
   unfold impl_MergeBag.l0
   repeat' first
   | (with_reducible exact ih0 _ _ _ _ _)
   | (with_reducible exact ih1 _ _ _ _ _ _ _ _)
   | (with_reducible exact has_impl_MergeBag_1.mono _ _ _ _ _)
   | (with_reducible exact impl_Add_41.mono _ _ _)
   | (with_reducible exact impl_goodBag.mono _ _ _)
   | (with_reducible exact impl_isBag.mono _ _ _)
   | (with_reducible exact LeO.refl _)
   | (with_reducible exact LeO.none _)
   | (with_reducible refine LeO.ite ?_ ?_)
   | (with_reducible refine LeO.bind ?_ (fun _ => ?_))
   | exact ih0 _ _ _ _ _
   | exact ih1 _ _ _ _ _ _ _ _
   | exact has_impl_MergeBag_1.mono _ _ _ _ _
   | exact impl_Add_41.mono _ _ _
   | exact impl_goodBag.mono _ _ _
   | exact impl_isBag.mono _ _ _
   | exact LeO.none _
   | refine LeO.ite ?_ ?_
   | refine LeO.bind ?_ (fun _ => ?_)
theorem impl_MergeBag.mono : ∀ a0 a1 a2 a3 k, LeO (impl_MergeBag.f k a0 a1 a2 a3) (impl_MergeBag.f (k + 1) a0 a1 a2 a3) := by
 intro a0 a1 a2 a3 k
 obtain ⟨ih0, ih1⟩ := impl_MergeBag.mono_l k
 unfold impl_MergeBag.f
 repeat' first
   | (with_reducible exact ih0 _ _ _ _ _)
   | (with_reducible exact ih1 _ _ _ _ _ _ _ _)
   | (with_reducible exact has_impl_MergeBag_1.mono _ _ _ _ _)
   | (with_reducible exact impl_Add_41.mono _ _ _)
   | (with_reducible exact impl_goodBag.mono _ _ _)
   | (with_reducible exact impl_isBag.mono _ _ _)
   | (with_reducible exact LeO.refl _)
   | (with_reducible exact LeO.none _)
   | (with_reducible refine LeO.ite ?_ ?_)
   | (with_reducible refine LeO.bind ?_ (fun _ => ?_))
   | exact ih0 _ _ _ _ _
   | exact ih1 _ _ _ _ _ _ _ _
   | exact has_impl_MergeBag_1.mono _ _ _ _ _
   | exact impl_Add_41.mono _ _ _
   | exact impl_goodBag.mono _ _ _
   | exact impl_isBag.mono _ _ _
   | exact LeO.none _
   | refine LeO.ite ?_ ?_
   | refine LeO.bind ?_ (fun _ => ?_)
def impl_MergeBag.T3 : Bool × List (List Nat × List Nat) := (true, [([], []), ([], []), ([1], [1]), ([0, 2], [0, 2]), ([], []), ([4], [4]), ([3, 5, 3], [3, 5]), ([], []), ([7], [7]), ([6, 8, 6], [6, 8]), ([], []), ([10], [10]), ([9, 11, 9], [9, 11]), ([12, 12, 0, 1, 2, 3, 4, 5, 6, 7, 8, 9, 10, 11, 12], [12])])
def impl_MergeBag.B3 : List Nat := [0, 0, 2, 7, 0, 16, 63, 0, 128, 511, 0, 1024, 4095, 8191]
theorem impl_MergeBag.tab3 : rtab .any (opsOf Try.f18 3) = impl_MergeBag.T3 := by kernel_rfl
theorem impl_MergeBag.bits3 : waitsOk impl_MergeBag.T3.2 impl_MergeBag.B3 = true := by kernel_rfl
def impl_MergeBag.T10 : Bool × List (List Nat × List Nat) := (true, [([], []), ([], []), ([1], [1]), ([0, 2], [0, 2]), ([], []), ([4], [4]), ([3, 5, 3], [3, 5]), ([], []), ([7, 6, 6, 0, 1, 2, 3, 4, 5, 6, 7], [6, 7])])
def impl_MergeBag.B10 : List Nat := [0, 0, 2, 7, 0, 16, 63, 0, 255]
theorem impl_MergeBag.tab10 : rtab .any (opsOf Try.f18 10) = impl_MergeBag.T10 := by kernel_rfl
theorem impl_MergeBag.bits10 : waitsOk impl_MergeBag.T10.2 impl_MergeBag.B10 = true := by kernel_rfl
def impl_MergeBag.T11 : Bool × List (List Nat × List Nat) := (true, [([], []), ([], []), ([1], [1]), ([0, 2], [0, 2]), ([], []), ([4], [4]), ([3, 5, 3], [3, 5]), ([], []), ([6, 7, 6], [6, 7]), ([8, 8, 0, 1, 2, 3, 4, 5, 6, 7, 8], [8])])
def impl_MergeBag.B11 : List Nat := [0, 0, 2, 7, 0, 16, 63, 0, 255, 511]
theorem impl_MergeBag.tab11 : rtab .any (opsOf Try.f18 11) = impl_MergeBag.T11 := by kernel_rfl
theorem impl_MergeBag.bits11 : waitsOk impl_MergeBag.T11.2 impl_MergeBag.B11 = true := by kernel_rfl
set_option maxHeartbeats 8000000 in
set_option maxRecDepth 100000 in
theorem impl_MergeBag.calls (k : Nat) (A0_0 : Option Addr) (c0_0 : Nat) (l0_0 : List (S48)) (A0_1 : Option Addr) (c0_1 : Nat) (l0_1 : List (S48)) (A1_0 : Option Addr) (c1_0 : Nat) (l1_0 : List (S48)) (A1_1 : Option Addr) (c1_1 : Nat) (l1_1 : List (S48)) (r1 : List (S48)) (r2 : List (S48)) (r3 : Bool) (w : World) (hr0_0 : Kd.C k48 w A0_0 l0_0.length l0_0) (hc0_0 : l0_0.length ≤ c0_0) (hr0_1 : Kd.C k48 w A0_1 l0_1.length l0_1) (hc0_1 : l0_1.length ≤ c0_1) (hr1_0 : Kd.C k48 w A1_0 l1_0.length l1_0) (hc1_0 : l1_0.length ≤ c1_0) (hr1_1 : Kd.C k48 w A1_1 l1_1.length l1_1) (hc1_1 : l1_1.length ≤ c1_1) (h : impl_MergeBag.f k l0_0 l0_1 l1_0 l1_1 = some (r1, r2, r3)) :
  Calls Try.prog 18 #[.agg #[.slice A0_0 l0_0.length c0_0, .slice A0_1 l0_1.length c0_1], .agg #[.slice A1_0 l1_0.length c1_0, .slice A1_1 l1_1.length c1_1]] w fun e w' => ∃ v0_ v1_ : Value, e = .returned (.tuple #[.agg #[v0_, v1_], .bool r3]) ∧ Kd.R k48 48 w' w.heap.size (fun k_ => some k_ ≠ (v1_ : Value).ownBlock) v0_ r1 ∧ Kd.R k48 48 w' w.heap.size (fun k_ => some k_ ≠ (v0_ : Value).ownBlock) v1_ r2 ∧ Below w.heap.size w w' := by
 have hu29 := Try.underlying29
 have hu48 := Try.underlying48
 have HR0_0 := Aside0.mk hr0_0
 have HC0_0 := Aside0.mk hc0_0
 clear hr0_0 hc0_0
 have HR0_1 := Aside0.mk hr0_1
 have HC0_1 := Aside0.mk hc0_1
 clear hr0_1 hc0_1
 have HR1_0 := Aside0.mk hr1_0
 have HC1_0 := Aside0.mk hc1_0
 clear hr1_0 hc1_0
 have HR1_1 := Aside0.mk hr1_1
 have HC1_1 := Aside0.mk hc1_1
 clear hr1_1 hc1_1
 have HB := Aside0.mk (Below.refl w.heap.size w)
 have H : ((impl_isBag.f k l0_0 l0_1).bind fun t608 => (if t608 = true then ((impl_isBag.f k l1_0 l1_1).bind fun t609 => (impl_MergeBag.j0 k (!t609) l0_0 l0_1 l1_0 l1_1)) else (impl_MergeBag.j0 k true l0_0 l0_1 l1_0 l1_1))) = some (r1, r2, r3) := h
 clear h
 have HC3 := Aside0.mk H
 clear H
 go_enter Try.func18, Try.ntmps18
 go_upto_region 1 with (first | ((with_reducible refine gate_dst (N := 2) rfl ?_); refine box_event rfl (N := 2) rfl (cs := #[.slice A0_0 l0_0.length c0_0, .slice A0_1 l0_1.length c0_1]) (t := 29) gs_ ?_; intro gb605 hg w4 hbox hb; have BK605 := Aside0.mk (hbox); have GW605 := Aside0.mk ((by rw [hg]; exact bz_ : w.heap.size ≤ gb605)); have GE605 := GW605; replace HB := Aside0.mk (below_step bl_ hb); clear hb hbox hg) | ((with_reducible refine gate_dst (N := 3) rfl ?_); refine box_event rfl (N := 3) rfl (cs := #[.slice A1_0 l1_0.length c1_0, .slice A1_1 l1_1.length c1_1]) (t := 29) gs_ ?_; intro gb606 hg w5 hbox hb; have BK606 := Aside0.mk (hbox); have GW606 := Aside0.mk ((by rw [hg]; exact bz_ : w.heap.size ≤ gb606)); have GE606 := GW606; replace HB := Aside0.mk (below_step bl_ hb); have NB605_606 := nl_ hg BK605; have NB606_605 := nm_ hg BK605; replace BK605 := bb_ BK605 hb; clear hb hbox hg) | ((with_reducible refine gate_dst (N := 4) rfl ?_); refine box_event rfl (N := 4) rfl (cs := #[.slice none 0 0, .slice none 0 0]) (t := 29) gs_ ?_; intro gb607 hg w6 hbox hb; have BK607 := Aside0.mk (hbox); have GW607 := Aside0.mk ((by rw [hg]; exact bz_ : w.heap.size ≤ gb607)); have GE607 := GW607; replace HB := Aside0.mk (below_step bl_ hb); have NB605_607 := nl_ hg BK605; have NB607_605 := nm_ hg BK605; replace BK605 := bb_ BK605 hb; have NB606_607 := nl_ hg BK606; have NB607_606 := nm_ hg BK606; replace BK606 := bb_ BK606 hb; clear hb hbox hg))
 (try simp only [Act.put, List.setIfInBounds_toArray, List.set_cons_zero, List.set_cons_succ])
 go_cut [18] (fun v18 wc => ∃ (kq : Nat) (x18_2 : Bool), v18 = .bool x18_2 ∧ Aside0 (impl_MergeBag.j0 kq x18_2 l0_0 l0_1 l1_0 l1_1 = some (r1, r2, r3)) ∧ Aside0 (kq ≤ k) ∧ Aside0 (wc.heap[gb605]? = some (.cells #[(.slice A0_0 l0_0.length c0_0), (.slice A0_1 l0_1.length c0_1)] 29 (0, 0))) ∧ Aside0 (wc.heap[gb606]? = some (.cells #[(.slice A1_0 l1_0.length c1_0), (.slice A1_1 l1_1.length c1_1)] 29 (0, 0))) ∧ Aside0 (wc.heap[gb607]? = some (.cells #[(.slice none 0 0), (.slice none 0 0)] 29 (0, 0))) ∧ Aside0 (Below w.heap.size w wc))
 case first =>
  have H := HC3.out
  clear HC3
  replace H := Option.bind_eq_some_iff.mp H
  obtain ⟨t608, A70, H⟩ := H
  replace H : (if t608 = true then ((impl_isBag.f k l1_0 l1_1).bind fun t609 => (impl_MergeBag.j0 k (!t609) l0_0 l0_1 l1_0 l1_1)) else (impl_MergeBag.j0 k true l0_0 l0_1 l1_0 l1_1)) = some (r1, r2, r3) := H
  have A7 := Aside0.mk A70
  clear A70
  by_cases c8 : t608 = true
  rotate_left
  ·replace c8 := Bool.eq_false_iff.mpr c8
   subst c8
   have H1 : (impl_MergeBag.j0 k true l0_0 l0_1 l1_0 l1_1) = some (r1, r2, r3) := by rw [if_neg (show ¬ (false = true) by decide)] at H; exact H
   clear H
   have H := H1
   clear H1
   have H' := Aside0.mk H
   clear H
   have hnb17 := NB605_606.out
   have hnc17 := NB606_605.out
   have hnb18 := NB605_607.out
   have hnc18 := NB607_605.out
   have hcz19_0 : w6.cell? ⟨gb605, 0, none⟩ = some (.slice A0_0 l0_0.length c0_0) := bc_ BK605.out 0
   have hcz19_1 : w6.cell? ⟨gb605, 1, none⟩ = some (.slice A0_1 l0_1.length c0_1) := bc_ BK605.out 1
   have hfz19_0 := blk_frozen BK605.out 0
   have hfz19_1 := blk_frozen BK605.out 1
   go_wp2_with (first | ((with_reducible refine gate_callee (f := 30) rfl ?_); refine goesL_ (some 12) rfl rfl Try.func30 (by kernel_rfl) rfl #[.agg #[.slice A0_0 l0_0.length c0_0, .slice A0_1 l0_1.length c0_1]] rfl nc_ ?_; (with_reducible refine (impl_isBag.calls k _ _ l0_0 _ _ l0_1 false _ ?side1 ?side2 ?side3 ?side4 A7.out).mono ?_); (case side1 => exact kc_ (Kd.C_below HR0_0.out HB.out)); (case side2 => exact HC0_0.out); (case side3 => exact kc_ (Kd.C_below HR0_1.out HB.out)); (case side4 => exact HC0_1.out); rintro e w20 ⟨rfl, hb⟩; refine ⟨_, rfl, ?_⟩; replace BK605 := bb_ BK605 hb; replace BK606 := bb_ BK606 hb; replace BK607 := bb_ BK607 hb; replace HB := Aside0.mk (below_step bl_ hb); clear hb))
   go_meet
   case rel => exact ⟨_, (true), (by first | rfl | (simp; done) | (simp [*]; done)), H', ⟨by first | omega | exact Nat.le_refl _⟩, ⟨by exact kb_ BK605.out⟩, ⟨by exact kb_ BK606.out⟩, ⟨by exact kb_ BK607.out⟩, ⟨bl_⟩⟩
  subst c8
  have H1 : ((impl_isBag.f k l1_0 l1_1).bind fun t609 => (impl_MergeBag.j0 k (!t609) l0_0 l0_1 l1_0 l1_1)) = some (r1, r2, r3) := by rw [if_pos rfl] at H; exact H
  clear H
  have H := H1
  clear H1
  replace H := Option.bind_eq_some_iff.mp H
  obtain ⟨t609, A90, H⟩ := H
  replace H : (impl_MergeBag.j0 k (!t609) l0_0 l0_1 l1_0 l1_1) = some (r1, r2, r3) := H
  have A9 := Aside0.mk A90
  clear A90
  have H' := Aside0.mk H
  clear H
  have hnb10 := NB605_606.out
  have hnc10 := NB606_605.out
  have hnb11 := NB605_607.out
  have hnc11 := NB607_605.out
  have hcz12_0 : w6.cell? ⟨gb605, 0, none⟩ = some (.slice A0_0 l0_0.length c0_0) := bc_ BK605.out 0
  have hcz12_1 : w6.cell? ⟨gb605, 1, none⟩ = some (.slice A0_1 l0_1.length c0_1) := bc_ BK605.out 1
  have hfz12_0 := blk_frozen BK605.out 0
  have hfz12_1 := blk_frozen BK605.out 1
  go_wp2_with (first | ((with_reducible refine gate_callee (f := 30) rfl ?_); refine goesL_ (some 12) rfl rfl Try.func30 (by kernel_rfl) rfl #[.agg #[.slice A0_0 l0_0.length c0_0, .slice A0_1 l0_1.length c0_1]] rfl nc_ ?_; (with_reducible refine (impl_isBag.calls k _ _ l0_0 _ _ l0_1 true _ ?side1 ?side2 ?side3 ?side4 A7.out).mono ?_); (case side1 => exact kc_ (Kd.C_below HR0_0.out HB.out)); (case side2 => exact HC0_0.out); (case side3 => exact kc_ (Kd.C_below HR0_1.out HB.out)); (case side4 => exact HC0_1.out); rintro e w13 ⟨rfl, hb⟩; refine ⟨_, rfl, ?_⟩; replace BK605 := bb_ BK605 hb; replace BK606 := bb_ BK606 hb; replace BK607 := bb_ BK607 hb; replace HB := Aside0.mk (below_step bl_ hb); clear hb; have hnb14 := NB606_607.out; have hnc14 := NB607_606.out; have hcz15_0 : w13.cell? ⟨gb606, 0, none⟩ = some (.slice A1_0 l1_0.length c1_0) := bc_ BK606.out 0; have hcz15_1 : w13.cell? ⟨gb606, 1, none⟩ = some (.slice A1_1 l1_1.length c1_1) := bc_ BK606.out 1; have hfz15_0 := blk_frozen BK606.out 0; have hfz15_1 := blk_frozen BK606.out 1) | (go_at_call 30; (with_reducible refine (impl_isBag.calls k _ _ l1_0 _ _ l1_1 t609 _ ?side1 ?side2 ?side3 ?side4 A9.out).mono ?_); (case side1 => exact kc_ (Kd.C_below HR1_0.out HB.out)); (case side2 => exact HC1_0.out); (case side3 => exact kc_ (Kd.C_below HR1_1.out HB.out)); (case side4 => exact HC1_1.out); rintro e w16 ⟨rfl, hb⟩; replace BK605 := bb_ BK605 hb; replace BK606 := bb_ BK606 hb; replace BK607 := bb_ BK607 hb; replace HB := Aside0.mk (below_step bl_ hb); clear hb))
  go_meet
  case rel => exact ⟨_, (!t609), (by first | rfl | (simp; done) | (simp [*]; done)), H', ⟨by first | omega | exact Nat.le_refl _⟩, ⟨by exact kb_ BK605.out⟩, ⟨by exact kb_ BK606.out⟩, ⟨by exact kb_ BK607.out⟩, ⟨bl_⟩⟩
 clear HC3
 try clear c1
 try clear p2
 try clear c3
 try clear c8
 try clear c10
 try clear c11
 try clear c14
 try clear c17
 try clear c18
 try clear hcz12_0
 try clear hcz12_1
 try clear hcz15_0
 try clear hcz15_1
 try clear hcz19_0
 try clear hcz19_1
 try clear hfz12_0
 try clear hfz12_1
 try clear hfz15_0
 try clear hfz15_1
 try clear hfz19_0
 try clear hfz19_1
 obtain ⟨kq, x18_2, rfl, HA, HJ2, BK605, BK606, BK607, HB⟩ := hcut
 cases kq with
 | zero => exact absurd HA.out (by simp [impl_MergeBag.j0])
 | succ kj2 => ?_
 have H := HA.out
 clear HA
 simp only [impl_MergeBag.j0] at H
 by_cases c21 : x18_2 = true
 ·subst c21
  have H1 : (some (([] : List (S48)), ([] : List (S48)), false)) = some (r1, r2, r3) := by rw [if_pos rfl] at H; exact H
  clear H
  have H := H1
  clear H1
  simp only [Option.some.injEq, Prod.mk.injEq] at H
  obtain ⟨rfl, rfl, rfl⟩ := H
  have hnb22 := NB607_605.out
  have hnc22 := NB605_607.out
  have hnb23 := NB607_606.out
  have hnc23 := NB606_607.out
  have hcz24_0 : wc.cell? ⟨gb607, 0, none⟩ = some (.slice none 0 0) := bc_ BK607.out 0
  have hcz24_1 : wc.cell? ⟨gb607, 1, none⟩ = some (.slice none 0 0) := bc_ BK607.out 1
  have hfz24_0 := blk_frozen BK607.out 0
  have hfz24_1 := blk_frozen BK607.out 1
  go_wp2
  refine bodyPost_ret (results_ct rfl _ _ gb607 29 #[.slice none 0 0, .slice none 0 0] (0, 0) _ rfl (by (with_reducible repeat (first | refine blk_drewN ?_ _ | refine blk_drew ?_ | refine blk_alloc ?_ _)); refine blk_put (cs := #[.slice none 0 0, .slice none 0 0]) ?_ 1 _ rfl; (with_reducible repeat (first | refine blk_drewN ?_ _ | refine blk_drew ?_ | refine blk_alloc ?_ _)); refine blk_put (cs := #[.slice none 0 0, .slice none 0 0]) ?_ 0 _ rfl; exact kb_ BK607.out) Try.underlying29 rfl (by kernel_rfl)) rfl ?_
  exact ⟨_, _, ng_, by first | exact Kd.R_nil _ _ _ _ _ | exact Kd.N_nil _ _ _ _ _ | exact Kd.V_nil _ _ _ _ _ | exact Kd.Q_nil _ _ _ _ _ | exact Kd.S_nil _ _ _ _ _, by first | exact Kd.R_nil _ _ _ _ _ | exact Kd.N_nil _ _ _ _ _ | exact Kd.V_nil _ _ _ _ _ | exact Kd.Q_nil _ _ _ _ _ | exact Kd.S_nil _ _ _ _ _, bl_⟩
 replace c21 := Bool.eq_false_iff.mpr c21
 subst c21
 have H1 : ((some (([] : List (S48)) : List (S48))).bind fun y610 => (if y610.length + l0_0.length < 4398046511104 then ((some (y610 ++ l0_0 : List (S48))).bind fun y613 => (if y613.length + l0_1.length < 4398046511104 then ((some (y613 ++ l0_1 : List (S48))).bind fun y616 => (if y616.length + l1_0.length < 4398046511104 then ((some (y616 ++ l1_0 : List (S48))).bind fun y619 => (if y619.length + l1_1.length < 4398046511104 then ((some (y619 ++ l1_1 : List (S48))).bind fun y622 => (impl_MergeBag.l0 kj2 y622 y622 (y622.length : Int) 0 l0_0 l0_1 l1_0 l1_1)) else (none))) else (none))) else (none))) else (none))) = some (r1, r2, r3) := by rw [if_neg (show ¬ (false = true) by decide)] at H; exact H
 clear H
 have H := H1
 clear H1
 obtain ⟨y610, hy610⟩ : ∃ y_ : List (S48), y_ = (([] : List (S48))) := ⟨_, rfl⟩
 replace H : (if y610.length + l0_0.length < 4398046511104 then ((some (y610 ++ l0_0 : List (S48))).bind fun y613 => (if y613.length + l0_1.length < 4398046511104 then ((some (y613 ++ l0_1 : List (S48))).bind fun y616 => (if y616.length + l1_0.length < 4398046511104 then ((some (y616 ++ l1_0 : List (S48))).bind fun y619 => (if y619.length + l1_1.length < 4398046511104 then ((some (y619 ++ l1_1 : List (S48))).bind fun y622 => (impl_MergeBag.l0 kj2 y622 y622 (y622.length : Int) 0 l0_0 l0_1 l1_0 l1_1)) else (none))) else (none))) else (none))) else (none)) = some (r1, r2, r3) := by first | (rw [hy610]; with_reducible exact H) | (have H2_ := (Option.bind_some _ _).symm.trans H; rw [hy610]; with_reducible exact H2_) | (have H2_ := (Option.bind_some _ _).symm.trans H; with_reducible exact H2_) | with_reducible exact H | (rw [hy610]; exact H) | exact H
 have Ny610 := Aside0.mk hy610
 clear hy610
 by_cases c25 : y610.length + l0_0.length < 4398046511104
 rotate_left
 ·rw [if_neg c25] at H
  exact absurd H (by simp)
 rw [if_pos c25] at H
 have LMc25 := Aside0.mk c25
 clear c25
 obtain ⟨y613, hy613⟩ : ∃ y_ : List (S48), y_ = (y610 ++ l0_0) := ⟨_, rfl⟩
 replace H : (if y613.length + l0_1.length < 4398046511104 then ((some (y613 ++ l0_1 : List (S48))).bind fun y616 => (if y616.length + l1_0.length < 4398046511104 then ((some (y616 ++ l1_0 : List (S48))).bind fun y619 => (if y619.length + l1_1.length < 4398046511104 then ((some (y619 ++ l1_1 : List (S48))).bind fun y622 => (impl_MergeBag.l0 kj2 y622 y622 (y622.length : Int) 0 l0_0 l0_1 l1_0 l1_1)) else (none))) else (none))) else (none)) = some (r1, r2, r3) := by first | (rw [hy613]; with_reducible exact H) | (have H2_ := (Option.bind_some _ _).symm.trans H; rw [hy613]; with_reducible exact H2_) | (have H2_ := (Option.bind_some _ _).symm.trans H; with_reducible exact H2_) | with_reducible exact H | (rw [hy613]; exact H) | exact H
 have Ny613 := Aside0.mk hy613
 clear hy613
 by_cases c26 : y613.length + l0_1.length < 4398046511104
 rotate_left
 ·rw [if_neg c26] at H
  exact absurd H (by simp)
 rw [if_pos c26] at H
 have LMc26 := Aside0.mk c26
 clear c26
 obtain ⟨y616, hy616⟩ : ∃ y_ : List (S48), y_ = (y613 ++ l0_1) := ⟨_, rfl⟩
 replace H : (if y616.length + l1_0.length < 4398046511104 then ((some (y616 ++ l1_0 : List (S48))).bind fun y619 => (if y619.length + l1_1.length < 4398046511104 then ((some (y619 ++ l1_1 : List (S48))).bind fun y622 => (impl_MergeBag.l0 kj2 y622 y622 (y622.length : Int) 0 l0_0 l0_1 l1_0 l1_1)) else (none))) else (none)) = some (r1, r2, r3) := by first | (rw [hy616]; with_reducible exact H) | (have H2_ := (Option.bind_some _ _).symm.trans H; rw [hy616]; with_reducible exact H2_) | (have H2_ := (Option.bind_some _ _).symm.trans H; with_reducible exact H2_) | with_reducible exact H | (rw [hy616]; exact H) | exact H
 have Ny616 := Aside0.mk hy616
 clear hy616
 by_cases c27 : y616.length + l1_0.length < 4398046511104
 rotate_left
 ·rw [if_neg c27] at H
  exact absurd H (by simp)
 rw [if_pos c27] at H
 have LMc27 := Aside0.mk c27
 clear c27
 obtain ⟨y619, hy619⟩ : ∃ y_ : List (S48), y_ = (y616 ++ l1_0) := ⟨_, rfl⟩
 replace H : (if y619.length + l1_1.length < 4398046511104 then ((some (y619 ++ l1_1 : List (S48))).bind fun y622 => (impl_MergeBag.l0 kj2 y622 y622 (y622.length : Int) 0 l0_0 l0_1 l1_0 l1_1)) else (none)) = some (r1, r2, r3) := by first | (rw [hy619]; with_reducible exact H) | (have H2_ := (Option.bind_some _ _).symm.trans H; rw [hy619]; with_reducible exact H2_) | (have H2_ := (Option.bind_some _ _).symm.trans H; with_reducible exact H2_) | with_reducible exact H | (rw [hy619]; exact H) | exact H
 have Ny619 := Aside0.mk hy619
 clear hy619
 by_cases c28 : y619.length + l1_1.length < 4398046511104
 rotate_left
 ·rw [if_neg c28] at H
  exact absurd H (by simp)
 rw [if_pos c28] at H
 have LMc28 := Aside0.mk c28
 clear c28
 obtain ⟨y622, hy622⟩ : ∃ y_ : List (S48), y_ = (y619 ++ l1_1) := ⟨_, rfl⟩
 replace H : (impl_MergeBag.l0 kj2 y622 y622 (y622.length : Int) 0 l0_0 l0_1 l1_0 l1_1) = some (r1, r2, r3) := by first | (rw [hy622]; with_reducible exact H) | (have H2_ := (Option.bind_some _ _).symm.trans H; rw [hy622]; with_reducible exact H2_) | (have H2_ := (Option.bind_some _ _).symm.trans H; with_reducible exact H2_) | with_reducible exact H | (rw [hy622]; exact H) | exact H
 have Ny622 := Aside0.mk hy622
 clear hy622
 have H' := Aside0.mk H
 clear H
 try go_wp2
 replace BK605 := Aside0.mk (blk_drew BK605.out)
 replace BK606 := Aside0.mk (blk_drew BK606.out)
 replace BK607 := Aside0.mk (blk_drew BK607.out)
 replace HB := Aside0.mk (below_drew1 HB.out)
 refine start_ (n := 14) (S := fun w' => w'.cell? ⟨gb605, 0, none⟩ = some (.slice A0_0 l0_0.length c0_0) ∧ w'.cell? ⟨gb605, 1, none⟩ = some (.slice A0_1 l0_1.length c0_1) ∧ w'.cell? ⟨gb606, 0, none⟩ = some (.slice A1_0 l1_0.length c1_0) ∧ w'.cell? ⟨gb606, 1, none⟩ = some (.slice A1_1 l1_1.length c1_1)) (ds := []) #[false, false, false, false, false, false, false, false, false, false, false, false, false, false] (by kernel_rfl) rfl rfl ⟨bc_ BK605.out 0, bc_ BK605.out 1, bc_ BK606.out 0, bc_ BK606.out 1⟩ (fun hHeld => ?_); refine with_tabW impl_MergeBag.tab3 impl_MergeBag.bits3 (fun HT_ HW_ => ?_)
 generalize wc.drew = w29 at BK605 BK606 BK607 HB hHeld ⊢
 refine pu_ 1 (some 21) (h := ?_)
 refine pu_ 4 (some 24) (h := ?_)
 refine pu_ 7 (some 27) (h := ?_)
 refine pu_ 10 (some 30) (h := ?_)
 refine tk4_ 2 (some 22) (h := ?_)
 refine tk4_ 5 (some 25) (h := ?_)
 refine tk4_ 8 (some 28) (h := ?_)
 refine tk4_ 11 (some 31) (h := ?_)
 refine on_ 0 (some 20) (h := fun K hK => ?_)
 refine Kd.R_lit_step k48 _ 48 rfl (N := 20) rfl (xs := ([] : List (S48))) (inner := []) (ok := fun _ => True) (okp := fun _ => True) gs_ ?hp (fun _ hk => hk) trivial (Below.refl _ _) (Nat.le_refl _) (by simp) ?_; (case hp => exact (Reps.none _ _))
 intro v611 w30 ho31 hb hg_ hnew_
 clear hg_ hnew_
 (first | rw [← Ny610.out] at ho31 | (simp only [Int.reduceToNat] at ho31; rw [← Ny610.out] at ho31))
 have HO612 := Aside0.mk (Kd.R_lower ho31 bz_)
 replace BK605 := bb_ BK605 hb
 replace BK606 := bb_ BK606 hb
 replace BK607 := bb_ BK607 hb
 replace HB := Aside0.mk (below_step bl_ hb)
 clear hb ho31
 refine hK.out _ _ ⟨bc_ BK605.out 0, bc_ BK605.out 1, bc_ BK606.out 0, bc_ BK606.out 1⟩ (fun hHeld => ?_)
 clear hK K
 refine norm_ nn_ ?_
 refine on_ 3 (some 23) (h := fun K hK => ?_)
 refine Kd.R_append_rows_step k48 (w0 := w) w.heap.size (by rfl) (.tmp 20) (.tmp 22) 27 48 (.agg #[(.string ⟨#[]⟩), (.int .i64 0), (.int .i64 0)]) 32 rfl Try.underlying27 info48 rfl (by decide) (by omega) v611 y610 l0_0 _ _ _ (fun _ => True) (fun _ => False) rfl rfl ?aO ?aR (fun _ _ h => h) (fun _ h => h.elim) ?aF ?aB ?aS ?aL ?_
 (case aR => exact kc_ (Kd.C_below HR0_0.out HB.out))
 (case aB => exact bl_)
 (case aF => exact (fun _ _ => trivial))
 (case aO => exact (kr_ HO612.out))
 (case aS => exact bz_)
 (case aL => have := LMc25.out; omega)
 intro v614 w32 ho hb hg hat
 rw [← Ny613.out] at ho
 replace BK605 := bgr_ BK605 hg HO612 BK605
 replace BK606 := bgr_ BK606 hg HO612 BK606
 replace BK607 := bgr_ BK607 hg HO612 BK607
 replace HB := Aside0.mk (hb)
 have HO615 := Aside0.mk (ho)
 clear HO612 ho hb hg hat
 refine hK.out _ _ ⟨bc_ BK605.out 0, bc_ BK605.out 1, bc_ BK606.out 0, bc_ BK606.out 1⟩ (fun hHeld => ?_)
 clear hK K
 refine norm_ nn_ ?_
 refine on_ 6 (some 26) (h := fun K hK => ?_)
 refine Kd.R_append_rows_step k48 (w0 := w) w.heap.size (by rfl) (.tmp 23) (.tmp 25) 27 48 (.agg #[(.string ⟨#[]⟩), (.int .i64 0), (.int .i64 0)]) 32 rfl Try.underlying27 info48 rfl (by decide) (by omega) v614 y613 l0_1 _ _ _ (fun _ => True) (fun _ => False) rfl rfl ?aO ?aR (fun _ _ h => h) (fun _ h => h.elim) ?aF ?aB ?aS ?aL ?_
 (case aR => exact kc_ (Kd.C_below HR0_1.out HB.out))
 (case aB => exact bl_)
 (case aF => exact (fun _ _ => trivial))
 (case aO => exact (kr_ HO615.out))
 (case aS => exact bz_)
 (case aL => have := LMc26.out; omega)
 intro v617 w33 ho hb hg hat
 rw [← Ny616.out] at ho
 replace BK605 := bgr_ BK605 hg HO615 BK605
 replace BK606 := bgr_ BK606 hg HO615 BK606
 replace BK607 := bgr_ BK607 hg HO615 BK607
 replace HB := Aside0.mk (hb)
 have HO618 := Aside0.mk (ho)
 clear HO615 ho hb hg hat
 refine hK.out _ _ ⟨bc_ BK605.out 0, bc_ BK605.out 1, bc_ BK606.out 0, bc_ BK606.out 1⟩ (fun hHeld => ?_)
 clear hK K
 refine norm_ nn_ ?_
 refine on_ 9 (some 29) (h := fun K hK => ?_)
 refine Kd.R_append_rows_step k48 (w0 := w) w.heap.size (by rfl) (.tmp 26) (.tmp 28) 27 48 (.agg #[(.string ⟨#[]⟩), (.int .i64 0), (.int .i64 0)]) 32 rfl Try.underlying27 info48 rfl (by decide) (by omega) v617 y616 l1_0 _ _ _ (fun _ => True) (fun _ => False) rfl rfl ?aO ?aR (fun _ _ h => h) (fun _ h => h.elim) ?aF ?aB ?aS ?aL ?_
 (case aR => exact kc_ (Kd.C_below HR1_0.out HB.out))
 (case aB => exact bl_)
 (case aF => exact (fun _ _ => trivial))
 (case aO => exact (kr_ HO618.out))
 (case aS => exact bz_)
 (case aL => have := LMc27.out; omega)
 intro v620 w34 ho hb hg hat
 rw [← Ny619.out] at ho
 replace BK605 := bgr_ BK605 hg HO618 BK605
 replace BK606 := bgr_ BK606 hg HO618 BK606
 replace BK607 := bgr_ BK607 hg HO618 BK607
 replace HB := Aside0.mk (hb)
 have HO621 := Aside0.mk (ho)
 clear HO618 ho hb hg hat
 refine hK.out _ _ ⟨bc_ BK605.out 0, bc_ BK605.out 1, bc_ BK606.out 0, bc_ BK606.out 1⟩ (fun hHeld => ?_)
 clear hK K
 refine norm_ nn_ ?_
 refine on_ 12 (some 32) (h := fun K hK => ?_)
 refine Kd.R_append_rows_step k48 (w0 := w) w.heap.size (by rfl) (.tmp 29) (.tmp 31) 27 48 (.agg #[(.string ⟨#[]⟩), (.int .i64 0), (.int .i64 0)]) 32 rfl Try.underlying27 info48 rfl (by decide) (by omega) v620 y619 l1_1 _ _ _ (fun _ => True) (fun _ => False) rfl rfl ?aO ?aR (fun _ _ h => h) (fun _ h => h.elim) ?aF ?aB ?aS ?aL ?_
 (case aR => exact kc_ (Kd.C_below HR1_1.out HB.out))
 (case aB => exact bl_)
 (case aF => exact (fun _ _ => trivial))
 (case aO => exact (kr_ HO621.out))
 (case aS => exact bz_)
 (case aL => have := LMc28.out; omega)
 intro v623 w35 ho hb hg hat
 rw [← Ny622.out] at ho
 replace BK605 := bgr_ BK605 hg HO621 BK605
 replace BK606 := bgr_ BK606 hg HO621 BK606
 replace BK607 := bgr_ BK607 hg HO621 BK607
 replace HB := Aside0.mk (hb)
 have HO624 := Aside0.mk (ho)
 clear HO621 ho hb hg hat
 refine hK.out _ _ ⟨bc_ BK605.out 0, bc_ BK605.out 1, bc_ BK606.out 0, bc_ BK606.out 1⟩ (fun hHeld => ?_)
 clear hK K
 refine norm_ nn_ ?_
 refine pu_ 13 (some 6) (h := ?_)
 refine done_ (done_of HT_.out (by kernel_rfl)) ?_
 obtain ⟨Ao36, co36, eo36⟩ := Kd.R_slice HO624.out
 subst eo36
 try go_wp2
 go_loopg [35] kj2 (fun kq v35 w' => ∃ (x35_2 : Int), v35 = .int .i64 x35_2 ∧ Aside0 (impl_MergeBag.l0 kq y622 y622 (y622.length : Int) x35_2 l0_0 l0_1 l1_0 l1_1 = some (r1, r2, r3)) ∧ Aside0 (kq ≤ kj2) ∧ Aside0 (Kd.R k48 48 w' w.heap.size (fun _ => True) (.slice Ao36 y622.length co36) y622) ∧ Aside0 (Kd.R k48 48 w' w.heap.size (fun _ => True) (.slice Ao36 y622.length co36) y622) ∧ Aside0 (w'.heap[gb605]? = some (.cells #[(.slice A0_0 l0_0.length c0_0), (.slice A0_1 l0_1.length c0_1)] 29 (0, 0))) ∧ Aside0 (w'.heap[gb606]? = some (.cells #[(.slice A1_0 l1_0.length c1_0), (.slice A1_1 l1_1.length c1_1)] 29 (0, 0))) ∧ Aside0 (w'.heap[gb607]? = some (.cells #[(.slice none 0 0), (.slice none 0 0)] 29 (0, 0))) ∧ Aside0 (Below w.heap.size w w'))
 case atStart => exact ⟨(0), (by first | rfl | (simp; done) | (simp [*]; done)), H', ⟨Nat.le_refl _⟩, ⟨by exact kr_ HO624.out⟩, ⟨by exact kr_ HO624.out⟩, ⟨by exact kb_ BK605.out⟩, ⟨by exact kb_ BK606.out⟩, ⟨by exact kb_ BK607.out⟩, ⟨bl_⟩⟩
 clear H'
 try clear c1
 try clear c2
 try clear p2
 try clear c3
 try clear c8
 try clear c10
 try clear c11
 try clear c14
 try clear c17
 try clear c18
 try clear c21
 try clear c22
 try clear c23
 try clear c25
 try clear c26
 try clear c27
 try clear c28
 try clear c30
 try clear hcz12_0
 try clear hcz12_1
 try clear hcz15_0
 try clear hcz15_1
 try clear hcz19_0
 try clear hcz19_1
 try clear hcz24_0
 try clear hcz24_1
 try clear hfz12_0
 try clear hfz12_1
 try clear hfz15_0
 try clear hfz15_1
 try clear hfz19_0
 try clear hfz19_1
 try clear hfz24_0
 try clear hfz24_1
 try clear p2
 obtain ⟨x35_2, rfl, HA, HK2, HO_6, HO_33, BK605, BK606, BK607, HB⟩ := hrel
 cases gk with
 | zero => exact absurd HA.out (by simp [impl_MergeBag.l0])
 | succ k2 => ?_
 have H := HA.out
 clear HA
 simp only [impl_MergeBag.l0] at H
 by_cases c37 : x35_2 < (y622.length : Int)
 ·rw [if_pos c37] at H
  have c37b0 : decide (x35_2 < (y622.length : Int)) = true := decide_eq_true c37
  clear c37
  by_cases c38 : 0 ≤ x35_2
  rotate_left
  ·rw [if_neg c38] at H
   exact absurd H (by simp)
  rw [if_pos c38] at H
  have c38b0 : decide (0 ≤ x35_2) = true := decide_eq_true c38
  clear c38
  by_cases c39 : x35_2 < (y622.length : Int)
  rotate_left
  ·rw [if_neg c39] at H
   exact absurd H (by simp)
  rw [if_pos c39] at H
  have c39b0 : decide (x35_2 < (y622.length : Int)) = true := decide_eq_true c39
  clear c39
  have c40b0 := eq_true (of_decide_eq_true (by first | (with_reducible assumption) | assumption) : 0 ≤ x35_2)
  by_cases c41 : x35_2 ≤ (y622.length : Int)
  rotate_left
  ·rw [if_neg c41] at H
   exact absurd H (by simp)
  rw [if_pos c41] at H
  have c41b0 := eq_true c41
  have c41b1 : decide (x35_2 ≤ (y622.length : Int)) = true := decide_eq_true c41
  clear c41
  obtain ⟨y627, hy627⟩ : ∃ y_ : List (S48), y_ = (y622.take (x35_2 : Int).toNat) := ⟨_, rfl⟩
  replace H : ((has_impl_MergeBag_1.f k2 y627 ((rd_T48 y622 x35_2).f0) ((rd_T48 y622 x35_2).f1) ((rd_T48 y622 x35_2).f2)).bind fun t631 => (if t631 = true then (some (([] : List (S48)), ([] : List (S48)), false)) else (impl_MergeBag.l0 k2 y622 y622 (y622.length : Int) (wrap64 (x35_2 + 1)) l0_0 l0_1 l1_0 l1_1))) = some (r1, r2, r3) := by first | (rw [hy627]; with_reducible exact H) | (have H2_ := (Option.bind_some _ _).symm.trans H; rw [hy627]; with_reducible exact H2_) | (have H2_ := (Option.bind_some _ _).symm.trans H; with_reducible exact H2_) | with_reducible exact H | (rw [hy627]; exact H) | exact H
  have Ny627 := Aside0.mk hy627
  clear hy627
  replace H := Option.bind_eq_some_iff.mp H
  obtain ⟨t631, A420, H⟩ := H
  replace H : (if t631 = true then (some (([] : List (S48)), ([] : List (S48)), false)) else (impl_MergeBag.l0 k2 y622 y622 (y622.length : Int) (wrap64 (x35_2 + 1)) l0_0 l0_1 l1_0 l1_1)) = some (r1, r2, r3) := H
  have A42 := Aside0.mk A420
  clear A420
  by_cases c43 : t631 = true
  rotate_left
  ·replace c43 := Bool.eq_false_iff.mpr c43
   subst c43
   have H1 : (impl_MergeBag.l0 k2 y622 y622 (y622.length : Int) (wrap64 (x35_2 + 1)) l0_0 l0_1 l1_0 l1_1) = some (r1, r2, r3) := by rw [if_neg (show ¬ (false = true) by decide)] at H; exact H
   clear H
   have H := H1
   clear H1
   have H' := Aside0.mk H
   clear H
   have p625 : 0 ≤ (x35_2 : Int) := of_decide_eq_true (by first | (with_reducible assumption) | assumption)
   have q625 : x35_2 < (y622.length : Int) := of_decide_eq_true (by first | (with_reducible assumption) | assumption)
   obtain ⟨ad625, e625, hx625_0, hx625_1, hx625_2⟩ := at_T48 (Kd.R_reads' HO_33.out).2.2 x35_2 p625 q625
   cases e625
   replace p625 := eq_true p625
   replace q625 := eq_true q625
   go_wp2_with (first | ((with_reducible refine gate_dst (N := 8) rfl ?_); refine box_event rfl (N := 8) rfl (cs := #[.string (⟨#[]⟩ : ByteArray), .int .i64 0, .int .i64 0]) (t := 48) gs_ ?_; intro gb626 hg w56 hbox hb; replace HO_6 := Aside0.mk (Kd.R_below (Kd.R_elderB (kr_ HO_6.out) gb626 (Nat.le_of_eq hg.symm)) hb); replace HO_33 := Aside0.mk (Kd.R_below (Kd.R_elderB (kr_ HO_33.out) gb626 (Nat.le_of_eq hg.symm)) hb); have BK626 := Aside0.mk (hbox); have GW626 := Aside0.mk ((by rw [hg]; exact bz_ : w.heap.size ≤ gb626)); have GE626 := GW626; replace HB := Aside0.mk (below_step bl_ hb); have NB605_626 := nl_ hg BK605; have NB626_605 := nm_ hg BK605; replace BK605 := bb_ BK605 hb; have NB606_626 := nl_ hg BK606; have NB626_606 := nm_ hg BK606; replace BK606 := bb_ BK606 hb; have NB607_626 := nl_ hg BK607; have NB626_607 := nm_ hg BK607; replace BK607 := bb_ BK607 hb; clear hb hbox hg; have hnb57 := NB626_605.out; have hnc57 := NB605_626.out; have hnb58 := NB626_606.out; have hnc58 := NB606_626.out; have hnb59 := NB626_607.out; have hnc59 := NB607_626.out; have hcz60_0 : w56.cell? ⟨gb626, 0, none⟩ = some (.string (⟨#[]⟩ : ByteArray)) := bc_ BK626.out 0; have hcz60_1 : w56.cell? ⟨gb626, 1, none⟩ = some (.int .i64 0) := bc_ BK626.out 1; have hcz60_2 : w56.cell? ⟨gb626, 2, none⟩ = some (.int .i64 0) := bc_ BK626.out 2; have hfz60_0 := blk_frozen BK626.out 0; have hfz60_1 := blk_frozen BK626.out 1; have hfz60_2 := blk_frozen BK626.out 2) | ((with_reducible refine gate_store (t := 48) (p := 8) rfl ?_); refine store_event (t := 48) (p := 8) (v := ?vo_w61) (w1 := (((w56.setCell ⟨gb626, 0, none⟩ (.string ((rd_T48 y622 x35_2).f0))).setCell ⟨gb626, 1, none⟩ (.int .i64 ((rd_T48 y622 x35_2).f1))).setCell ⟨gb626, 2, none⟩ (.int .i64 ((rd_T48 y622 x35_2).f2)))) ?hg ?ho ?hn ?hr ?_; (case ho => rfl); (case hg => rfl); (case hn => rfl); (case hr => first | (go_simp; done) | (go_simp; rfl)); intro w61 hw; have n0_ : Aside0 (Kd.R k48 48 w61 w.heap.size (fun k_ => k_ ≠ gb626) (.slice (some ad625) y622.length co36) y622) := ⟨(by rw [hw]; exact (by exact kr_ (Kd.R_mono (Kd.R_far (p := ⟨gb626, 2, none⟩) (Kd.R_far (p := ⟨gb626, 1, none⟩) (Kd.R_far (p := ⟨gb626, 0, none⟩) (Kd.R_mono HO_6.out (fun k_ hk => (⟨hk, hk.2⟩ : _ ∧ k_ ≠ gb626))) (fun _ hk => hk.2) (.string ((rd_T48 y622 x35_2).f0))) (fun _ hk => hk.2) (.int .i64 ((rd_T48 y622 x35_2).f1))) (fun _ hk => hk.2) (.int .i64 ((rd_T48 y622 x35_2).f2))) (fun _ hk => hk.1.2))))⟩; have n1_ : Aside0 (Kd.R k48 48 w61 w.heap.size (fun k_ => k_ ≠ gb626) (.slice (some ad625) y622.length co36) y622) := ⟨(by rw [hw]; exact (by exact kr_ (Kd.R_mono (Kd.R_far (p := ⟨gb626, 2, none⟩) (Kd.R_far (p := ⟨gb626, 1, none⟩) (Kd.R_far (p := ⟨gb626, 0, none⟩) (Kd.R_mono HO_33.out (fun k_ hk => (⟨hk, hk.2⟩ : _ ∧ k_ ≠ gb626))) (fun _ hk => hk.2) (.string ((rd_T48 y622 x35_2).f0))) (fun _ hk => hk.2) (.int .i64 ((rd_T48 y622 x35_2).f1))) (fun _ hk => hk.2) (.int .i64 ((rd_T48 y622 x35_2).f2))) (fun _ hk => hk.1.2))))⟩; have n2_ : Aside0 (w61.heap[gb605]? = some (.cells #[.slice A0_0 l0_0.length c0_0, .slice A0_1 l0_1.length c0_1] 29 (0, 0))) := ⟨(by rw [hw]; exact kz_)⟩; have n3_ : Aside0 (w61.heap[gb606]? = some (.cells #[.slice A1_0 l1_0.length c1_0, .slice A1_1 l1_1.length c1_1] 29 (0, 0))) := ⟨(by rw [hw]; exact kz_)⟩; have n4_ : Aside0 (w61.heap[gb607]? = some (.cells #[.slice none 0 0, .slice none 0 0] 29 (0, 0))) := ⟨(by rw [hw]; exact kz_)⟩; have n5_ : Aside0 (w61.heap[gb626]? = some (.cells #[.string ((rd_T48 y622 x35_2).f0), .int .i64 ((rd_T48 y622 x35_2).f1), .int .i64 ((rd_T48 y622 x35_2).f2)] 48 (0, 0))) := ⟨(by rw [hw]; exact (by (with_reducible repeat (first | refine blk_drewN ?_ _ | refine blk_drew ?_ | refine blk_alloc ?_ _)); refine blk_put (cs := #[.string ((rd_T48 y622 x35_2).f0), .int .i64 ((rd_T48 y622 x35_2).f1), .int .i64 0]) ?_ 2 _ rfl; (with_reducible repeat (first | refine blk_drewN ?_ _ | refine blk_drew ?_ | refine blk_alloc ?_ _)); refine blk_put (cs := #[.string ((rd_T48 y622 x35_2).f0), .int .i64 0, .int .i64 0]) ?_ 1 _ rfl; (with_reducible repeat (first | refine blk_drewN ?_ _ | refine blk_drew ?_ | refine blk_alloc ?_ _)); refine blk_put (cs := #[.string (⟨#[]⟩ : ByteArray), .int .i64 0, .int .i64 0]) ?_ 0 _ rfl; exact kb_ BK626.out))⟩; have n6_ : Aside0 (Below w.heap.size w w61) := ⟨(by rw [hw]; exact bl_)⟩; clear hw HO_6 HO_33 BK605 BK606 BK607 BK626 HB; have HO_6 := n0_; have HO_33 := n1_; have BK605 := n2_; have BK606 := n3_; have BK607 := n4_; have BK626 := n5_; have HB := n6_; clear n0_ n1_ n2_ n3_ n4_ n5_ n6_; have q62 : (x35_2 : Int) ≤ ((y622.length : Int) : Int) := of_decide_eq_true (by first | (with_reducible assumption) | assumption); obtain ⟨i062, hi062, _, hsz62, _⟩ := info_parts info48; have hroom62 : y622.length ≤ co36 := (Kd.R_reads' HO_6.out).2.1; have hC62 : Kd.C k48 _ (some ad625) y622.length y622 := (Kd.R_reads' HO_6.out).2.2; have hcut62 := cut_to (P := Try.prog) 27 48 .i64 Try.underlying27 hi062 (some ad625) y622.length co36 x35_2 (of_decide_eq_true (by first | (with_reducible assumption) | assumption)) q62 hroom62; have hr62 := Kd.C_take (m := (x35_2 : Int).toNat) hC62 (by omega); have hy62 : y627.length = (x35_2 : Int).toNat := (by rw [Ny627.out, List.length_take]; omega); rw [← Ny627.out] at hr62; rw [← hy62] at hcut62; have HR630 := Aside0.mk hr62; have HC630 := Aside0.mk (show y627.length ≤ co36 from by omega); clear hr62 hC62 hroom62 hi062 hsz62; have KY62 := Aside0.mk hy62; clear hy62; have KL62 := Aside0.mk (show (x35_2 : Int).toNat ≤ y622.length from by omega); replace q62 := eq_true q62; have hcz63_0 : w61.cell? ⟨gb626, 0, none⟩ = some (.string ((rd_T48 y622 x35_2).f0)) := bc_ BK626.out 0; have hcz63_1 : w61.cell? ⟨gb626, 1, none⟩ = some (.int .i64 ((rd_T48 y622 x35_2).f1)) := bc_ BK626.out 1; have hcz63_2 : w61.cell? ⟨gb626, 2, none⟩ = some (.int .i64 ((rd_T48 y622 x35_2).f2)) := bc_ BK626.out 2; have hfz63_0 := blk_frozen BK626.out 0; have hfz63_1 := blk_frozen BK626.out 1; have hfz63_2 := blk_frozen BK626.out 2) | ((with_reducible refine gate_callee (f := 38) rfl ?_); refine goesL_ (some 44) rfl rfl Try.func38 (by kernel_rfl) rfl #[.slice (some ad625) y627.length co36, .func (.func 39) #[] #[.pointer (some ⟨gb626, 0, none⟩)]] rfl nc_ ?_; (with_reducible refine (has_impl_MergeBag_1.calls k2 _ _ y627 ((rd_T48 y622 x35_2).f0) ((rd_T48 y622 x35_2).f1) ((rd_T48 y622 x35_2).f2) false _ ?side1 ?side2 A42.out).mono ?_); (case side1 => repeat (first | exact (by repeat (first | (with_reducible exact HR630.out) | (with_reducible refine Kd.C_alloc ?_ _) | (with_reducible refine Kd.C_drewN ?_ _) | (with_reducible refine Kd.C_drew ?_) | exact HR630.out)) | (with_reducible refine Kd.C_alloc ?_ _) | (with_reducible refine Kd.C_drewN ?_ _) | (with_reducible refine Kd.C_drew ?_))); (case side2 => exact HC630.out); rintro e w64 ⟨rfl, hb⟩; refine ⟨_, rfl, ?_⟩; replace HO_6 := rb_ HO_6 hb; replace HO_33 := rb_ HO_33 hb; replace BK605 := bb_ BK605 hb; replace BK606 := bb_ BK606 hb; replace BK607 := bb_ BK607 hb; replace BK626 := bb_ BK626 hb; replace HR630 := Aside0.mk (Kd.C_below (by repeat (first | (with_reducible exact HR630.out) | (with_reducible refine Kd.C_alloc ?_ _) | (with_reducible refine Kd.C_drewN ?_ _) | (with_reducible refine Kd.C_drew ?_) | exact HR630.out)) hb); replace HB := Aside0.mk (below_step bl_ hb); clear hb))
   go_roundg k2
   case measure => have := HJ2.out; have := HK2.out; omega
   case rel => exact ⟨(wrap64 (x35_2 + 1)), (by first | rfl | (simp; done) | (simp [*]; done)), H', ⟨by have := HJ2.out; have := HK2.out; omega⟩, ⟨by exact kr_ (Kd.R_mono HO_6.out (fun _ hk => trivial))⟩, ⟨by exact kr_ (Kd.R_mono HO_33.out (fun _ hk => trivial))⟩, ⟨by exact kb_ BK605.out⟩, ⟨by exact kb_ BK606.out⟩, ⟨by exact kb_ BK607.out⟩, ⟨bl_⟩⟩
  subst c43
  have H1 : (some (([] : List (S48)), ([] : List (S48)), false)) = some (r1, r2, r3) := by rw [if_pos rfl] at H; exact H
  clear H
  have H := H1
  clear H1
  simp only [Option.some.injEq, Prod.mk.injEq] at H
  obtain ⟨rfl, rfl, rfl⟩ := H
  have p625 : 0 ≤ (x35_2 : Int) := of_decide_eq_true (by first | (with_reducible assumption) | assumption)
  have q625 : x35_2 < (y622.length : Int) := of_decide_eq_true (by first | (with_reducible assumption) | assumption)
  obtain ⟨ad625, e625, hx625_0, hx625_1, hx625_2⟩ := at_T48 (Kd.R_reads' HO_33.out).2.2 x35_2 p625 q625
  cases e625
  replace p625 := eq_true p625
  replace q625 := eq_true q625
  go_wp2_with (first | ((with_reducible refine gate_dst (N := 8) rfl ?_); refine box_event rfl (N := 8) rfl (cs := #[.string (⟨#[]⟩ : ByteArray), .int .i64 0, .int .i64 0]) (t := 48) gs_ ?_; intro gb626 hg w44 hbox hb; replace HO_6 := Aside0.mk (Kd.R_below (Kd.R_elderB (kr_ HO_6.out) gb626 (Nat.le_of_eq hg.symm)) hb); replace HO_33 := Aside0.mk (Kd.R_below (Kd.R_elderB (kr_ HO_33.out) gb626 (Nat.le_of_eq hg.symm)) hb); have BK626 := Aside0.mk (hbox); have GW626 := Aside0.mk ((by rw [hg]; exact bz_ : w.heap.size ≤ gb626)); have GE626 := GW626; replace HB := Aside0.mk (below_step bl_ hb); have NB605_626 := nl_ hg BK605; have NB626_605 := nm_ hg BK605; replace BK605 := bb_ BK605 hb; have NB606_626 := nl_ hg BK606; have NB626_606 := nm_ hg BK606; replace BK606 := bb_ BK606 hb; have NB607_626 := nl_ hg BK607; have NB626_607 := nm_ hg BK607; replace BK607 := bb_ BK607 hb; clear hb hbox hg; have hnb45 := NB626_605.out; have hnc45 := NB605_626.out; have hnb46 := NB626_606.out; have hnc46 := NB606_626.out; have hnb47 := NB626_607.out; have hnc47 := NB607_626.out; have hcz48_0 : w44.cell? ⟨gb626, 0, none⟩ = some (.string (⟨#[]⟩ : ByteArray)) := bc_ BK626.out 0; have hcz48_1 : w44.cell? ⟨gb626, 1, none⟩ = some (.int .i64 0) := bc_ BK626.out 1; have hcz48_2 : w44.cell? ⟨gb626, 2, none⟩ = some (.int .i64 0) := bc_ BK626.out 2; have hfz48_0 := blk_frozen BK626.out 0; have hfz48_1 := blk_frozen BK626.out 1; have hfz48_2 := blk_frozen BK626.out 2) | ((with_reducible refine gate_store (t := 48) (p := 8) rfl ?_); refine store_event (t := 48) (p := 8) (v := ?vo_w49) (w1 := (((w44.setCell ⟨gb626, 0, none⟩ (.string ((rd_T48 y622 x35_2).f0))).setCell ⟨gb626, 1, none⟩ (.int .i64 ((rd_T48 y622 x35_2).f1))).setCell ⟨gb626, 2, none⟩ (.int .i64 ((rd_T48 y622 x35_2).f2)))) ?hg ?ho ?hn ?hr ?_; (case ho => rfl); (case hg => rfl); (case hn => rfl); (case hr => first | (go_simp; done) | (go_simp; rfl)); intro w49 hw; have n0_ : Aside0 (Kd.R k48 48 w49 w.heap.size (fun k_ => k_ ≠ gb626) (.slice (some ad625) y622.length co36) y622) := ⟨(by rw [hw]; exact (by exact kr_ (Kd.R_mono (Kd.R_far (p := ⟨gb626, 2, none⟩) (Kd.R_far (p := ⟨gb626, 1, none⟩) (Kd.R_far (p := ⟨gb626, 0, none⟩) (Kd.R_mono HO_6.out (fun k_ hk => (⟨hk, hk.2⟩ : _ ∧ k_ ≠ gb626))) (fun _ hk => hk.2) (.string ((rd_T48 y622 x35_2).f0))) (fun _ hk => hk.2) (.int .i64 ((rd_T48 y622 x35_2).f1))) (fun _ hk => hk.2) (.int .i64 ((rd_T48 y622 x35_2).f2))) (fun _ hk => hk.1.2))))⟩; have n1_ : Aside0 (Kd.R k48 48 w49 w.heap.size (fun k_ => k_ ≠ gb626) (.slice (some ad625) y622.length co36) y622) := ⟨(by rw [hw]; exact (by exact kr_ (Kd.R_mono (Kd.R_far (p := ⟨gb626, 2, none⟩) (Kd.R_far (p := ⟨gb626, 1, none⟩) (Kd.R_far (p := ⟨gb626, 0, none⟩) (Kd.R_mono HO_33.out (fun k_ hk => (⟨hk, hk.2⟩ : _ ∧ k_ ≠ gb626))) (fun _ hk => hk.2) (.string ((rd_T48 y622 x35_2).f0))) (fun _ hk => hk.2) (.int .i64 ((rd_T48 y622 x35_2).f1))) (fun _ hk => hk.2) (.int .i64 ((rd_T48 y622 x35_2).f2))) (fun _ hk => hk.1.2))))⟩; have n2_ : Aside0 (w49.heap[gb605]? = some (.cells #[.slice A0_0 l0_0.length c0_0, .slice A0_1 l0_1.length c0_1] 29 (0, 0))) := ⟨(by rw [hw]; exact kz_)⟩; have n3_ : Aside0 (w49.heap[gb606]? = some (.cells #[.slice A1_0 l1_0.length c1_0, .slice A1_1 l1_1.length c1_1] 29 (0, 0))) := ⟨(by rw [hw]; exact kz_)⟩; have n4_ : Aside0 (w49.heap[gb607]? = some (.cells #[.slice none 0 0, .slice none 0 0] 29 (0, 0))) := ⟨(by rw [hw]; exact kz_)⟩; have n5_ : Aside0 (w49.heap[gb626]? = some (.cells #[.string ((rd_T48 y622 x35_2).f0), .int .i64 ((rd_T48 y622 x35_2).f1), .int .i64 ((rd_T48 y622 x35_2).f2)] 48 (0, 0))) := ⟨(by rw [hw]; exact (by (with_reducible repeat (first | refine blk_drewN ?_ _ | refine blk_drew ?_ | refine blk_alloc ?_ _)); refine blk_put (cs := #[.string ((rd_T48 y622 x35_2).f0), .int .i64 ((rd_T48 y622 x35_2).f1), .int .i64 0]) ?_ 2 _ rfl; (with_reducible repeat (first | refine blk_drewN ?_ _ | refine blk_drew ?_ | refine blk_alloc ?_ _)); refine blk_put (cs := #[.string ((rd_T48 y622 x35_2).f0), .int .i64 0, .int .i64 0]) ?_ 1 _ rfl; (with_reducible repeat (first | refine blk_drewN ?_ _ | refine blk_drew ?_ | refine blk_alloc ?_ _)); refine blk_put (cs := #[.string (⟨#[]⟩ : ByteArray), .int .i64 0, .int .i64 0]) ?_ 0 _ rfl; exact kb_ BK626.out))⟩; have n6_ : Aside0 (Below w.heap.size w w49) := ⟨(by rw [hw]; exact bl_)⟩; clear hw HO_6 HO_33 BK605 BK606 BK607 BK626 HB; have HO_6 := n0_; have HO_33 := n1_; have BK605 := n2_; have BK606 := n3_; have BK607 := n4_; have BK626 := n5_; have HB := n6_; clear n0_ n1_ n2_ n3_ n4_ n5_ n6_; have q50 : (x35_2 : Int) ≤ ((y622.length : Int) : Int) := of_decide_eq_true (by first | (with_reducible assumption) | assumption); obtain ⟨i050, hi050, _, hsz50, _⟩ := info_parts info48; have hroom50 : y622.length ≤ co36 := (Kd.R_reads' HO_6.out).2.1; have hC50 : Kd.C k48 _ (some ad625) y622.length y622 := (Kd.R_reads' HO_6.out).2.2; have hcut50 := cut_to (P := Try.prog) 27 48 .i64 Try.underlying27 hi050 (some ad625) y622.length co36 x35_2 (of_decide_eq_true (by first | (with_reducible assumption) | assumption)) q50 hroom50; have hr50 := Kd.C_take (m := (x35_2 : Int).toNat) hC50 (by omega); have hy50 : y627.length = (x35_2 : Int).toNat := (by rw [Ny627.out, List.length_take]; omega); rw [← Ny627.out] at hr50; rw [← hy50] at hcut50; have HR630 := Aside0.mk hr50; have HC630 := Aside0.mk (show y627.length ≤ co36 from by omega); clear hr50 hC50 hroom50 hi050 hsz50; have KY50 := Aside0.mk hy50; clear hy50; have KL50 := Aside0.mk (show (x35_2 : Int).toNat ≤ y622.length from by omega); replace q50 := eq_true q50; have hcz51_0 : w49.cell? ⟨gb626, 0, none⟩ = some (.string ((rd_T48 y622 x35_2).f0)) := bc_ BK626.out 0; have hcz51_1 : w49.cell? ⟨gb626, 1, none⟩ = some (.int .i64 ((rd_T48 y622 x35_2).f1)) := bc_ BK626.out 1; have hcz51_2 : w49.cell? ⟨gb626, 2, none⟩ = some (.int .i64 ((rd_T48 y622 x35_2).f2)) := bc_ BK626.out 2; have hfz51_0 := blk_frozen BK626.out 0; have hfz51_1 := blk_frozen BK626.out 1; have hfz51_2 := blk_frozen BK626.out 2) | ((with_reducible refine gate_callee (f := 38) rfl ?_); refine goesL_ (some 44) rfl rfl Try.func38 (by kernel_rfl) rfl #[.slice (some ad625) y627.length co36, .func (.func 39) #[] #[.pointer (some ⟨gb626, 0, none⟩)]] rfl nc_ ?_; (with_reducible refine (has_impl_MergeBag_1.calls k2 _ _ y627 ((rd_T48 y622 x35_2).f0) ((rd_T48 y622 x35_2).f1) ((rd_T48 y622 x35_2).f2) true _ ?side1 ?side2 A42.out).mono ?_); (case side1 => repeat (first | exact (by repeat (first | (with_reducible exact HR630.out) | (with_reducible refine Kd.C_alloc ?_ _) | (with_reducible refine Kd.C_drewN ?_ _) | (with_reducible refine Kd.C_drew ?_) | exact HR630.out)) | (with_reducible refine Kd.C_alloc ?_ _) | (with_reducible refine Kd.C_drewN ?_ _) | (with_reducible refine Kd.C_drew ?_))); (case side2 => exact HC630.out); rintro e w52 ⟨rfl, hb⟩; refine ⟨_, rfl, ?_⟩; replace HO_6 := rb_ HO_6 hb; replace HO_33 := rb_ HO_33 hb; replace BK605 := bb_ BK605 hb; replace BK606 := bb_ BK606 hb; replace BK607 := bb_ BK607 hb; replace BK626 := bb_ BK626 hb; replace HR630 := Aside0.mk (Kd.C_below (by repeat (first | (with_reducible exact HR630.out) | (with_reducible refine Kd.C_alloc ?_ _) | (with_reducible refine Kd.C_drewN ?_ _) | (with_reducible refine Kd.C_drew ?_) | exact HR630.out)) hb); replace HB := Aside0.mk (below_step bl_ hb); clear hb; have hnb53 := NB607_605.out; have hnc53 := NB605_607.out; have hnb54 := NB607_606.out; have hnc54 := NB606_607.out; have hcz55_0 : w52.cell? ⟨gb607, 0, none⟩ = some (.slice none 0 0) := bc_ BK607.out 0; have hcz55_1 : w52.cell? ⟨gb607, 1, none⟩ = some (.slice none 0 0) := bc_ BK607.out 1; have hfz55_0 := blk_frozen BK607.out 0; have hfz55_1 := blk_frozen BK607.out 1))
  refine bodyPost_ret (results_ct rfl _ _ gb607 29 #[.slice none 0 0, .slice none 0 0] (0, 0) _ rfl (by (with_reducible repeat (first | refine blk_drewN ?_ _ | refine blk_drew ?_ | refine blk_alloc ?_ _)); refine blk_put (cs := #[.slice none 0 0, .slice none 0 0]) ?_ 1 _ rfl; (with_reducible repeat (first | refine blk_drewN ?_ _ | refine blk_drew ?_ | refine blk_alloc ?_ _)); refine blk_put (cs := #[.slice none 0 0, .slice none 0 0]) ?_ 0 _ rfl; exact kb_ BK607.out) Try.underlying29 rfl (by kernel_rfl)) rfl ?_
  exact ⟨_, _, ng_, by first | exact Kd.R_nil _ _ _ _ _ | exact Kd.N_nil _ _ _ _ _ | exact Kd.V_nil _ _ _ _ _ | exact Kd.Q_nil _ _ _ _ _ | exact Kd.S_nil _ _ _ _ _, by first | exact Kd.R_nil _ _ _ _ _ | exact Kd.N_nil _ _ _ _ _ | exact Kd.V_nil _ _ _ _ _ | exact Kd.Q_nil _ _ _ _ _ | exact Kd.S_nil _ _ _ _ _, bl_⟩
 rw [if_neg c37] at H
 have c37b0 : decide (x35_2 < (y622.length : Int)) = false := decide_eq_false c37
 clear c37
 obtain ⟨y632, hy632⟩ : ∃ y_ : List (S48), y_ = (([] : List (S48))) := ⟨_, rfl⟩
 replace H : (if y632.length + l0_1.length < 4398046511104 then ((some (y632 ++ l0_1 : List (S48))).bind fun y635 => (if y635.length + l1_1.length < 4398046511104 then ((some (([] : List (S48)) : List (S48))).bind fun y642 => (if y642.length + l0_0.length < 4398046511104 then ((some (y642 ++ l0_0 : List (S48))).bind fun y645 => (if y645.length + l1_0.length < 4398046511104 then ((impl_Add_41.f k2 (y645 ++ l1_0) (y635 ++ l1_1)).bind fun t651 => ((impl_goodBag.f k2 t651 (y635 ++ l1_1)).bind fun bt654 => (some (bt654.1, bt654.2.1, bt654.2.2)))) else (none))) else (none))) else (none))) else (none)) = some (r1, r2, r3) := by first | (rw [hy632]; with_reducible exact H) | (have H2_ := (Option.bind_some _ _).symm.trans H; rw [hy632]; with_reducible exact H2_) | (have H2_ := (Option.bind_some _ _).symm.trans H; with_reducible exact H2_) | with_reducible exact H | (rw [hy632]; exact H) | exact H
 have Ny632 := Aside0.mk hy632
 clear hy632
 by_cases c65 : y632.length + l0_1.length < 4398046511104
 rotate_left
 ·rw [if_neg c65] at H
  exact absurd H (by simp)
 rw [if_pos c65] at H
 have LMc65 := Aside0.mk c65
 clear c65
 obtain ⟨y635, hy635⟩ : ∃ y_ : List (S48), y_ = (y632 ++ l0_1) := ⟨_, rfl⟩
 replace H : (if y635.length + l1_1.length < 4398046511104 then ((some (([] : List (S48)) : List (S48))).bind fun y642 => (if y642.length + l0_0.length < 4398046511104 then ((some (y642 ++ l0_0 : List (S48))).bind fun y645 => (if y645.length + l1_0.length < 4398046511104 then ((impl_Add_41.f k2 (y645 ++ l1_0) (y635 ++ l1_1)).bind fun t651 => ((impl_goodBag.f k2 t651 (y635 ++ l1_1)).bind fun bt654 => (some (bt654.1, bt654.2.1, bt654.2.2)))) else (none))) else (none))) else (none)) = some (r1, r2, r3) := by first | (rw [hy635]; with_reducible exact H) | (have H2_ := (Option.bind_some _ _).symm.trans H; rw [hy635]; with_reducible exact H2_) | (have H2_ := (Option.bind_some _ _).symm.trans H; with_reducible exact H2_) | with_reducible exact H | (rw [hy635]; exact H) | exact H
 have Ny635 := Aside0.mk hy635
 clear hy635
 by_cases c66 : y635.length + l1_1.length < 4398046511104
 rotate_left
 ·rw [if_neg c66] at H
  exact absurd H (by simp)
 rw [if_pos c66] at H
 have LMc66 := Aside0.mk c66
 clear c66
 obtain ⟨y638, hy638⟩ : ∃ y_ : List (S48), y_ = (y635 ++ l1_1) := ⟨_, rfl⟩
 replace H : ((some (([] : List (S48)) : List (S48))).bind fun y642 => (if y642.length + l0_0.length < 4398046511104 then ((some (y642 ++ l0_0 : List (S48))).bind fun y645 => (if y645.length + l1_0.length < 4398046511104 then ((impl_Add_41.f k2 (y645 ++ l1_0) y638).bind fun t651 => ((impl_goodBag.f k2 t651 y638).bind fun bt654 => (some (bt654.1, bt654.2.1, bt654.2.2)))) else (none))) else (none))) = some (r1, r2, r3) := by first | (rw [hy638]; with_reducible exact H) | (have H2_ := (Option.bind_some _ _).symm.trans H; rw [hy638]; with_reducible exact H2_) | (have H2_ := (Option.bind_some _ _).symm.trans H; with_reducible exact H2_) | with_reducible exact H | (rw [hy638]; exact H) | exact H
 have Ny638 := Aside0.mk hy638
 clear hy638
 obtain ⟨y642, hy642⟩ : ∃ y_ : List (S48), y_ = (([] : List (S48))) := ⟨_, rfl⟩
 replace H : (if y642.length + l0_0.length < 4398046511104 then ((some (y642 ++ l0_0 : List (S48))).bind fun y645 => (if y645.length + l1_0.length < 4398046511104 then ((impl_Add_41.f k2 (y645 ++ l1_0) y638).bind fun t651 => ((impl_goodBag.f k2 t651 y638).bind fun bt654 => (some (bt654.1, bt654.2.1, bt654.2.2)))) else (none))) else (none)) = some (r1, r2, r3) := by first | (rw [hy642]; with_reducible exact H) | (have H2_ := (Option.bind_some _ _).symm.trans H; rw [hy642]; with_reducible exact H2_) | (have H2_ := (Option.bind_some _ _).symm.trans H; with_reducible exact H2_) | with_reducible exact H | (rw [hy642]; exact H) | exact H
 have Ny642 := Aside0.mk hy642
 clear hy642
 by_cases c67 : y642.length + l0_0.length < 4398046511104
 rotate_left
 ·rw [if_neg c67] at H
  exact absurd H (by simp)
 rw [if_pos c67] at H
 have LMc67 := Aside0.mk c67
 clear c67
 obtain ⟨y645, hy645⟩ : ∃ y_ : List (S48), y_ = (y642 ++ l0_0) := ⟨_, rfl⟩
 replace H : (if y645.length + l1_0.length < 4398046511104 then ((impl_Add_41.f k2 (y645 ++ l1_0) y638).bind fun t651 => ((impl_goodBag.f k2 t651 y638).bind fun bt654 => (some (bt654.1, bt654.2.1, bt654.2.2)))) else (none)) = some (r1, r2, r3) := by first | (rw [hy645]; with_reducible exact H) | (have H2_ := (Option.bind_some _ _).symm.trans H; rw [hy645]; with_reducible exact H2_) | (have H2_ := (Option.bind_some _ _).symm.trans H; with_reducible exact H2_) | with_reducible exact H | (rw [hy645]; exact H) | exact H
 have Ny645 := Aside0.mk hy645
 clear hy645
 by_cases c68 : y645.length + l1_0.length < 4398046511104
 rotate_left
 ·rw [if_neg c68] at H
  exact absurd H (by simp)
 rw [if_pos c68] at H
 have LMc68 := Aside0.mk c68
 clear c68
 obtain ⟨y648, hy648⟩ : ∃ y_ : List (S48), y_ = (y645 ++ l1_0) := ⟨_, rfl⟩
 replace H : ((impl_Add_41.f k2 y648 y638).bind fun t651 => ((impl_goodBag.f k2 t651 y638).bind fun bt654 => (some (bt654.1, bt654.2.1, bt654.2.2)))) = some (r1, r2, r3) := by first | (rw [hy648]; with_reducible exact H) | (have H2_ := (Option.bind_some _ _).symm.trans H; rw [hy648]; with_reducible exact H2_) | (have H2_ := (Option.bind_some _ _).symm.trans H; with_reducible exact H2_) | with_reducible exact H | (rw [hy648]; exact H) | exact H
 have Ny648 := Aside0.mk hy648
 clear hy648
 replace H := Option.bind_eq_some_iff.mp H
 obtain ⟨t651, A690, H⟩ := H
 replace H : ((impl_goodBag.f k2 t651 y638).bind fun bt654 => (some (bt654.1, bt654.2.1, bt654.2.2))) = some (r1, r2, r3) := H
 have A69 := Aside0.mk A690
 clear A690
 replace H := Option.bind_eq_some_iff.mp H
 obtain ⟨⟨t654, t657, t660⟩, A700, H⟩ := H
 replace H : (some (t654, t657, t660)) = some (r1, r2, r3) := H
 have A70 := Aside0.mk A700
 clear A700
 simp only [Option.some.injEq, Prod.mk.injEq] at H
 obtain ⟨rfl, rfl, rfl⟩ := H
 try go_wp2
 replace HO_6 := Aside0.mk (Kd.R_drew HO_6.out)
 replace HO_33 := Aside0.mk (Kd.R_drew HO_33.out)
 replace BK605 := Aside0.mk (blk_drew BK605.out)
 replace BK606 := Aside0.mk (blk_drew BK606.out)
 replace BK607 := Aside0.mk (blk_drew BK607.out)
 replace HB := Aside0.mk (below_drew1 HB.out)
 refine start_ (n := 9) (S := fun w' => w'.cell? ⟨gb605, 0, none⟩ = some (.slice A0_0 l0_0.length c0_0) ∧ w'.cell? ⟨gb605, 1, none⟩ = some (.slice A0_1 l0_1.length c0_1) ∧ w'.cell? ⟨gb606, 0, none⟩ = some (.slice A1_0 l1_0.length c1_0) ∧ w'.cell? ⟨gb606, 1, none⟩ = some (.slice A1_1 l1_1.length c1_1)) (ds := []) #[false, false, false, false, false, false, false, false, false] (by kernel_rfl) rfl rfl ⟨bc_ BK605.out 0, bc_ BK605.out 1, bc_ BK606.out 0, bc_ BK606.out 1⟩ (fun hHeld => ?_); refine with_tabW impl_MergeBag.tab10 impl_MergeBag.bits10 (fun HT_ HW_ => ?_)
 generalize wr.drew = w71 at HO_6 HO_33 BK605 BK606 BK607 HB hHeld ⊢
 refine pu_ 1 (some 48) (h := ?_)
 refine pu_ 4 (some 51) (h := ?_)
 refine tk4_ 2 (some 49) (h := ?_)
 refine tk4_ 5 (some 52) (h := ?_)
 refine join_ (σ := Value × Value × Value × Nat) 1 #[true, true, true, true, true, true, true, true, false] (fun s_ => [(47, s_.1), (50, s_.2.1), (53, s_.2.2.1), (9, .pointer (some ⟨s_.2.2.2, 0, none⟩))]) (fun s_ w' => (w'.cell? ⟨gb605, 0, none⟩ = some (.slice A0_0 l0_0.length c0_0) ∧ w'.cell? ⟨gb605, 1, none⟩ = some (.slice A0_1 l0_1.length c0_1) ∧ w'.cell? ⟨gb606, 0, none⟩ = some (.slice A1_0 l1_0.length c1_0) ∧ w'.cell? ⟨gb606, 1, none⟩ = some (.slice A1_1 l1_1.length c1_1)) ∧ (Kd.R k48 48 w' w.heap.size (fun k_ => some k_ ≠ (.slice Ao36 y622.length co36 : Value).ownBlock ∧ some k_ ≠ (.slice Ao36 y622.length co36 : Value).ownBlock) s_.2.2.1 y638) ∧ (Kd.R k48 48 w' w.heap.size (fun k_ => some k_ ≠ (s_.2.2.1 : Value).ownBlock) (.slice Ao36 y622.length co36) y622) ∧ (Kd.R k48 48 w' w.heap.size (fun k_ => some k_ ≠ (s_.2.2.1 : Value).ownBlock) (.slice Ao36 y622.length co36) y622) ∧ (w'.heap[gb605]? = some (.cells #[.slice A0_0 l0_0.length c0_0, .slice A0_1 l0_1.length c0_1] 29 (0, 0))) ∧ (w'.heap[gb606]? = some (.cells #[.slice A1_0 l1_0.length c1_0, .slice A1_1 l1_1.length c1_1] 29 (0, 0))) ∧ (w'.heap[gb607]? = some (.cells #[.slice none 0 0, .slice none 0 0] 29 (0, 0))) ∧ (w'.heap[s_.2.2.2]? = some (.cells #[.slice none 0 0] 27 (0, 0))) ∧ (w.heap.size ≤ s_.2.2.2) ∧ (w.heap.size ≤ s_.2.2.2) ∧ (gb605 ≠ s_.2.2.2) ∧ (s_.2.2.2 ≠ gb605) ∧ (gb606 ≠ s_.2.2.2) ∧ (s_.2.2.2 ≠ gb606) ∧ (gb607 ≠ s_.2.2.2) ∧ (s_.2.2.2 ≠ gb607) ∧ (Below w.heap.size w w')) ?_ ?_
 rotate_left
 ·intro hCont
  refine tw_ 0 7 (some 47) (some 9) (h1 := fun K hK => ?_) (h2 := fun K hK => ?_)
  ·skip
   refine Kd.R_lit_step k48 _ 48 rfl (N := 47) rfl (xs := ([] : List (S48))) (inner := []) (ok := fun _ => True) (okp := fun _ => True) gs_ ?hp (fun _ hk => hk) trivial (Below.refl _ _) (Nat.le_refl _) (by simp) ?_; (case hp => exact (Reps.none _ _))
   intro v633 w72 ho73 hb hg_ hnew_
   clear hg_ hnew_
   (first | rw [← Ny632.out] at ho73 | (simp only [Int.reduceToNat] at ho73; rw [← Ny632.out] at ho73))
   have HO634 := Aside0.mk (Kd.R_lower (rn_ (rn_ ho73 HO_6.out) HO_33.out) bz_)
   replace HO_6 := Aside0.mk (Kd.R_elder' (kr_ HO_6.out) (Kd.R_base ho73) hb)
   replace HO_33 := Aside0.mk (Kd.R_elder' (kr_ HO_33.out) (Kd.R_base ho73) hb)
   replace BK605 := bb_ BK605 hb
   replace BK606 := bb_ BK606 hb
   replace BK607 := bb_ BK607 hb
   replace HB := Aside0.mk (below_step bl_ hb)
   clear hb ho73
   refine hK.out _ _ ⟨bc_ BK605.out 0, bc_ BK605.out 1, bc_ BK606.out 0, bc_ BK606.out 1⟩ (fun hHeld => ?_)
   clear hK K
   refine norm_ nn_ ?_
   refine tw_ 3 7 (some 50) (some 9) (h1 := fun K hK => ?_) (h2 := fun K hK => ?_)
   ·skip
    refine Kd.R_append_rows_step k48 (w0 := w) w.heap.size (by rfl) (.tmp 47) (.tmp 49) 27 48 (.agg #[(.string ⟨#[]⟩), (.int .i64 0), (.int .i64 0)]) 32 rfl Try.underlying27 info48 rfl (by decide) (by omega) v633 y632 l0_1 _ _ _ (fun k_ => some k_ ≠ (.slice Ao36 y622.length co36 : Value).ownBlock ∧ some k_ ≠ (.slice Ao36 y622.length co36 : Value).ownBlock) (fun _ => False) rfl rfl ?aO ?aR (fun _ _ h => h) (fun _ h => h.elim) ?aF ?aB ?aS ?aL ?_
    (case aR => exact kc_ (Kd.C_below HR0_1.out HB.out))
    (case aB => exact bl_)
    (case aF => exact (fun k_ hk => ⟨Kd.fresh' (Kd.R_lt (kr_ HO_6.out)) k_ hk, Kd.fresh' (Kd.R_lt (kr_ HO_33.out)) k_ hk⟩))
    (case aO => exact (kp_ HO634.out))
    (case aS => exact bz_)
    (case aL => have := LMc65.out; omega)
    intro v636 w74 ho hb hg hat
    rw [← Ny635.out] at ho
    replace HO_6 := Aside0.mk (Kd.R_after (ok := (fun _ => True)) (kr_ HO_6.out) hg hat)
    replace HO_33 := Aside0.mk (Kd.R_after (ok := (fun _ => True)) (kr_ HO_33.out) hg hat)
    replace BK605 := bgr_ BK605 hg HO634 BK605
    replace BK606 := bgr_ BK606 hg HO634 BK606
    replace BK607 := bgr_ BK607 hg HO634 BK607
    replace HB := Aside0.mk (hb)
    have HO637 := Aside0.mk (ho)
    clear HO634 ho hb hg hat
    refine hK.out _ _ ⟨bc_ BK605.out 0, bc_ BK605.out 1, bc_ BK606.out 0, bc_ BK606.out 1⟩ (fun hHeld => ?_)
    clear hK K
    refine norm_ nn_ ?_
    refine tw_ 6 7 (some 53) (some 9) (h1 := fun K hK => ?_) (h2 := fun K hK => ?_)
    ·skip
     refine Kd.R_append_rows_step k48 (w0 := w) w.heap.size (by rfl) (.tmp 50) (.tmp 52) 27 48 (.agg #[(.string ⟨#[]⟩), (.int .i64 0), (.int .i64 0)]) 32 rfl Try.underlying27 info48 rfl (by decide) (by omega) v636 y635 l1_1 _ _ _ (fun k_ => some k_ ≠ (.slice Ao36 y622.length co36 : Value).ownBlock ∧ some k_ ≠ (.slice Ao36 y622.length co36 : Value).ownBlock) (fun _ => False) rfl rfl ?aO ?aR (fun _ _ h => h) (fun _ h => h.elim) ?aF ?aB ?aS ?aL ?_
     (case aR => exact kc_ (Kd.C_below HR1_1.out HB.out))
     (case aB => exact bl_)
     (case aF => exact (fun k_ hk => ⟨Kd.fresh' (Kd.R_lt (kr_ HO_6.out)) k_ hk, Kd.fresh' (Kd.R_lt (kr_ HO_33.out)) k_ hk⟩))
     (case aO => exact (kr_ HO637.out))
     (case aS => exact bz_)
     (case aL => have := LMc66.out; omega)
     intro v639 w75 ho hb hg hat
     rw [← Ny638.out] at ho
     replace HO_6 := Aside0.mk (Kd.R_after (ok := (fun _ => True)) (kr_ HO_6.out) hg hat)
     replace HO_33 := Aside0.mk (Kd.R_after (ok := (fun _ => True)) (kr_ HO_33.out) hg hat)
     replace BK605 := bgr_ BK605 hg HO637 BK605
     replace BK606 := bgr_ BK606 hg HO637 BK606
     replace BK607 := bgr_ BK607 hg HO637 BK607
     replace HB := Aside0.mk (hb)
     have HO640 := Aside0.mk (ho)
     clear HO637 ho hb hg hat
     refine hK.out _ _ ⟨bc_ BK605.out 0, bc_ BK605.out 1, bc_ BK606.out 0, bc_ BK606.out 1⟩ (fun hHeld => ?_)
     clear hK K
     refine norm_ nn_ ?_
     refine on_ 7 (some 9) (h := fun K hK => ?_)
     refine box_step rfl (N := 9) rfl (cs := #[.slice none 0 0]) (t := 27) gs_ ?_
     intro gb641 hg w76 hbox hb
     replace HO_6 := rb_ HO_6 hb
     replace HO_33 := rb_ HO_33 hb
     replace HO640 := rb_ HO640 hb
     have BK641 := Aside0.mk (hbox)
     have GW641 := Aside0.mk ((by rw [hg]; exact bz_ : w.heap.size ≤ gb641))
     have GE641 := GW641
     replace HB := Aside0.mk (below_step bl_ hb)
     have NB605_641 := nl_ hg BK605
     have NB641_605 := nm_ hg BK605
     replace BK605 := bb_ BK605 hb
     have NB606_641 := nl_ hg BK606
     have NB641_606 := nm_ hg BK606
     replace BK606 := bb_ BK606 hb
     have NB607_641 := nl_ hg BK607
     have NB641_607 := nm_ hg BK607
     replace BK607 := bb_ BK607 hb
     clear hb hbox hg
     refine hK.out _ _ ⟨bc_ BK605.out 0, bc_ BK605.out 1, bc_ BK606.out 0, bc_ BK606.out 1⟩ (fun hHeld => ?_)
     clear hK K
     refine norm_ nn_ ?_
     exact norm_ (by simp only [putAll, Act.put, List.setIfInBounds_toArray, List.set_cons_zero, List.set_cons_succ]) (hCont (v633, v636, v639, gb641) _ ⟨hHeld, kp_ HO640.out, kp_ HO_33.out, kp_ HO_6.out, kb_ BK605.out, kb_ BK606.out, kb_ BK607.out, kb_ BK641.out, GW641.out, GE641.out, NB605_641.out, NB641_605.out, NB606_641.out, NB641_606.out, NB607_641.out, NB641_607.out, bl_⟩)
    ·skip
     refine box_step rfl (N := 9) rfl (cs := #[.slice none 0 0]) (t := 27) gs_ ?_
     intro gb641 hg w75 hbox hb
     replace HO_6 := rb_ HO_6 hb
     replace HO_33 := rb_ HO_33 hb
     replace HO637 := rb_ HO637 hb
     have BK641 := Aside0.mk (hbox)
     have GW641 := Aside0.mk ((by rw [hg]; exact bz_ : w.heap.size ≤ gb641))
     have GE641 := GW641
     replace HB := Aside0.mk (below_step bl_ hb)
     have NB605_641 := nl_ hg BK605
     have NB641_605 := nm_ hg BK605
     replace BK605 := bb_ BK605 hb
     have NB606_641 := nl_ hg BK606
     have NB641_606 := nm_ hg BK606
     replace BK606 := bb_ BK606 hb
     have NB607_641 := nl_ hg BK607
     have NB641_607 := nm_ hg BK607
     replace BK607 := bb_ BK607 hb
     clear hb hbox hg
     refine hK.out _ _ ⟨bc_ BK605.out 0, bc_ BK605.out 1, bc_ BK606.out 0, bc_ BK606.out 1⟩ (fun hHeld => ?_)
     clear hK K
     refine norm_ nn_ ?_
     refine on_ 6 (some 53) (h := fun K hK => ?_)
     refine Kd.R_append_rows_step k48 (w0 := w) w.heap.size (by rfl) (.tmp 50) (.tmp 52) 27 48 (.agg #[(.string ⟨#[]⟩), (.int .i64 0), (.int .i64 0)]) 32 rfl Try.underlying27 info48 rfl (by decide) (by omega) v636 y635 l1_1 _ _ _ (fun k_ => some k_ ≠ (.slice Ao36 y622.length co36 : Value).ownBlock ∧ some k_ ≠ (.slice Ao36 y622.length co36 : Value).ownBlock) (fun _ => False) rfl rfl ?aO ?aR (fun _ _ h => h) (fun _ h => h.elim) ?aF ?aB ?aS ?aL ?_
     (case aR => exact kc_ (Kd.C_below HR1_1.out HB.out))
     (case aB => exact bl_)
     (case aF => exact (fun k_ hk => ⟨Kd.fresh' (Kd.R_lt (kr_ HO_6.out)) k_ hk, Kd.fresh' (Kd.R_lt (kr_ HO_33.out)) k_ hk⟩))
     (case aO => exact (kr_ HO637.out))
     (case aS => exact bz_)
     (case aL => have := LMc66.out; omega)
     intro v639 w76 ho hb hg hat
     rw [← Ny638.out] at ho
     replace HO_6 := Aside0.mk (Kd.R_after (ok := (fun _ => True)) (kr_ HO_6.out) hg hat)
     replace HO_33 := Aside0.mk (Kd.R_after (ok := (fun _ => True)) (kr_ HO_33.out) hg hat)
     replace BK605 := bgr_ BK605 hg HO637 BK605
     replace BK606 := bgr_ BK606 hg HO637 BK606
     replace BK607 := bgr_ BK607 hg HO637 BK607
     replace BK641 := bgr_ BK641 hg HO637 BK641
     replace HB := Aside0.mk (hb)
     have HO640 := Aside0.mk (ho)
     clear HO637 ho hb hg hat
     refine hK.out _ _ ⟨bc_ BK605.out 0, bc_ BK605.out 1, bc_ BK606.out 0, bc_ BK606.out 1⟩ (fun hHeld => ?_)
     clear hK K
     refine norm_ nn_ ?_
     exact norm_ (by simp only [putAll, Act.put, List.setIfInBounds_toArray, List.set_cons_zero, List.set_cons_succ]) (hCont (v633, v636, v639, gb641) _ ⟨hHeld, kp_ HO640.out, kp_ HO_33.out, kp_ HO_6.out, kb_ BK605.out, kb_ BK606.out, kb_ BK607.out, kb_ BK641.out, GW641.out, GE641.out, NB605_641.out, NB641_605.out, NB606_641.out, NB641_606.out, NB607_641.out, NB641_607.out, bl_⟩)
   ·skip
    refine box_step rfl (N := 9) rfl (cs := #[.slice none 0 0]) (t := 27) gs_ ?_
    intro gb641 hg w74 hbox hb
    replace HO_6 := rb_ HO_6 hb
    replace HO_33 := rb_ HO_33 hb
    replace HO634 := rb_ HO634 hb
    have BK641 := Aside0.mk (hbox)
    have GW641 := Aside0.mk ((by rw [hg]; exact bz_ : w.heap.size ≤ gb641))
    have GE641 := GW641
    replace HB := Aside0.mk (below_step bl_ hb)
    have NB605_641 := nl_ hg BK605
    have NB641_605 := nm_ hg BK605
    replace BK605 := bb_ BK605 hb
    have NB606_641 := nl_ hg BK606
    have NB641_606 := nm_ hg BK606
    replace BK606 := bb_ BK606 hb
    have NB607_641 := nl_ hg BK607
    have NB641_607 := nm_ hg BK607
    replace BK607 := bb_ BK607 hb
    clear hb hbox hg
    refine hK.out _ _ ⟨bc_ BK605.out 0, bc_ BK605.out 1, bc_ BK606.out 0, bc_ BK606.out 1⟩ (fun hHeld => ?_)
    clear hK K
    refine norm_ nn_ ?_
    refine on_ 3 (some 50) (h := fun K hK => ?_)
    refine Kd.R_append_rows_step k48 (w0 := w) w.heap.size (by rfl) (.tmp 47) (.tmp 49) 27 48 (.agg #[(.string ⟨#[]⟩), (.int .i64 0), (.int .i64 0)]) 32 rfl Try.underlying27 info48 rfl (by decide) (by omega) v633 y632 l0_1 _ _ _ (fun k_ => some k_ ≠ (.slice Ao36 y622.length co36 : Value).ownBlock ∧ some k_ ≠ (.slice Ao36 y622.length co36 : Value).ownBlock) (fun _ => False) rfl rfl ?aO ?aR (fun _ _ h => h) (fun _ h => h.elim) ?aF ?aB ?aS ?aL ?_
    (case aR => exact kc_ (Kd.C_below HR0_1.out HB.out))
    (case aB => exact bl_)
    (case aF => exact (fun k_ hk => ⟨Kd.fresh' (Kd.R_lt (kr_ HO_6.out)) k_ hk, Kd.fresh' (Kd.R_lt (kr_ HO_33.out)) k_ hk⟩))
    (case aO => exact (kp_ HO634.out))
    (case aS => exact bz_)
    (case aL => have := LMc65.out; omega)
    intro v636 w75 ho hb hg hat
    rw [← Ny635.out] at ho
    replace HO_6 := Aside0.mk (Kd.R_after (ok := (fun _ => True)) (kr_ HO_6.out) hg hat)
    replace HO_33 := Aside0.mk (Kd.R_after (ok := (fun _ => True)) (kr_ HO_33.out) hg hat)
    replace BK605 := bgr_ BK605 hg HO634 BK605
    replace BK606 := bgr_ BK606 hg HO634 BK606
    replace BK607 := bgr_ BK607 hg HO634 BK607
    replace BK641 := bgr_ BK641 hg HO634 BK641
    replace HB := Aside0.mk (hb)
    have HO637 := Aside0.mk (ho)
    clear HO634 ho hb hg hat
    refine hK.out _ _ ⟨bc_ BK605.out 0, bc_ BK605.out 1, bc_ BK606.out 0, bc_ BK606.out 1⟩ (fun hHeld => ?_)
    clear hK K
    refine norm_ nn_ ?_
    refine on_ 6 (some 53) (h := fun K hK => ?_)
    refine Kd.R_append_rows_step k48 (w0 := w) w.heap.size (by rfl) (.tmp 50) (.tmp 52) 27 48 (.agg #[(.string ⟨#[]⟩), (.int .i64 0), (.int .i64 0)]) 32 rfl Try.underlying27 info48 rfl (by decide) (by omega) v636 y635 l1_1 _ _ _ (fun k_ => some k_ ≠ (.slice Ao36 y622.length co36 : Value).ownBlock ∧ some k_ ≠ (.slice Ao36 y622.length co36 : Value).ownBlock) (fun _ => False) rfl rfl ?aO ?aR (fun _ _ h => h) (fun _ h => h.elim) ?aF ?aB ?aS ?aL ?_
    (case aR => exact kc_ (Kd.C_below HR1_1.out HB.out))
    (case aB => exact bl_)
    (case aF => exact (fun k_ hk => ⟨Kd.fresh' (Kd.R_lt (kr_ HO_6.out)) k_ hk, Kd.fresh' (Kd.R_lt (kr_ HO_33.out)) k_ hk⟩))
    (case aO => exact (kr_ HO637.out))
    (case aS => exact bz_)
    (case aL => have := LMc66.out; omega)
    intro v639 w76 ho hb hg hat
    rw [← Ny638.out] at ho
    replace HO_6 := Aside0.mk (Kd.R_after (ok := (fun _ => True)) (kr_ HO_6.out) hg hat)
    replace HO_33 := Aside0.mk (Kd.R_after (ok := (fun _ => True)) (kr_ HO_33.out) hg hat)
    replace BK605 := bgr_ BK605 hg HO637 BK605
    replace BK606 := bgr_ BK606 hg HO637 BK606
    replace BK607 := bgr_ BK607 hg HO637 BK607
    replace BK641 := bgr_ BK641 hg HO637 BK641
    replace HB := Aside0.mk (hb)
    have HO640 := Aside0.mk (ho)
    clear HO637 ho hb hg hat
    refine hK.out _ _ ⟨bc_ BK605.out 0, bc_ BK605.out 1, bc_ BK606.out 0, bc_ BK606.out 1⟩ (fun hHeld => ?_)
    clear hK K
    refine norm_ nn_ ?_
    exact norm_ (by simp only [putAll, Act.put, List.setIfInBounds_toArray, List.set_cons_zero, List.set_cons_succ]) (hCont (v633, v636, v639, gb641) _ ⟨hHeld, kp_ HO640.out, kp_ HO_33.out, kp_ HO_6.out, kb_ BK605.out, kb_ BK606.out, kb_ BK607.out, kb_ BK641.out, GW641.out, GE641.out, NB605_641.out, NB641_605.out, NB606_641.out, NB641_606.out, NB607_641.out, NB641_607.out, bl_⟩)
  ·skip
   refine box_step rfl (N := 9) rfl (cs := #[.slice none 0 0]) (t := 27) gs_ ?_
   intro gb641 hg w72 hbox hb
   replace HO_6 := rb_ HO_6 hb
   replace HO_33 := rb_ HO_33 hb
   have BK641 := Aside0.mk (hbox)
   have GW641 := Aside0.mk ((by rw [hg]; exact bz_ : w.heap.size ≤ gb641))
   have GE641 := GW641
   replace HB := Aside0.mk (below_step bl_ hb)
   have NB605_641 := nl_ hg BK605
   have NB641_605 := nm_ hg BK605
   replace BK605 := bb_ BK605 hb
   have NB606_641 := nl_ hg BK606
   have NB641_606 := nm_ hg BK606
   replace BK606 := bb_ BK606 hb
   have NB607_641 := nl_ hg BK607
   have NB641_607 := nm_ hg BK607
   replace BK607 := bb_ BK607 hb
   clear hb hbox hg
   refine hK.out _ _ ⟨bc_ BK605.out 0, bc_ BK605.out 1, bc_ BK606.out 0, bc_ BK606.out 1⟩ (fun hHeld => ?_)
   clear hK K
   refine norm_ nn_ ?_
   refine on_ 0 (some 47) (h := fun K hK => ?_)
   refine Kd.R_lit_step k48 _ 48 rfl (N := 47) rfl (xs := ([] : List (S48))) (inner := []) (ok := fun _ => True) (okp := fun _ => True) gs_ ?hp (fun _ hk => hk) trivial (Below.refl _ _) (Nat.le_refl _) (by simp) ?_; (case hp => exact (Reps.none _ _))
   intro v633 w73 ho74 hb hg_ hnew_
   clear hg_ hnew_
   (first | rw [← Ny632.out] at ho74 | (simp only [Int.reduceToNat] at ho74; rw [← Ny632.out] at ho74))
   have HO634 := Aside0.mk (Kd.R_lower (rn_ (rn_ ho74 HO_6.out) HO_33.out) bz_)
   replace HO_6 := Aside0.mk (Kd.R_elder' (kr_ HO_6.out) (Kd.R_base ho74) hb)
   replace HO_33 := Aside0.mk (Kd.R_elder' (kr_ HO_33.out) (Kd.R_base ho74) hb)
   replace BK605 := bb_ BK605 hb
   replace BK606 := bb_ BK606 hb
   replace BK607 := bb_ BK607 hb
   replace BK641 := bb_ BK641 hb
   replace HB := Aside0.mk (below_step bl_ hb)
   clear hb ho74
   refine hK.out _ _ ⟨bc_ BK605.out 0, bc_ BK605.out 1, bc_ BK606.out 0, bc_ BK606.out 1⟩ (fun hHeld => ?_)
   clear hK K
   refine norm_ nn_ ?_
   refine on_ 3 (some 50) (h := fun K hK => ?_)
   refine Kd.R_append_rows_step k48 (w0 := w) w.heap.size (by rfl) (.tmp 47) (.tmp 49) 27 48 (.agg #[(.string ⟨#[]⟩), (.int .i64 0), (.int .i64 0)]) 32 rfl Try.underlying27 info48 rfl (by decide) (by omega) v633 y632 l0_1 _ _ _ (fun k_ => some k_ ≠ (.slice Ao36 y622.length co36 : Value).ownBlock ∧ some k_ ≠ (.slice Ao36 y622.length co36 : Value).ownBlock) (fun _ => False) rfl rfl ?aO ?aR (fun _ _ h => h) (fun _ h => h.elim) ?aF ?aB ?aS ?aL ?_
   (case aR => exact kc_ (Kd.C_below HR0_1.out HB.out))
   (case aB => exact bl_)
   (case aF => exact (fun k_ hk => ⟨Kd.fresh' (Kd.R_lt (kr_ HO_6.out)) k_ hk, Kd.fresh' (Kd.R_lt (kr_ HO_33.out)) k_ hk⟩))
   (case aO => exact (kp_ HO634.out))
   (case aS => exact bz_)
   (case aL => have := LMc65.out; omega)
   intro v636 w75 ho hb hg hat
   rw [← Ny635.out] at ho
   replace HO_6 := Aside0.mk (Kd.R_after (ok := (fun _ => True)) (kr_ HO_6.out) hg hat)
   replace HO_33 := Aside0.mk (Kd.R_after (ok := (fun _ => True)) (kr_ HO_33.out) hg hat)
   replace BK605 := bgr_ BK605 hg HO634 BK605
   replace BK606 := bgr_ BK606 hg HO634 BK606
   replace BK607 := bgr_ BK607 hg HO634 BK607
   replace BK641 := bgr_ BK641 hg HO634 BK641
   replace HB := Aside0.mk (hb)
   have HO637 := Aside0.mk (ho)
   clear HO634 ho hb hg hat
   refine hK.out _ _ ⟨bc_ BK605.out 0, bc_ BK605.out 1, bc_ BK606.out 0, bc_ BK606.out 1⟩ (fun hHeld => ?_)
   clear hK K
   refine norm_ nn_ ?_
   refine on_ 6 (some 53) (h := fun K hK => ?_)
   refine Kd.R_append_rows_step k48 (w0 := w) w.heap.size (by rfl) (.tmp 50) (.tmp 52) 27 48 (.agg #[(.string ⟨#[]⟩), (.int .i64 0), (.int .i64 0)]) 32 rfl Try.underlying27 info48 rfl (by decide) (by omega) v636 y635 l1_1 _ _ _ (fun k_ => some k_ ≠ (.slice Ao36 y622.length co36 : Value).ownBlock ∧ some k_ ≠ (.slice Ao36 y622.length co36 : Value).ownBlock) (fun _ => False) rfl rfl ?aO ?aR (fun _ _ h => h) (fun _ h => h.elim) ?aF ?aB ?aS ?aL ?_
   (case aR => exact kc_ (Kd.C_below HR1_1.out HB.out))
   (case aB => exact bl_)
   (case aF => exact (fun k_ hk => ⟨Kd.fresh' (Kd.R_lt (kr_ HO_6.out)) k_ hk, Kd.fresh' (Kd.R_lt (kr_ HO_33.out)) k_ hk⟩))
   (case aO => exact (kr_ HO637.out))
   (case aS => exact bz_)
   (case aL => have := LMc66.out; omega)
   intro v639 w76 ho hb hg hat
   rw [← Ny638.out] at ho
   replace HO_6 := Aside0.mk (Kd.R_after (ok := (fun _ => True)) (kr_ HO_6.out) hg hat)
   replace HO_33 := Aside0.mk (Kd.R_after (ok := (fun _ => True)) (kr_ HO_33.out) hg hat)
   replace BK605 := bgr_ BK605 hg HO637 BK605
   replace BK606 := bgr_ BK606 hg HO637 BK606
   replace BK607 := bgr_ BK607 hg HO637 BK607
   replace BK641 := bgr_ BK641 hg HO637 BK641
   replace HB := Aside0.mk (hb)
   have HO640 := Aside0.mk (ho)
   clear HO637 ho hb hg hat
   refine hK.out _ _ ⟨bc_ BK605.out 0, bc_ BK605.out 1, bc_ BK606.out 0, bc_ BK606.out 1⟩ (fun hHeld => ?_)
   clear hK K
   refine norm_ nn_ ?_
   exact norm_ (by simp only [putAll, Act.put, List.setIfInBounds_toArray, List.set_cons_zero, List.set_cons_succ]) (hCont (v633, v636, v639, gb641) _ ⟨hHeld, kp_ HO640.out, kp_ HO_33.out, kp_ HO_6.out, kb_ BK605.out, kb_ BK606.out, kb_ BK607.out, kb_ BK641.out, GW641.out, GE641.out, NB605_641.out, NB641_605.out, NB606_641.out, NB641_606.out, NB607_641.out, NB641_607.out, bl_⟩)
 rintro ⟨v633, v636, v639, gb641⟩ w77 ⟨hS_, h0_, h1_, h2_, h3_, h4_, h5_, h6_, h7_, h8_, h9_, h10_, h11_, h12_, h13_, h14_, h15_⟩
 dsimp only at h0_ h1_ h2_ h3_ h4_ h5_ h6_ h7_ h8_ h9_ h10_ h11_ h12_ h13_ h14_ h15_
 have HO640 := Aside0.mk h0_
 replace HO_33 := Aside0.mk h1_
 replace HO_6 := Aside0.mk h2_
 replace BK605 := Aside0.mk h3_
 replace BK606 := Aside0.mk h4_
 replace BK607 := Aside0.mk h5_
 have BK641 := Aside0.mk h6_
 have GW641 := Aside0.mk h7_
 have GE641 := Aside0.mk h8_
 have NB605_641 := Aside0.mk h9_
 have NB641_605 := Aside0.mk h10_
 have NB606_641 := Aside0.mk h11_
 have NB641_606 := Aside0.mk h12_
 have NB607_641 := Aside0.mk h13_
 have NB641_607 := Aside0.mk h14_
 replace HB := Aside0.mk h15_
 clear h0_ h1_ h2_ h3_ h4_ h5_ h6_ h7_ h8_ h9_ h10_ h11_ h12_ h13_ h14_ h15_
 try dsimp only at hS_
 have hHeld := hS_
 obtain ⟨AoG, coG, eoG⟩ := Kd.R_slice HO640.out
 subst eoG
 refine norm_ np_ ?_
 refine on_ 8 none (h := fun K hK => ?_)
 have hsZ : w77.cell? ⟨gb641, 0, none⟩ = some (.slice none 0 0) := bc_ BK641.out 0
 have hfsZ := blk_frozen BK641.out 0
 refine skip_ (w1 := ?_) (by rfl) rfl ?_ ?_
 rotate_left
 ·go_simp
  rfl
 refine hK.out _ _ ⟨(cell_far (p := ⟨gb641, _, none⟩) NB605_641.out _).trans hHeld.1, (cell_far (p := ⟨gb641, _, none⟩) NB605_641.out _).trans hHeld.2.1, (cell_far (p := ⟨gb641, _, none⟩) NB606_641.out _).trans hHeld.2.2.1, (cell_far (p := ⟨gb641, _, none⟩) NB606_641.out _).trans hHeld.2.2.2⟩ (fun hHeld => ?_)
 clear hK K hsZ hfsZ
 have n0_ := Aside0.mk (Kd.R_mono (Kd.R_far (p := ⟨gb641, 0, none⟩) (Kd.R_types HO640.out BK641.out (by decide)) (fun _ hk => hk.2) (.slice AoG y638.length coG)) (fun _ hk => hk.1))
 have n1_ := Aside0.mk (Kd.R_mono (Kd.R_far (p := ⟨gb641, 0, none⟩) (Kd.R_types HO_33.out BK641.out (by decide)) (fun _ hk => hk.2) (.slice AoG y638.length coG)) (fun _ hk => hk.1))
 have n2_ := Aside0.mk (Kd.R_mono (Kd.R_far (p := ⟨gb641, 0, none⟩) (Kd.R_types HO_6.out BK641.out (by decide)) (fun _ hk => hk.2) (.slice AoG y638.length coG)) (fun _ hk => hk.1))
 have n3_ := Aside0.mk (blk_far (p := ⟨gb641, 0, none⟩) BK605.out NB605_641.out (.slice AoG y638.length coG))
 have n4_ := Aside0.mk (blk_far (p := ⟨gb641, 0, none⟩) BK606.out NB606_641.out (.slice AoG y638.length coG))
 have n5_ := Aside0.mk (blk_far (p := ⟨gb641, 0, none⟩) BK607.out NB607_641.out (.slice AoG y638.length coG))
 have n6_ := Aside0.mk (show (w77.setCell ⟨gb641, 0, none⟩ (.slice AoG y638.length coG)).heap[gb641]? = some (.cells #[.slice AoG y638.length coG] 27 (0, 0)) from blk_put (cs := #[.slice none 0 0]) BK641.out 0 _ rfl)
 have n7_ := Aside0.mk (below_set (j := 0) (v := (.slice AoG y638.length coG)) HB.out GE641.out)
 clear HO640 HO_33 HO_6 BK605 BK606 BK607 BK641 HB hS_
 have HO640 := n0_
 have HO_33 := n1_
 have HO_6 := n2_
 have BK605 := n3_
 have BK606 := n4_
 have BK607 := n5_
 have BK641 := n6_
 have HB := n7_
 clear n0_ n1_ n2_ n3_ n4_ n5_ n6_ n7_
 generalize (w77.setCell ⟨gb641, 0, none⟩ (.slice AoG y638.length coG)) = w77b at HO640 HO_33 HO_6 BK605 BK606 BK607 BK641 HB hHeld ⊢
 refine done_ (done_of HT_.out (by kernel_rfl)) ?_
 try go_wp2
 replace HO_6 := Aside0.mk (Kd.R_drew HO_6.out)
 replace HO_33 := Aside0.mk (Kd.R_drew HO_33.out)
 replace HO640 := Aside0.mk (Kd.R_drew HO640.out)
 replace BK605 := Aside0.mk (blk_drew BK605.out)
 replace BK606 := Aside0.mk (blk_drew BK606.out)
 replace BK607 := Aside0.mk (blk_drew BK607.out)
 replace BK641 := Aside0.mk (blk_drew BK641.out)
 replace HB := Aside0.mk (below_drew1 HB.out)
 refine start_ (n := 10) (S := fun w' => w'.cell? ⟨gb605, 0, none⟩ = some (.slice A0_0 l0_0.length c0_0) ∧ w'.cell? ⟨gb605, 1, none⟩ = some (.slice A0_1 l0_1.length c0_1) ∧ w'.cell? ⟨gb606, 0, none⟩ = some (.slice A1_0 l1_0.length c1_0) ∧ w'.cell? ⟨gb606, 1, none⟩ = some (.slice A1_1 l1_1.length c1_1)) (ds := []) #[false, false, false, false, false, false, false, false, false, false] (by kernel_rfl) rfl rfl ⟨bc_ BK605.out 0, bc_ BK605.out 1, bc_ BK606.out 0, bc_ BK606.out 1⟩ (fun hHeld => ?_); refine with_tabW impl_MergeBag.tab11 impl_MergeBag.bits11 (fun HT_ HW_ => ?_)
 generalize w77b.drew = w78 at HO_6 HO_33 HO640 BK605 BK606 BK607 BK641 HB hHeld ⊢
 refine pu_ 1 (some 55) (h := ?_)
 refine pu_ 4 (some 58) (h := ?_)
 refine pu_ 7 (some 61) (h := ?_)
 refine tk4_ 2 (some 56) (h := ?_)
 refine tk4_ 5 (some 59) (h := ?_)
 refine on_ 0 (some 54) (h := fun K hK => ?_)
 refine Kd.R_lit_step k48 _ 48 rfl (N := 54) rfl (xs := ([] : List (S48))) (inner := []) (ok := fun _ => True) (okp := fun _ => True) gs_ ?hp (fun _ hk => hk) trivial (Below.refl _ _) (Nat.le_refl _) (by simp) ?_; (case hp => exact (Reps.none _ _))
 intro v643 w79 ho80 hb hg_ hnew_
 clear hg_ hnew_
 (first | rw [← Ny642.out] at ho80 | (simp only [Int.reduceToNat] at ho80; rw [← Ny642.out] at ho80))
 have HO644 := Aside0.mk (Kd.R_lower (rn_ (rn_ (rn_ ho80 HO_6.out) HO_33.out) HO640.out) bz_)
 replace HO_6 := Aside0.mk (Kd.R_elder' (kr_ HO_6.out) (Kd.R_base ho80) hb)
 replace HO_33 := Aside0.mk (Kd.R_elder' (kr_ HO_33.out) (Kd.R_base ho80) hb)
 replace HO640 := Aside0.mk (Kd.R_elder' (kr_ HO640.out) (Kd.R_base ho80) hb)
 replace BK605 := bb_ BK605 hb
 replace BK606 := bb_ BK606 hb
 replace BK607 := bb_ BK607 hb
 replace BK641 := bb_ BK641 hb
 replace HB := Aside0.mk (below_step bl_ hb)
 clear hb ho80
 refine hK.out _ _ ⟨bc_ BK605.out 0, bc_ BK605.out 1, bc_ BK606.out 0, bc_ BK606.out 1⟩ (fun hHeld => ?_)
 clear hK K
 refine norm_ nn_ ?_
 refine on_ 3 (some 57) (h := fun K hK => ?_)
 refine Kd.R_append_rows_step k48 (w0 := w) w.heap.size (by rfl) (.tmp 54) (.tmp 56) 27 48 (.agg #[(.string ⟨#[]⟩), (.int .i64 0), (.int .i64 0)]) 32 rfl Try.underlying27 info48 rfl (by decide) (by omega) v643 y642 l0_0 _ _ _ (fun k_ => some k_ ≠ (.slice Ao36 y622.length co36 : Value).ownBlock ∧ some k_ ≠ (.slice Ao36 y622.length co36 : Value).ownBlock ∧ some k_ ≠ (.slice AoG y638.length coG : Value).ownBlock) (fun _ => False) rfl rfl ?aO ?aR (fun _ _ h => h) (fun _ h => h.elim) ?aF ?aB ?aS ?aL ?_
 (case aR => exact kc_ (Kd.C_below HR0_0.out HB.out))
 (case aB => exact bl_)
 (case aF => exact (fun k_ hk => ⟨Kd.fresh' (Kd.R_lt (kr_ HO_6.out)) k_ hk, Kd.fresh' (Kd.R_lt (kr_ HO_33.out)) k_ hk, Kd.fresh' (Kd.R_lt (kr_ HO640.out)) k_ hk⟩))
 (case aO => exact (kp_ HO644.out))
 (case aS => exact bz_)
 (case aL => have := LMc67.out; omega)
 intro v646 w81 ho hb hg hat
 rw [← Ny645.out] at ho
 replace HO_6 := Aside0.mk (Kd.R_after (ok := (fun k_ => some k_ ≠ (.slice AoG y638.length coG : Value).ownBlock)) (kr_ HO_6.out) hg hat)
 replace HO_33 := Aside0.mk (Kd.R_after (ok := (fun k_ => some k_ ≠ (.slice AoG y638.length coG : Value).ownBlock)) (kr_ HO_33.out) hg hat)
 replace BK605 := bgr_ BK605 hg HO644 BK605
 replace BK606 := bgr_ BK606 hg HO644 BK606
 replace BK607 := bgr_ BK607 hg HO644 BK607
 replace HO640 := Aside0.mk (Kd.R_after (ok := (fun k_ => some k_ ≠ (.slice Ao36 y622.length co36 : Value).ownBlock ∧ some k_ ≠ (.slice Ao36 y622.length co36 : Value).ownBlock)) (kp_ HO640.out) hg hat)
 replace BK641 := bgr_ BK641 hg HO644 BK641
 replace HB := Aside0.mk (hb)
 have HO647 := Aside0.mk (ho)
 clear HO644 ho hb hg hat
 refine hK.out _ _ ⟨bc_ BK605.out 0, bc_ BK605.out 1, bc_ BK606.out 0, bc_ BK606.out 1⟩ (fun hHeld => ?_)
 clear hK K
 refine norm_ nn_ ?_
 refine on_ 6 (some 60) (h := fun K hK => ?_)
 refine Kd.R_append_rows_step k48 (w0 := w) w.heap.size (by rfl) (.tmp 57) (.tmp 59) 27 48 (.agg #[(.string ⟨#[]⟩), (.int .i64 0), (.int .i64 0)]) 32 rfl Try.underlying27 info48 rfl (by decide) (by omega) v646 y645 l1_0 _ _ _ (fun k_ => some k_ ≠ (.slice Ao36 y622.length co36 : Value).ownBlock ∧ some k_ ≠ (.slice Ao36 y622.length co36 : Value).ownBlock ∧ some k_ ≠ (.slice AoG y638.length coG : Value).ownBlock) (fun _ => False) rfl rfl ?aO ?aR (fun _ _ h => h) (fun _ h => h.elim) ?aF ?aB ?aS ?aL ?_
 (case aR => exact kc_ (Kd.C_below HR1_0.out HB.out))
 (case aB => exact bl_)
 (case aF => exact (fun k_ hk => ⟨Kd.fresh' (Kd.R_lt (kr_ HO_6.out)) k_ hk, Kd.fresh' (Kd.R_lt (kr_ HO_33.out)) k_ hk, Kd.fresh' (Kd.R_lt (kr_ HO640.out)) k_ hk⟩))
 (case aO => exact (kr_ HO647.out))
 (case aS => exact bz_)
 (case aL => have := LMc68.out; omega)
 intro v649 w82 ho hb hg hat
 rw [← Ny648.out] at ho
 replace HO_6 := Aside0.mk (Kd.R_after (ok := (fun k_ => some k_ ≠ (.slice AoG y638.length coG : Value).ownBlock)) (kr_ HO_6.out) hg hat)
 replace HO_33 := Aside0.mk (Kd.R_after (ok := (fun k_ => some k_ ≠ (.slice AoG y638.length coG : Value).ownBlock)) (kr_ HO_33.out) hg hat)
 replace BK605 := bgr_ BK605 hg HO647 BK605
 replace BK606 := bgr_ BK606 hg HO647 BK606
 replace BK607 := bgr_ BK607 hg HO647 BK607
 replace HO640 := Aside0.mk (Kd.R_after (ok := (fun k_ => some k_ ≠ (.slice Ao36 y622.length co36 : Value).ownBlock ∧ some k_ ≠ (.slice Ao36 y622.length co36 : Value).ownBlock)) (kr_ HO640.out) hg hat)
 replace BK641 := bgr_ BK641 hg HO647 BK641
 replace HB := Aside0.mk (hb)
 have HO650 := Aside0.mk (ho)
 clear HO647 ho hb hg hat
 obtain ⟨Ao83, co83, eo83⟩ := Kd.R_slice HO650.out
 (first | subst eo83 | (injection eo83 with f1_ f2_ f3_; have f4_ := f1_.symm; have f5_ := f3_.symm; clear f1_ f2_ f3_; subst f4_; subst f5_))
 refine hK.out _ _ ⟨bc_ BK605.out 0, bc_ BK605.out 1, bc_ BK606.out 0, bc_ BK606.out 1⟩ (fun hHeld => ?_)
 clear hK K
 refine norm_ nn_ ?_
 refine on_ 8 (some 62) (h := fun K hK => ?_)
 refine goes_ Try.func41 (by kernel_rfl) rfl #[.slice Ao83 y648.length co83, .func (.func 42) #[] #[.pointer (some ⟨gb641, 0, none⟩)]] (by rfl) rfl rfl nc_ ?_
 with_reducible refine (impl_Add_41.calls k2 (fun k_ => some k_ = (.slice Ao83 y648.length co83 : Value).ownBlock) (.slice Ao83 y648.length co83) y648 AoG coG y638 t651 w _ ?side1 ?side2 A69.out (fun W_ hk__ => Kd.C_kept_own HO640.out (fun k_ hk_ hs_ => absurd hs_ hk_.2) W_ hk__) (Kd.R_reads' HO640.out).2.1 (fun W_ hk__ => blk_kept BK641.out hk__ (fun hs_ => absurd hs_ (Kd.R_ne HO650.out BK641.out (by decide))))).mono ?_
 (case side1 => repeat (first | (with_reducible first | exact HB.out | apply below_alloc | apply pw_below_drewN | apply below_drew1 | refine below_set ?_ GE605.out | refine below_set ?_ GE606.out | refine below_set ?_ GE607.out | refine below_set ?_ GE641.out) | exact HB.out))
 (case side2 => exact Kd.R_tight rfl HO650.out)
 rintro e w84 ⟨v652, rfl, ho0, hb, hkp⟩
 refine ⟨_, rfl, ?_⟩
 replace BK605 := Aside0.mk (blk_kept (kb_ BK605.out) hkp (fun hs_ => (fun e_ => (Kd.R_ne HO650.out BK605.out (by decide)) e_) hs_))
 replace BK606 := Aside0.mk (blk_kept (kb_ BK606.out) hkp (fun hs_ => (fun e_ => (Kd.R_ne HO650.out BK606.out (by decide)) e_) hs_))
 replace BK607 := Aside0.mk (blk_kept (kb_ BK607.out) hkp (fun hs_ => (fun e_ => (Kd.R_ne HO650.out BK607.out (by decide)) e_) hs_))
 replace BK641 := Aside0.mk (blk_kept (kb_ BK641.out) hkp (fun hs_ => (fun e_ => (Kd.R_ne HO650.out BK641.out (by decide)) e_) hs_))
 have HO653 := Aside0.mk (Kd.R_mono (ok' := fun k_ => some k_ ≠ (.slice Ao36 y622.length co36 : Value).ownBlock ∧ some k_ ≠ (.slice Ao36 y622.length co36 : Value).ownBlock ∧ some k_ ≠ (.slice AoG y638.length coG : Value).ownBlock) ho0 (fun k_ hk_ => ⟨Or.elim hk_ (fun hs_ => fun e_ => (((HO_6.out).1 k_ e_.symm).2) hs_) (fun hn_ => (Kd.fresh' (Kd.R_lt (kr_ HO_6.out)) k_ hn_)), Or.elim hk_ (fun hs_ => fun e_ => (((HO_33.out).1 k_ e_.symm).2) hs_) (fun hn_ => (Kd.fresh' (Kd.R_lt (kr_ HO_33.out)) k_ hn_)), Or.elim hk_ (fun hs_ => fun e_ => (((HO640.out).1 k_ e_.symm).2) hs_) (fun hn_ => (Kd.fresh' (Kd.R_lt (kr_ HO640.out)) k_ hn_))⟩))
 replace HO_6 := Aside0.mk (Kd.R_mono (ok' := fun k_ => some k_ ≠ (.slice AoG y638.length coG : Value).ownBlock ∧ some k_ ≠ (v652 : Value).ownBlock) (Kd.R_keptB (HO_6.out) hkp (fun k_ hk_ hs_ => (hk_.2) hs_)) (fun k_ hk_ => ⟨hk_.1.1, fun e_ => Or.elim (ho0.1 k_ e_.symm) (fun hs_ => hk_.2.1 hs_) (fun hn_ => Nat.not_le.2 hk_.2.2 hn_)⟩))
 replace HO_33 := Aside0.mk (Kd.R_mono (ok' := fun k_ => some k_ ≠ (.slice AoG y638.length coG : Value).ownBlock ∧ some k_ ≠ (v652 : Value).ownBlock) (Kd.R_keptB (HO_33.out) hkp (fun k_ hk_ hs_ => (hk_.2) hs_)) (fun k_ hk_ => ⟨hk_.1.1, fun e_ => Or.elim (ho0.1 k_ e_.symm) (fun hs_ => hk_.2.1 hs_) (fun hn_ => Nat.not_le.2 hk_.2.2 hn_)⟩))
 replace HO640 := Aside0.mk (Kd.R_mono (ok' := fun k_ => some k_ ≠ (.slice Ao36 y622.length co36 : Value).ownBlock ∧ some k_ ≠ (.slice Ao36 y622.length co36 : Value).ownBlock ∧ some k_ ≠ (v652 : Value).ownBlock) (Kd.R_keptB (HO640.out) hkp (fun k_ hk_ hs_ => (hk_.2) hs_)) (fun k_ hk_ => ⟨hk_.1.1.1, hk_.1.1.2, fun e_ => Or.elim (ho0.1 k_ e_.symm) (fun hs_ => hk_.2.1 hs_) (fun hn_ => Nat.not_le.2 hk_.2.2 hn_)⟩))
 replace HB := Aside0.mk (hb)
 clear HO650 hb ho0
 refine hK.out _ _ ⟨bc_ BK605.out 0, bc_ BK605.out 1, bc_ BK606.out 0, bc_ BK606.out 1⟩ (fun hHeld => ?_)
 clear hK K
 refine norm_ nn_ ?_
 refine pu_ 9 (some 10) (h := ?_)
 refine done_ (done_of HT_.out (by kernel_rfl)) ?_
 obtain ⟨Ao85, co85, eo85⟩ := Kd.R_slice HO653.out
 subst eo85
 have hczG_0 : w84.cell? ⟨gb641, 0, none⟩ = some (.slice AoG y638.length coG) := bc_ BK641.out 0
 have hfzG_0 := blk_frozen BK641.out 0
 try go_wp2_with (first | ((with_reducible refine gate_callee (f := 33) rfl ?_); refine goesL_ (some 65) rfl rfl Try.func33 (by kernel_rfl) rfl #[.slice Ao85 t651.length co85, .slice AoG y638.length coG] rfl nc_ ?_; (with_reducible refine (impl_goodBag.calls k2 _ _ t651 _ _ y638 t654 t657 t660 _ ?side1 ?side2 ?side3 ?side4 A70.out).mono ?_); (case side1 => exact kc_ (Kd.R_reads' HO653.out).2.2); (case side2 => exact (Kd.R_reads' HO653.out).2.1); (case side3 => exact kc_ (Kd.R_reads' HO640.out).2.2); (case side4 => exact (Kd.R_reads' HO640.out).2.1); rintro e w87 ⟨v655, v658, rfl, ho0, ho1, hb⟩; refine ⟨_, rfl, ?_⟩; have HO656 := Aside0.mk (Kd.R_lower (rn_ (rn_ (rn_ (rn_ ho0 HO_6.out) HO_33.out) HO640.out) HO653.out) bz_); have HO659 := Aside0.mk (Kd.R_lower (rn_ (rn_ (rn_ (rn_ ho1 HO_6.out) HO_33.out) HO640.out) HO653.out) bz_); replace HO_6 := rp2_ HO_6 hb ho0 ho1; replace HO_33 := rp2_ HO_33 hb ho0 ho1; replace HO640 := rp2_ HO640 hb ho0 ho1; replace HO653 := rp2_ HO653 hb ho0 ho1; replace BK605 := bb_ BK605 hb; replace BK606 := bb_ BK606 hb; replace BK607 := bb_ BK607 hb; replace BK641 := bb_ BK641 hb; replace HB := Aside0.mk (below_step bl_ hb); clear hb ho0 ho1; obtain ⟨Ao88, co88, eo88⟩ := Kd.R_slice HO656.out; subst eo88; have hnb89 := NB607_605.out; have hnc89 := NB605_607.out; have hnb90 := NB607_606.out; have hnc90 := NB606_607.out; have hnb91 := NB607_641.out; have hnc91 := NB641_607.out; have hcz92_0 : w87.cell? ⟨gb607, 0, none⟩ = some (.slice none 0 0) := bc_ BK607.out 0; have hcz92_1 : w87.cell? ⟨gb607, 1, none⟩ = some (.slice none 0 0) := bc_ BK607.out 1; have hfz92_0 := blk_frozen BK607.out 0; have hfz92_1 := blk_frozen BK607.out 1; obtain ⟨Ao93, co93, eo93⟩ := Kd.R_slice HO659.out; subst eo93))
 refine bodyPost_ret (results_ct rfl _ _ gb607 29 #[.slice Ao88 t654.length co88, .slice Ao93 t657.length co93] (0, 0) _ rfl (by (with_reducible repeat (first | refine blk_drewN ?_ _ | refine blk_drew ?_ | refine blk_alloc ?_ _)); refine blk_put (cs := #[.slice Ao88 t654.length co88, .slice none 0 0]) ?_ 1 _ rfl; (with_reducible repeat (first | refine blk_drewN ?_ _ | refine blk_drew ?_ | refine blk_alloc ?_ _)); refine blk_put (cs := #[.slice none 0 0, .slice none 0 0]) ?_ 0 _ rfl; exact kb_ BK607.out) Try.underlying29 rfl (by kernel_rfl)) rfl ?_
 exact ⟨_, _, ng_, by exact kr_ (Kd.R_mono (Kd.R_far (p := ⟨gb607, 1, none⟩) (Kd.R_far (p := ⟨gb607, 0, none⟩) (Kd.R_types HO656.out BK607.out (by decide)) (fun _ hk => hk.2) (.slice Ao88 t654.length co88)) (fun _ hk => hk.2) (.slice Ao93 t657.length co93)) (fun _ hk => hk.1.1.1.1.1)), by exact kr_ (Kd.R_mono (Kd.R_far (p := ⟨gb607, 1, none⟩) (Kd.R_far (p := ⟨gb607, 0, none⟩) (Kd.R_types HO659.out BK607.out (by decide)) (fun _ hk => hk.2) (.slice Ao88 t654.length co88)) (fun _ hk => hk.2) (.slice Ao93 t657.length co93)) (fun _ hk => hk.1.1.1.1.1)), bl_⟩

end Go.Proofs.Ytdnapgnnliibfaa.PMB
