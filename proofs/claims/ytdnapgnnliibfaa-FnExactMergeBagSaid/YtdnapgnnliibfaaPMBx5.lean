/- What this text proves: the machine calls of these functions return what the plain functions say. Conditions: as each theorem says. Printed by a program of this session out of the translation. -/
import Derived.Test.YtdnapgnnliibfaaPMBx0
import Derived.Test.YtdnapgnnliibfaaPMBx3
import Derived.Test.YtdnapgnnliibfaaPMBx4
namespace Go.Proofs.Ytdnapgnnliibfaa.PMB
open Go.RowKit Go.Proofs.YtdnapgnnliibfaaW.PrintWords Go.Proofs.YtdnapgnnliibfaaW.PrintLast Go.Proofs.YtdnapgnnliibfaaW.PrintMore
attribute [local go_sem] max2_int min2_int max_two min_two max_three min_three max_four min_four   -- for this text's walks alone
set_option linter.unusedVariables false
set_option linter.unusedSimpArgs false

/-! ### spec_GoodBag: function 9 -/
mutual
def spec_GoodBag.l0 : Nat → List (S48) → Int → Int → List (S48) → List (S48) → Option (Bool)
 | 0, _, _, _, _, _ => none
 | k + 1, x8, x9, x10, x160000, x160001 => if x10 < x9 then (if 0 ≤ x10 then (if x10 < (x8.length : Int) then (spec_GoodBag.l1 k x8 x9 x10 x160001 (x160001.length : Int) 0 x160000 x160001 ((rd_T48 x8 x10).f0) ((rd_T48 x8 x10).f1) ((rd_T48 x8 x10).f2)) else (none)) else (none)) else ((spec_l14Adds.f k x160000).bind fun t160 => (if t160 = true then ((spec_l14Adds.f k x160001).bind fun t161 => (some t161)) else (some false)))
def spec_GoodBag.l1 : Nat → List (S48) → Int → Int → List (S48) → Int → Int → List (S48) → List (S48) → ByteArray → Int → Int → Option (Bool)
 | 0, _, _, _, _, _, _, _, _, _, _, _ => none
 | k + 1, x8, x9, x10, x15, x16, x17, x160000, x160001, x164000, x164001, x164002 => if x17 < x16 then (if 0 ≤ x17 then (if x17 < (x15.length : Int) then ((spec_l14Same.f x164000 x164001 x164002 ((rd_T48 x15 x17).f0) ((rd_T48 x15 x17).f1) ((rd_T48 x15 x17).f2)).bind fun t166 => (if t166 = true then (some false) else (spec_GoodBag.l1 k x8 x9 x10 x15 x16 (wrap64 (x17 + 1)) x160000 x160001 x164000 x164001 x164002))) else (none)) else (none)) else (spec_GoodBag.l0 k x8 x9 (wrap64 (x10 + 1)) x160000 x160001)
end
def spec_GoodBag.f (k : Nat) (l0_0 : List (S48)) (l0_1 : List (S48)) : Option (Bool) := spec_GoodBag.l0 k l0_0 (l0_0.length : Int) 0 l0_0 l0_1
theorem spec_GoodBag.mono_l : ∀ k, (∀ y0 y1 y2 y3 y4, LeO (spec_GoodBag.l0 k y0 y1 y2 y3 y4) (spec_GoodBag.l0 (k + 1) y0 y1 y2 y3 y4)) ∧ (∀ y0 y1 y2 y3 y4 y5 y6 y7 y8 y9 y10, LeO (spec_GoodBag.l1 k y0 y1 y2 y3 y4 y5 y6 y7 y8 y9 y10) (spec_GoodBag.l1 (k + 1) y0 y1 y2 y3 y4 y5 y6 y7 y8 y9 y10))
 | 0 => ⟨fun _ _ _ _ _ r h => by simp [spec_GoodBag.l0] at h, fun _ _ _ _ _ _ _ _ _ _ _ r h => by simp [spec_GoodBag.l1] at h⟩
 | k + 1 => by
  obtain ⟨ih0, ih1⟩ := spec_GoodBag.mono_l k
  refine ⟨?_, ?_⟩
  ·intro y0 y1 y2 y3 y4
   unfold spec_GoodBag.l0
   repeat' first
   | (with_reducible exact ih0 _ _ _ _ _)
   | (with_reducible exact ih1 _ _ _ _ _ _ _ _ _ _ _)
   | (with_reducible exact spec_l14Adds.mono _ _)
   | (with_reducible exact LeO.refl _)
   | (with_reducible exact LeO.none _)
   | (with_reducible refine LeO.ite ?_ ?_)
   | (with_reducible refine LeO.bind ?_ (fun _ => ?_))
   | exact ih0 _ _ _ _ _
   | exact ih1 _ _ _ _ _ _ _ _ _ _ _
   | exact spec_l14Adds.mono _ _
   | exact LeO.none _
   | refine LeO.ite ?_ ?_
   | refine LeO.bind ?_ (fun _ => ?_)
  ·intro y0 y1 y2 y3 y4 y5 y6 y7 y8 y9 y10
   unfold spec_GoodBag.l1
   repeat' first
   | (with_reducible exact ih0 _ _ _ _ _)
   | (with_reducible exact ih1 _ _ _ _ _ _ _ _ _ _ _)
   | (with_reducible exact spec_l14Adds.mono _ _)
   | (with_reducible exact LeO.refl _)
   | (with_reducible exact LeO.none _)
   | (with_reducible refine LeO.ite ?_ ?_)
   | (with_reducible refine LeO.bind ?_ (fun _ => ?_))
   | exact ih0 _ _ _ _ _
   | exact ih1 _ _ _ _ _ _ _ _ _ _ _
   | exact spec_l14Adds.mono _ _
   | exact LeO.none _
   | refine LeO.ite ?_ ?_
   | refine LeO.bind ?_ (fun _ => ?_)
theorem spec_GoodBag.mono : ∀ a0 a1 k, LeO (spec_GoodBag.f k a0 a1) (spec_GoodBag.f (k + 1) a0 a1) := by
 intro a0 a1 k
 obtain ⟨ih0, ih1⟩ := spec_GoodBag.mono_l k
 unfold spec_GoodBag.f
 repeat' first
   | (with_reducible exact ih0 _ _ _ _ _)
   | (with_reducible exact ih1 _ _ _ _ _ _ _ _ _ _ _)
   | (with_reducible exact spec_l14Adds.mono _ _)
   | (with_reducible exact LeO.refl _)
   | (with_reducible exact LeO.none _)
   | (with_reducible refine LeO.ite ?_ ?_)
   | (with_reducible refine LeO.bind ?_ (fun _ => ?_))
   | exact ih0 _ _ _ _ _
   | exact ih1 _ _ _ _ _ _ _ _ _ _ _
   | exact spec_l14Adds.mono _ _
   | exact LeO.none _
   | refine LeO.ite ?_ ?_
   | refine LeO.bind ?_ (fun _ => ?_)
set_option maxHeartbeats 8000000 in
set_option maxRecDepth 100000 in
theorem spec_GoodBag.calls (k : Nat) (A0_0 : Option Addr) (c0_0 : Nat) (l0_0 : List (S48)) (A0_1 : Option Addr) (c0_1 : Nat) (l0_1 : List (S48)) (r : Bool) (w : World) (hr0_0 : Kd.C k48 w A0_0 l0_0.length l0_0) (hc0_0 : l0_0.length ≤ c0_0) (hr0_1 : Kd.C k48 w A0_1 l0_1.length l0_1) (hc0_1 : l0_1.length ≤ c0_1) (h : spec_GoodBag.f k l0_0 l0_1 = some r) :
  Calls Try.prog 9 #[.agg #[.slice A0_0 l0_0.length c0_0, .slice A0_1 l0_1.length c0_1]] w fun e w' => e = .returned (.bool r) ∧ Below w.heap.size w w' := by
 have hu29 := Try.underlying29
 have hu48 := Try.underlying48
 have HR0_0 := Aside0.mk hr0_0
 have HC0_0 := Aside0.mk hc0_0
 clear hr0_0 hc0_0
 have HR0_1 := Aside0.mk hr0_1
 have HC0_1 := Aside0.mk hc0_1
 clear hr0_1 hc0_1
 have HB := Aside0.mk (Below.refl w.heap.size w)
 have H : (spec_GoodBag.l0 k l0_0 (l0_0.length : Int) 0 l0_0 l0_1) = some r := h
 clear h
 have H' := Aside0.mk H
 clear H
 go_enter Try.func9, Try.ntmps9
 go_wp2_with (first | ((with_reducible refine gate_dst (N := 1) rfl ?_); refine box_event rfl (N := 1) rfl (cs := #[.slice A0_0 l0_0.length c0_0, .slice A0_1 l0_1.length c0_1]) (t := 29) gs_ ?_; intro gb159 hg w2 hbox hb; have BK159 := Aside0.mk (hbox); have GW159 := Aside0.mk ((by rw [hg]; exact bz_ : w.heap.size ≤ gb159)); have GE159 := GW159; replace HB := Aside0.mk (below_step bl_ hb); clear hb hbox hg; have hcz3_0 : w2.cell? ⟨gb159, 0, none⟩ = some (.slice A0_0 l0_0.length c0_0) := bc_ BK159.out 0; have hcz3_1 : w2.cell? ⟨gb159, 1, none⟩ = some (.slice A0_1 l0_1.length c0_1) := bc_ BK159.out 1; have hfz3_0 := blk_frozen BK159.out 0; have hfz3_1 := blk_frozen BK159.out 1))
 go_loopg [10] k (fun kq v10 w' => ∃ (x10_1 : Int), v10 = .int .i64 x10_1 ∧ Aside0 (spec_GoodBag.l0 kq l0_0 (l0_0.length : Int) x10_1 l0_0 l0_1 = some r) ∧ Aside0 (kq ≤ k) ∧ Aside0 (w'.heap[gb159]? = some (.cells #[(.slice A0_0 l0_0.length c0_0), (.slice A0_1 l0_1.length c0_1)] 29 (0, 0))) ∧ Aside0 (Below w.heap.size w w'))
 case atStart => exact ⟨(0), (by first | rfl | (simp; done) | (simp [*]; done)), H', ⟨Nat.le_refl _⟩, ⟨by exact kb_ BK159.out⟩, ⟨bl_⟩⟩
 clear H'
 try clear p2
 try clear hcz3_0
 try clear hcz3_1
 try clear hfz3_0
 try clear hfz3_1
 obtain ⟨x10_1, rfl, HA, HK1, BK159, HB⟩ := hrel
 cases gk with
 | zero => exact absurd HA.out (by simp [spec_GoodBag.l0])
 | succ k1 => ?_
 have H := HA.out
 clear HA
 simp only [spec_GoodBag.l0] at H
 by_cases c4 : x10_1 < (l0_0.length : Int)
 rotate_left
 ·rw [if_neg c4] at H
  have c4b0 : decide (x10_1 < (l0_0.length : Int)) = false := decide_eq_false c4
  clear c4
  replace H := Option.bind_eq_some_iff.mp H
  obtain ⟨t160, A300, H⟩ := H
  replace H : (if t160 = true then ((spec_l14Adds.f k1 l0_1).bind fun t161 => (some t161)) else (some false)) = some r := H
  have A30 := Aside0.mk A300
  clear A300
  by_cases c31 : t160 = true
  rotate_left
  ·replace c31 := Bool.eq_false_iff.mpr c31
   subst c31
   have H1 : (some false) = some r := by rw [if_neg (show ¬ (false = true) by decide)] at H; exact H
   clear H
   have H := H1
   clear H1
   obtain rfl := Option.some.inj H
   have hcz37_0 : wr.cell? ⟨gb159, 0, none⟩ = some (.slice A0_0 l0_0.length c0_0) := bc_ BK159.out 0
   have hcz37_1 : wr.cell? ⟨gb159, 1, none⟩ = some (.slice A0_1 l0_1.length c0_1) := bc_ BK159.out 1
   have hfz37_0 := blk_frozen BK159.out 0
   have hfz37_1 := blk_frozen BK159.out 1
   go_wp2_with (first | ((with_reducible refine gate_callee (f := 28) rfl ?_); refine goesL_ (some 28) rfl rfl Try.func28 (by kernel_rfl) rfl #[.slice A0_0 l0_0.length c0_0] rfl nc_ ?_; (with_reducible refine (spec_l14Adds.calls k1 _ _ l0_0 false _ ?side1 ?side2 A30.out).mono ?_); (case side1 => exact kc_ (Kd.C_below HR0_0.out HB.out)); (case side2 => exact HC0_0.out); rintro e w38 ⟨rfl, hb⟩; refine ⟨_, rfl, ?_⟩; replace BK159 := bb_ BK159 hb; replace HB := Aside0.mk (below_step bl_ hb); clear hb))
   go_ret
   exact ⟨ng_, bl_⟩
  subst c31
  have H1 : ((spec_l14Adds.f k1 l0_1).bind fun t161 => (some t161)) = some r := by rw [if_pos rfl] at H; exact H
  clear H
  have H := H1
  clear H1
  replace H := Option.bind_eq_some_iff.mp H
  obtain ⟨t161, A320, H⟩ := H
  replace H : (some t161) = some r := H
  have A32 := Aside0.mk A320
  clear A320
  obtain rfl := Option.some.inj H
  have hcz33_0 : wr.cell? ⟨gb159, 0, none⟩ = some (.slice A0_0 l0_0.length c0_0) := bc_ BK159.out 0
  have hcz33_1 : wr.cell? ⟨gb159, 1, none⟩ = some (.slice A0_1 l0_1.length c0_1) := bc_ BK159.out 1
  have hfz33_0 := blk_frozen BK159.out 0
  have hfz33_1 := blk_frozen BK159.out 1
  go_wp2_with (first | ((with_reducible refine gate_callee (f := 28) rfl ?_); refine goesL_ (some 28) rfl rfl Try.func28 (by kernel_rfl) rfl #[.slice A0_0 l0_0.length c0_0] rfl nc_ ?_; (with_reducible refine (spec_l14Adds.calls k1 _ _ l0_0 true _ ?side1 ?side2 A30.out).mono ?_); (case side1 => exact kc_ (Kd.C_below HR0_0.out HB.out)); (case side2 => exact HC0_0.out); rintro e w34 ⟨rfl, hb⟩; refine ⟨_, rfl, ?_⟩; replace BK159 := bb_ BK159 hb; replace HB := Aside0.mk (below_step bl_ hb); clear hb; have hcz35_0 : w34.cell? ⟨gb159, 0, none⟩ = some (.slice A0_0 l0_0.length c0_0) := bc_ BK159.out 0; have hcz35_1 : w34.cell? ⟨gb159, 1, none⟩ = some (.slice A0_1 l0_1.length c0_1) := bc_ BK159.out 1; have hfz35_0 := blk_frozen BK159.out 0; have hfz35_1 := blk_frozen BK159.out 1) | (go_at_call 28; (with_reducible refine (spec_l14Adds.calls k1 _ _ l0_1 t161 _ ?side1 ?side2 A32.out).mono ?_); (case side1 => exact kc_ (Kd.C_below HR0_1.out HB.out)); (case side2 => exact HC0_1.out); rintro e w36 ⟨rfl, hb⟩; replace BK159 := bb_ BK159 hb; replace HB := Aside0.mk (below_step bl_ hb); clear hb))
  go_ret
  exact ⟨ng_, bl_⟩
 rw [if_pos c4] at H
 have c4b0 : decide (x10_1 < (l0_0.length : Int)) = true := decide_eq_true c4
 clear c4
 by_cases c5 : 0 ≤ x10_1
 rotate_left
 ·rw [if_neg c5] at H
  exact absurd H (by simp)
 rw [if_pos c5] at H
 have c5b0 : decide (0 ≤ x10_1) = true := decide_eq_true c5
 clear c5
 by_cases c6 : x10_1 < (l0_0.length : Int)
 rotate_left
 ·rw [if_neg c6] at H
  exact absurd H (by simp)
 rw [if_pos c6] at H
 have c6b0 : decide (x10_1 < (l0_0.length : Int)) = true := decide_eq_true c6
 clear c6
 have H' := Aside0.mk H
 clear H
 have p162 : 0 ≤ (x10_1 : Int) := of_decide_eq_true (by first | (with_reducible assumption) | assumption)
 have q162 : x10_1 < (l0_0.length : Int) := of_decide_eq_true (by first | (with_reducible assumption) | assumption)
 obtain ⟨ad162, e162, hx162_0, hx162_1, hx162_2⟩ := at_T48 HR0_0.out x10_1 p162 q162
 cases e162
 replace hx162_0 := (HB.out.cell (World.block_lt_of_cell? w _ hx162_0)).trans hx162_0
 replace hx162_1 := (HB.out.cell (World.block_lt_of_cell? w _ hx162_1)).trans hx162_1
 replace hx162_2 := (HB.out.cell (World.block_lt_of_cell? w _ hx162_2)).trans hx162_2
 replace p162 := eq_true p162
 replace q162 := eq_true q162
 go_wp2_with (first | ((with_reducible refine gate_dst (N := 4) rfl ?_); refine box_event rfl (N := 4) rfl (cs := #[.string (⟨#[]⟩ : ByteArray), .int .i64 0, .int .i64 0]) (t := 48) gs_ ?_; intro gb163 hg w7 hbox hb; have BK163 := Aside0.mk (hbox); have GW163 := Aside0.mk ((by rw [hg]; exact bz_ : w.heap.size ≤ gb163)); have GE163 := GW163; replace HB := Aside0.mk (below_step bl_ hb); have NB159_163 := nl_ hg BK159; have NB163_159 := nm_ hg BK159; replace BK159 := bb_ BK159 hb; clear hb hbox hg; have hnb8 := NB163_159.out; have hnc8 := NB159_163.out; have hcz9_0 : w7.cell? ⟨gb163, 0, none⟩ = some (.string (⟨#[]⟩ : ByteArray)) := bc_ BK163.out 0; have hcz9_1 : w7.cell? ⟨gb163, 1, none⟩ = some (.int .i64 0) := bc_ BK163.out 1; have hcz9_2 : w7.cell? ⟨gb163, 2, none⟩ = some (.int .i64 0) := bc_ BK163.out 2; have hfz9_0 := blk_frozen BK163.out 0; have hfz9_1 := blk_frozen BK163.out 1; have hfz9_2 := blk_frozen BK163.out 2; have hcz10_0 : w7.cell? ⟨gb159, 0, none⟩ = some (.slice (some ad162) l0_0.length c0_0) := bc_ BK159.out 0; have hcz10_1 : w7.cell? ⟨gb159, 1, none⟩ = some (.slice A0_1 l0_1.length c0_1) := bc_ BK159.out 1; have hfz10_0 := blk_frozen BK159.out 0; have hfz10_1 := blk_frozen BK159.out 1))
 go_loopg [17] k1 (fun kq v17 w' => ∃ (x17_2 : Int), v17 = .int .i64 x17_2 ∧ Aside0 (spec_GoodBag.l1 kq l0_0 (l0_0.length : Int) x10_1 l0_1 (l0_1.length : Int) x17_2 l0_0 l0_1 ((rd_T48 l0_0 x10_1).f0) ((rd_T48 l0_0 x10_1).f1) ((rd_T48 l0_0 x10_1).f2) = some r) ∧ Aside0 (kq ≤ k1) ∧ Aside0 (w'.heap[gb159]? = some (.cells #[(.slice (some ad162) l0_0.length c0_0), (.slice A0_1 l0_1.length c0_1)] 29 (0, 0))) ∧ Aside0 (w'.heap[gb163]? = some (.cells #[.string ((rd_T48 l0_0 x10_1).f0), .int .i64 ((rd_T48 l0_0 x10_1).f1), .int .i64 ((rd_T48 l0_0 x10_1).f2)] 48 (0, 0))) ∧ Aside0 (Below w.heap.size w w'))
 case atStart => exact ⟨(0), (by first | rfl | (simp; done) | (simp [*]; done)), H', ⟨Nat.le_refl _⟩, ⟨kz_⟩, ⟨by (with_reducible repeat (first | refine blk_drewN ?_ _ | refine blk_drew ?_ | refine blk_alloc ?_ _)); refine blk_put (cs := #[.string ((rd_T48 l0_0 x10_1).f0), .int .i64 ((rd_T48 l0_0 x10_1).f1), .int .i64 0]) ?_ 2 _ rfl; (with_reducible repeat (first | refine blk_drewN ?_ _ | refine blk_drew ?_ | refine blk_alloc ?_ _)); refine blk_put (cs := #[.string ((rd_T48 l0_0 x10_1).f0), .int .i64 0, .int .i64 0]) ?_ 1 _ rfl; (with_reducible repeat (first | refine blk_drewN ?_ _ | refine blk_drew ?_ | refine blk_alloc ?_ _)); refine blk_put (cs := #[.string (⟨#[]⟩ : ByteArray), .int .i64 0, .int .i64 0]) ?_ 0 _ rfl; exact kb_ BK163.out⟩, ⟨bl_⟩⟩
 clear H'
 try clear p1
 try clear q1
 try clear hx1
 try clear p2
 try clear c4
 try clear c4b0
 try clear c5
 try clear c5b0
 try clear c6
 try clear c6b0
 try clear c8
 try clear c9
 try clear hcz10_0
 try clear hcz10_1
 try clear hcz3_0
 try clear hcz3_1
 try clear hcz9_0
 try clear hcz9_1
 try clear hcz9_2
 try clear hfz10_0
 try clear hfz10_1
 try clear hfz3_0
 try clear hfz3_1
 try clear hfz9_0
 try clear hfz9_1
 try clear hfz9_2
 try clear hx162_0
 try clear hx162_1
 try clear hx162_2
 try clear p162
 try clear p2
 try clear q162
 obtain ⟨x17_2, rfl, HA, HK2, BK159, BK163, HB⟩ := hrel
 cases gk with
 | zero => exact absurd HA.out (by simp [spec_GoodBag.l1])
 | succ k2 => ?_
 have H := HA.out
 clear HA
 simp only [spec_GoodBag.l1] at H
 by_cases c11 : x17_2 < (l0_1.length : Int)
 rotate_left
 ·rw [if_neg c11] at H
  have c11b0 : decide (x17_2 < (l0_1.length : Int)) = false := decide_eq_false c11
  clear c11
  have H' := Aside0.mk H
  clear H
  go_wp2
  go_roundg k2
  case measure => have := HK1.out; have := HK2.out; omega
  case rel => exact ⟨(wrap64 (x10_1 + 1)), (by first | rfl | (simp; done) | (simp [*]; done)), H', ⟨by have := HK1.out; have := HK2.out; omega⟩, ⟨by exact kb_ BK159.out⟩, ⟨bl_⟩⟩
 rw [if_pos c11] at H
 have c11b0 : decide (x17_2 < (l0_1.length : Int)) = true := decide_eq_true c11
 clear c11
 by_cases c12 : 0 ≤ x17_2
 rotate_left
 ·rw [if_neg c12] at H
  exact absurd H (by simp)
 rw [if_pos c12] at H
 have c12b0 : decide (0 ≤ x17_2) = true := decide_eq_true c12
 clear c12
 by_cases c13 : x17_2 < (l0_1.length : Int)
 rotate_left
 ·rw [if_neg c13] at H
  exact absurd H (by simp)
 rw [if_pos c13] at H
 have c13b0 : decide (x17_2 < (l0_1.length : Int)) = true := decide_eq_true c13
 clear c13
 replace H := Option.bind_eq_some_iff.mp H
 obtain ⟨t166, A140, H⟩ := H
 replace H : (if t166 = true then (some false) else (spec_GoodBag.l1 k2 l0_0 (l0_0.length : Int) x10_1 l0_1 (l0_1.length : Int) (wrap64 (x17_2 + 1)) l0_0 l0_1 ((rd_T48 l0_0 x10_1).f0) ((rd_T48 l0_0 x10_1).f1) ((rd_T48 l0_0 x10_1).f2))) = some r := H
 have A14 := Aside0.mk A140
 clear A140
 by_cases c15 : t166 = true
 ·subst c15
  have H1 : (some false) = some r := by rw [if_pos rfl] at H; exact H
  clear H
  have H := H1
  clear H1
  obtain rfl := Option.some.inj H
  have p164 : 0 ≤ (x17_2 : Int) := of_decide_eq_true (by first | (with_reducible assumption) | assumption)
  have q164 : x17_2 < (l0_1.length : Int) := of_decide_eq_true (by first | (with_reducible assumption) | assumption)
  obtain ⟨ad164, e164, hx164_0, hx164_1, hx164_2⟩ := at_T48 HR0_1.out x17_2 p164 q164
  cases e164
  replace hx164_0 := (HB.out.cell (World.block_lt_of_cell? w _ hx164_0)).trans hx164_0
  replace hx164_1 := (HB.out.cell (World.block_lt_of_cell? w _ hx164_1)).trans hx164_1
  replace hx164_2 := (HB.out.cell (World.block_lt_of_cell? w _ hx164_2)).trans hx164_2
  replace p164 := eq_true p164
  replace q164 := eq_true q164
  go_wp2_with (first | ((with_reducible refine gate_dst (N := 6) rfl ?_); refine box_event rfl (N := 6) rfl (cs := #[.string (⟨#[]⟩ : ByteArray), .int .i64 0, .int .i64 0]) (t := 48) gs_ ?_; intro gb165 hg w16 hbox hb; have BK165 := Aside0.mk (hbox); have GW165 := Aside0.mk ((by rw [hg]; exact bz_ : w.heap.size ≤ gb165)); have GE165 := GW165; replace HB := Aside0.mk (below_step bl_ hb); have NB159_165 := nl_ hg BK159; have NB165_159 := nm_ hg BK159; replace BK159 := bb_ BK159 hb; have NB163_165 := nl_ hg BK163; have NB165_163 := nm_ hg BK163; replace BK163 := bb_ BK163 hb; clear hb hbox hg; have hnb17 := NB165_159.out; have hnc17 := NB159_165.out; have hnb18 := NB165_163.out; have hnc18 := NB163_165.out; have hcz19_0 : w16.cell? ⟨gb165, 0, none⟩ = some (.string (⟨#[]⟩ : ByteArray)) := bc_ BK165.out 0; have hcz19_1 : w16.cell? ⟨gb165, 1, none⟩ = some (.int .i64 0) := bc_ BK165.out 1; have hcz19_2 : w16.cell? ⟨gb165, 2, none⟩ = some (.int .i64 0) := bc_ BK165.out 2; have hfz19_0 := blk_frozen BK165.out 0; have hfz19_1 := blk_frozen BK165.out 1; have hfz19_2 := blk_frozen BK165.out 2; have hnb20 := NB163_159.out; have hnc20 := NB159_163.out; have hcz21_0 : w16.cell? ⟨gb163, 0, none⟩ = some (.string ((rd_T48 l0_0 x10_1).f0)) := bc_ BK163.out 0; have hcz21_1 : w16.cell? ⟨gb163, 1, none⟩ = some (.int .i64 ((rd_T48 l0_0 x10_1).f1)) := bc_ BK163.out 1; have hcz21_2 : w16.cell? ⟨gb163, 2, none⟩ = some (.int .i64 ((rd_T48 l0_0 x10_1).f2)) := bc_ BK163.out 2; have hfz21_0 := blk_frozen BK163.out 0; have hfz21_1 := blk_frozen BK163.out 1; have hfz21_2 := blk_frozen BK163.out 2) | ((with_reducible refine gate_callee (f := 27) rfl ?_); refine goesL_ (some 23) rfl rfl Try.func27 (by kernel_rfl) rfl #[.agg #[.string ((rd_T48 l0_0 x10_1).f0), .int .i64 ((rd_T48 l0_0 x10_1).f1), .int .i64 ((rd_T48 l0_0 x10_1).f2)], .agg #[.string ((rd_T48 l0_1 x17_2).f0), .int .i64 ((rd_T48 l0_1 x17_2).f1), .int .i64 ((rd_T48 l0_1 x17_2).f2)]] rfl nc_ ?_; (with_reducible refine (spec_l14Same.calls ((rd_T48 l0_0 x10_1).f0) ((rd_T48 l0_0 x10_1).f1) ((rd_T48 l0_0 x10_1).f2) ((rd_T48 l0_1 x17_2).f0) ((rd_T48 l0_1 x17_2).f1) ((rd_T48 l0_1 x17_2).f2) true _ A14.out).mono ?_); rintro e w22 ⟨rfl, hb⟩; refine ⟨_, rfl, ?_⟩; replace BK159 := Aside0.mk (blk_below (g := gb159) (o := .cells #[.slice (some ad162) l0_0.length c0_0, .slice (some ad164) l0_1.length c0_1] 29 (0, 0)) kz_ hb); replace BK163 := Aside0.mk (blk_below (g := gb163) (o := .cells #[.string ((rd_T48 l0_0 x10_1).f0), .int .i64 ((rd_T48 l0_0 x10_1).f1), .int .i64 ((rd_T48 l0_0 x10_1).f2)] 48 (0, 0)) kz_ hb); replace BK165 := Aside0.mk (blk_below (g := gb165) (o := .cells #[.string ((rd_T48 l0_1 x17_2).f0), .int .i64 ((rd_T48 l0_1 x17_2).f1), .int .i64 ((rd_T48 l0_1 x17_2).f2)] 48 (0, 0)) (by (with_reducible repeat (first | refine blk_drewN ?_ _ | refine blk_drew ?_ | refine blk_alloc ?_ _)); refine blk_put (cs := #[.string ((rd_T48 l0_1 x17_2).f0), .int .i64 ((rd_T48 l0_1 x17_2).f1), .int .i64 0]) ?_ 2 _ rfl; (with_reducible repeat (first | refine blk_drewN ?_ _ | refine blk_drew ?_ | refine blk_alloc ?_ _)); refine blk_put (cs := #[.string ((rd_T48 l0_1 x17_2).f0), .int .i64 0, .int .i64 0]) ?_ 1 _ rfl; (with_reducible repeat (first | refine blk_drewN ?_ _ | refine blk_drew ?_ | refine blk_alloc ?_ _)); refine blk_put (cs := #[.string (⟨#[]⟩ : ByteArray), .int .i64 0, .int .i64 0]) ?_ 0 _ rfl; exact kb_ BK165.out) hb); replace HB := Aside0.mk (below_step bl_ hb); clear hb))
  go_ret
  exact ⟨ng_, bl_⟩
 replace c15 := Bool.eq_false_iff.mpr c15
 subst c15
 have H1 : (spec_GoodBag.l1 k2 l0_0 (l0_0.length : Int) x10_1 l0_1 (l0_1.length : Int) (wrap64 (x17_2 + 1)) l0_0 l0_1 ((rd_T48 l0_0 x10_1).f0) ((rd_T48 l0_0 x10_1).f1) ((rd_T48 l0_0 x10_1).f2)) = some r := by rw [if_neg (show ¬ (false = true) by decide)] at H; exact H
 clear H
 have H := H1
 clear H1
 have H' := Aside0.mk H
 clear H
 have p164 : 0 ≤ (x17_2 : Int) := of_decide_eq_true (by first | (with_reducible assumption) | assumption)
 have q164 : x17_2 < (l0_1.length : Int) := of_decide_eq_true (by first | (with_reducible assumption) | assumption)
 obtain ⟨ad164, e164, hx164_0, hx164_1, hx164_2⟩ := at_T48 HR0_1.out x17_2 p164 q164
 cases e164
 replace hx164_0 := (HB.out.cell (World.block_lt_of_cell? w _ hx164_0)).trans hx164_0
 replace hx164_1 := (HB.out.cell (World.block_lt_of_cell? w _ hx164_1)).trans hx164_1
 replace hx164_2 := (HB.out.cell (World.block_lt_of_cell? w _ hx164_2)).trans hx164_2
 replace p164 := eq_true p164
 replace q164 := eq_true q164
 go_wp2_with (first | ((with_reducible refine gate_dst (N := 6) rfl ?_); refine box_event rfl (N := 6) rfl (cs := #[.string (⟨#[]⟩ : ByteArray), .int .i64 0, .int .i64 0]) (t := 48) gs_ ?_; intro gb165 hg w23 hbox hb; have BK165 := Aside0.mk (hbox); have GW165 := Aside0.mk ((by rw [hg]; exact bz_ : w.heap.size ≤ gb165)); have GE165 := GW165; replace HB := Aside0.mk (below_step bl_ hb); have NB159_165 := nl_ hg BK159; have NB165_159 := nm_ hg BK159; replace BK159 := bb_ BK159 hb; have NB163_165 := nl_ hg BK163; have NB165_163 := nm_ hg BK163; replace BK163 := bb_ BK163 hb; clear hb hbox hg; have hnb24 := NB165_159.out; have hnc24 := NB159_165.out; have hnb25 := NB165_163.out; have hnc25 := NB163_165.out; have hcz26_0 : w23.cell? ⟨gb165, 0, none⟩ = some (.string (⟨#[]⟩ : ByteArray)) := bc_ BK165.out 0; have hcz26_1 : w23.cell? ⟨gb165, 1, none⟩ = some (.int .i64 0) := bc_ BK165.out 1; have hcz26_2 : w23.cell? ⟨gb165, 2, none⟩ = some (.int .i64 0) := bc_ BK165.out 2; have hfz26_0 := blk_frozen BK165.out 0; have hfz26_1 := blk_frozen BK165.out 1; have hfz26_2 := blk_frozen BK165.out 2; have hnb27 := NB163_159.out; have hnc27 := NB159_163.out; have hcz28_0 : w23.cell? ⟨gb163, 0, none⟩ = some (.string ((rd_T48 l0_0 x10_1).f0)) := bc_ BK163.out 0; have hcz28_1 : w23.cell? ⟨gb163, 1, none⟩ = some (.int .i64 ((rd_T48 l0_0 x10_1).f1)) := bc_ BK163.out 1; have hcz28_2 : w23.cell? ⟨gb163, 2, none⟩ = some (.int .i64 ((rd_T48 l0_0 x10_1).f2)) := bc_ BK163.out 2; have hfz28_0 := blk_frozen BK163.out 0; have hfz28_1 := blk_frozen BK163.out 1; have hfz28_2 := blk_frozen BK163.out 2) | ((with_reducible refine gate_callee (f := 27) rfl ?_); refine goesL_ (some 23) rfl rfl Try.func27 (by kernel_rfl) rfl #[.agg #[.string ((rd_T48 l0_0 x10_1).f0), .int .i64 ((rd_T48 l0_0 x10_1).f1), .int .i64 ((rd_T48 l0_0 x10_1).f2)], .agg #[.string ((rd_T48 l0_1 x17_2).f0), .int .i64 ((rd_T48 l0_1 x17_2).f1), .int .i64 ((rd_T48 l0_1 x17_2).f2)]] rfl nc_ ?_; (with_reducible refine (spec_l14Same.calls ((rd_T48 l0_0 x10_1).f0) ((rd_T48 l0_0 x10_1).f1) ((rd_T48 l0_0 x10_1).f2) ((rd_T48 l0_1 x17_2).f0) ((rd_T48 l0_1 x17_2).f1) ((rd_T48 l0_1 x17_2).f2) false _ A14.out).mono ?_); rintro e w29 ⟨rfl, hb⟩; refine ⟨_, rfl, ?_⟩; replace BK159 := Aside0.mk (blk_below (g := gb159) (o := .cells #[.slice (some ad162) l0_0.length c0_0, .slice (some ad164) l0_1.length c0_1] 29 (0, 0)) kz_ hb); replace BK163 := Aside0.mk (blk_below (g := gb163) (o := .cells #[.string ((rd_T48 l0_0 x10_1).f0), .int .i64 ((rd_T48 l0_0 x10_1).f1), .int .i64 ((rd_T48 l0_0 x10_1).f2)] 48 (0, 0)) kz_ hb); replace BK165 := Aside0.mk (blk_below (g := gb165) (o := .cells #[.string ((rd_T48 l0_1 x17_2).f0), .int .i64 ((rd_T48 l0_1 x17_2).f1), .int .i64 ((rd_T48 l0_1 x17_2).f2)] 48 (0, 0)) (by (with_reducible repeat (first | refine blk_drewN ?_ _ | refine blk_drew ?_ | refine blk_alloc ?_ _)); refine blk_put (cs := #[.string ((rd_T48 l0_1 x17_2).f0), .int .i64 ((rd_T48 l0_1 x17_2).f1), .int .i64 0]) ?_ 2 _ rfl; (with_reducible repeat (first | refine blk_drewN ?_ _ | refine blk_drew ?_ | refine blk_alloc ?_ _)); refine blk_put (cs := #[.string ((rd_T48 l0_1 x17_2).f0), .int .i64 0, .int .i64 0]) ?_ 1 _ rfl; (with_reducible repeat (first | refine blk_drewN ?_ _ | refine blk_drew ?_ | refine blk_alloc ?_ _)); refine blk_put (cs := #[.string (⟨#[]⟩ : ByteArray), .int .i64 0, .int .i64 0]) ?_ 0 _ rfl; exact kb_ BK165.out) hb); replace HB := Aside0.mk (below_step bl_ hb); clear hb))
 go_roundg k2
 case measure => have := HK1.out; have := HK2.out; omega
 case rel => exact ⟨(wrap64 (x17_2 + 1)), (by first | rfl | (simp; done) | (simp [*]; done)), H', ⟨by have := HK1.out; have := HK2.out; omega⟩, ⟨by exact kb_ BK159.out⟩, ⟨by exact kb_ BK163.out⟩, ⟨bl_⟩⟩

end Go.Proofs.Ytdnapgnnliibfaa.PMB
