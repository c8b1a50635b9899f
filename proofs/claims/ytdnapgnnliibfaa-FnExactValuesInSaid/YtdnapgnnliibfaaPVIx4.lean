/- What this text proves: the machine calls of these functions return what the plain functions say. Conditions: as each theorem says. Printed by a program of this session out of the translation. -/
import Derived.Test.YtdnapgnnliibfaaPVIx0
import Derived.Test.YtdnapgnnliibfaaPVIx2
import Derived.Test.YtdnapgnnliibfaaPVIx3
namespace Go.Proofs.Ytdnapgnnliibfaa.PVI
open Go.RowKit Go.Proofs.YtdnapgnnliibfaaW.PrintWords Go.Proofs.YtdnapgnnliibfaaW.PrintLast Go.Proofs.YtdnapgnnliibfaaW.PrintMore
attribute [local go_sem] max2_int min2_int max_two min_two max_three min_three max_four min_four   -- for this text's walks alone
set_option linter.unusedVariables false
set_option linter.unusedSimpArgs false

/-! ### spec_GoodBag: function 9 -/
mutual
def spec_GoodBag.l0 : Nat → List (S48) → Int → Int → List (S48) → List (S48) → Option (Bool)
 | 0, _, _, _, _, _ => none
 | k + 1, x8, x9, x10, x160000, x160001 => if x10 < x9 then (if 0 ≤ x10 then (if x10 < (x8.length : Int) then (spec_GoodBag.l1 k x8 x9 x10 x160001 (x160001.length : Int) 0 x160000 x160001 ((rd_T48 x8 x10).f0) ((rd_T48 x8 x10).f1) ((rd_T48 x8 x10).f2)) else (none)) else (none)) else ((spec_l14Adds.f k x160000).bind fun t160 => (if t160 = true then ((spec_l14Adds.f k x160001).bind fun t161 => (some t161)) else (some false)))
def spec_GoodBag.l1 : Nat → List (S48) → Int → Int → List (S48) → Int → Int → List (S48) → List (S48) → ByteArray → Int → Int → Option (Bool)
 | 0, _, _, _, _, _, _, _, _, _, _, _ => none
 | k + 1, x8, x9, x10, x15, x16, x17, x160000, x160001, x164000, x164001, x164002 => if x17 < x16 then (if 0 ≤ x17 then (if x17 < (x15.length : Int) then ((spec_l14Same.f x164000 x164001 x164002 ((rd_T48 x15 x17).f0) ((rd_T48 x15 x17).f1) ((rd_T48 x15 x17).f2)).bind fun t166 => (if t166 = true then (some false) else (spec_GoodBag.l1 k x8 x9 x10 x15 x16 (wrap64 (x17 + 1)) x160000 x160001 x164000 x164001 x164002))) else (none)) else (none)) else (spec_GoodBag.l0 k x8 x9 (wrap64 (x10 + 1)) x160000 x160001)
end
def spec_GoodBag.f (k : Nat) (l0_0 : List (S48)) (l0_1 : List (S48)) : Option (Bool) := spec_GoodBag.l0 k l0_0 (l0_0.length : Int) 0 l0_0 l0_1
theorem spec_GoodBag.mono_l : ∀ k, (∀ y0 y1 y2 y3 y4, LeO (spec_GoodBag.l0 k y0 y1 y2 y3 y4) (spec_GoodBag.l0 (k + 1) y0 y1 y2 y3 y4)) ∧ (∀ y0 y1 y2 y3 y4 y5 y6 y7 y8 y9 y10, LeO (spec_GoodBag.l1 k y0 y1 y2 y3 y4 y5 y6 y7 y8 y9 y10) (spec_GoodBag.l1 (k + 1) y0 y1 y2 y3 y4 y5 y6 y7 y8 y9 y10))
 | 0 => ⟨fun _ _ _ _ _ r h => by simp [spec_GoodBag.l0] at h, fun _ _ _ _ _ _ _ _ _ _ _ r h => by simp [spec_GoodBag.l1] at h⟩
 | k + 1 => by
  obtain ⟨ih0, ih1⟩ := spec_GoodBag.mono_l k
  refine ⟨?_, ?_⟩
  ·intro y0 y1 y2 y3 y4
   unfold spec_GoodBag.l0
   repeat' first
   | (with_reducible exact ih0 _ _ _ _ _)
   | (with_reducible exact ih1 _ _ _ _ _ _ _ _ _ _ _)
   | (with_reducible exact spec_l14Adds.mono _ _)
   | (with_reducible exact LeO.refl _)
   | (with_reducible exact LeO.none _)
   | (with_reducible refine LeO.ite ?_ ?_)
   | (with_reducible refine LeO.bind ?_ (fun _ => ?_))
   | exact ih0 _ _ _ _ _
   | exact ih1 _ _ _ _ _ _ _ _ _ _ _
   | exact spec_l14Adds.mono _ _
   | exact LeO.none _
   | refine LeO.ite ?_ ?_
   | refine LeO.bind ?_ (fun _ => ?_)
  ·intro y0 y1 y2 y3 y4 y5 y6 y7 y8 y9 y10
   unfold spec_GoodBag.l1
   repeat' first
   | (with_reducible exact ih0 _ _ _ _ _)
   | (with_reducible exact ih1 _ _ _ _ _ _ _ _ _ _ _)
   | (with_reducible exact spec_l14Adds.mono _ _)
   | (with_reducible exact LeO.refl _)
   | (with_reducible exact LeO.none _)
   | (with_reducible refine LeO.ite ?_ ?_)
   | (with_reducible refine LeO.bind ?_ (fun _ => ?_))
   | exact ih0 _ _ _ _ _
   | exact ih1 _ _ _ _ _ _ _ _ _ _ _
   | exact spec_l14Adds.mono _ _
   | exact LeO.none _
   | refine LeO.ite ?_ ?_
   | refine LeO.bind ?_ (fun _ => ?_)
theorem spec_GoodBag.mono : ∀ a0 a1 k, LeO (spec_GoodBag.f k a0 a1) (spec_GoodBag.f (k + 1) a0 a1) := by
 intro a0 a1 k
 obtain ⟨ih0, ih1⟩ := spec_GoodBag.mono_l k
 unfold spec_GoodBag.f
 repeat' first
   | (with_reducible exact ih0 _ _ _ _ _)
   | (with_reducible exact ih1 _ _ _ _ _ _ _ _ _ _ _)
   | (with_reducible exact spec_l14Adds.mono _ _)
   | (with_reducible exact LeO.refl _)
   | (with_reducible exact LeO.none _)
   | (with_reducible refine LeO.ite ?_ ?_)
   | (with_reducible refine LeO.bind ?_ (fun _ => ?_))
   | exact ih0 _ _ _ _ _
   | exact ih1 _ _ _ _ _ _ _ _ _ _ _
   | exact spec_l14Adds.mono _ _
   | exact LeO.none _
   | refine LeO.ite ?_ ?_
   | refine LeO.bind ?_ (fun _ => ?_)
set_option maxHeartbeats 8000000 in
set_option maxRecDepth 100000 in
theorem spec_GoodBag.calls (k : Nat) (A0_0 : Option Addr) (c0_0 : Nat) (l0_0 : List (S48)) (A0_1 : Option Addr) (c0_1 : Nat) (l0_1 : List (S48)) (r : Bool) (w : World) (hr0_0 : Kd.C k48 w A0_0 l0_0.length l0_0) (hc0_0 : l0_0.length ≤ c0_0) (hr0_1 : Kd.C k48 w A0_1 l0_1.length l0_1) (hc0_1 : l0_1.length ≤ c0_1) (h : spec_GoodBag.f k l0_0 l0_1 = some r) :
  Calls Try.prog 9 #[.agg #[.slice A0_0 l0_0.length c0_0, .slice A0_1 l0_1.length c0_1]] w fun e w' => e = .returned (.bool r) ∧ Below w.heap.size w w' := by
 have hu29 := Try.underlying29
 have hu48 := Try.underlying48
 have HR0_0 := Aside0.mk hr0_0
 have HC0_0 := Aside0.mk hc0_0
 clear hr0_0 hc0_0
 have HR0_1 := Aside0.mk hr0_1
 have HC0_1 := Aside0.mk hc0_1
 clear hr0_1 hc0_1
 have HB := Aside0.mk (Below.refl w.heap.size w)
 have H : (spec_GoodBag.l0 k l0_0 (l0_0.length : Int) 0 l0_0 l0_1) = some r := h
 clear h
 have H' := Aside0.mk H
 clear H
 go_enter Try.func9, Try.ntmps9
 go_wp2_with (first | ((with_reducible refine gate_dst (N := 1) rfl ?_); refine box_event rfl (N := 1) rfl (cs := #[.slice A0_0 l0_0.length c0_0, .slice A0_1 l0_1.length c0_1]) (t := 29) gs_ ?_; intro gb159 hg w2 hbox hb; have BK159 := Aside0.mk (hbox); have GW159 := Aside0.mk ((by rw [hg]; exact bz_ : w.heap.size ≤ gb159)); have GE159 := GW159; replace HB := Aside0.mk (below_step bl_ hb); clear hb hbox hg; have hcz3_0 : w2.cell? ⟨gb159, 0, none⟩ = some (.slice A0_0 l0_0.length c0_0) := bc_ BK159.out 0; have hcz3_1 : w2.cell? ⟨gb159, 1, none⟩ = some (.slice A0_1 l0_1.length c0_1) := bc_ BK159.out 1; have hfz3_0 := blk_frozen BK159.out 0; have hfz3_1 := blk_frozen BK159.out 1))
 go_loopg [10] k (fun kq v10 w' => ∃ (x10_1 : Int), v10 = .int .i64 x10_1 ∧ Aside0 (spec_GoodBag.l0 kq l0_0 (l0_0.length : Int) x10_1 l0_0 l0_1 = some r) ∧ Aside0 (kq ≤ k) ∧ Aside0 (w'.heap[gb159]? = some (.cells #[(.slice A0_0 l0_0.length c0_0), (.slice A0_1 l0_1.length c0_1)] 29 (0, 0))) ∧ Aside0 (Below w.heap.size w w'))
 case atStart => exact ⟨(0), (by first | rfl | (simp; done) | (simp [*]; done)), H', ⟨Nat.le_refl _⟩, ⟨by exact kb_ BK159.out⟩, ⟨bl_⟩⟩
 clear H'
 try clear p2
 try clear hcz3_0
 try clear hcz3_1
 try clear hfz3_0
 try clear hfz3_1
 obtain ⟨x10_1, rfl, HA, HK1, BK159, HB⟩ := hrel
 cases gk with
 | zero => exact absurd HA.out (by simp [spec_GoodBag.l0])
 | succ k1 => ?_
 have H := HA.out
 clear HA
 simp only [spec_GoodBag.l0] at H
 by_cases c4 : x10_1 < (l0_0.length : Int)
 rotate_left
 ·rw [if_neg c4] at H
  have c4b0 : decide (x10_1 < (l0_0.length : Int)) = false := decide_eq_false c4
  clear c4
  replace H := Option.bind_eq_some_iff.mp H
  obtain ⟨t160, A300, H⟩ := H
  replace H : (if t160 = true then ((spec_l14Adds.f k1 l0_1).bind fun t161 => (some t161)) else (some false)) = some r := H
  have A30 := Aside0.mk A300
  clear A300
  by_cases c31 : t160 = true
  rotate_left
  ·replace c31 := Bool.eq_false_iff.mpr c31
   subst c31
   have H1 : (some false) = some r := by rw [if_neg (show ¬ (false = true) by decide)] at H; exact H
   clear H
   have H := H1
   clear H1
   obtain rfl := Option.some.inj H
   have hcz37_0 : wr.cell? ⟨gb159, 0, none⟩ = some (.slice A0_0 l0_0.length c0_0) := bc_ BK159.out 0
   have hcz37_1 : wr.cell? ⟨gb159, 1, none⟩ = some (.slice A0_1 l0_1.length c0_1) := bc_ BK159.out 1
   have hfz37_0 := blk_frozen BK159.out 0
   have hfz37_1 := blk_frozen BK159.out 1
   go_wp2_with (first | ((with_reducible refine gate_callee (f := 28) rfl ?_); refine goesL_ (some 28) rfl rfl Try.func28 (by kernel_rfl) rfl #[.slice A0_0 l0_0.length c0_0] rfl nc_ ?_; (with_reducible refine (spec_l14Adds.calls k1 _ _ l0_0 false _ ?side1 ?side2 A30.out).mono ?_); (case side1 => exact kc_ (Kd.C_below HR0_0.out HB.out)); (case side2 => exact HC0_0.out); rintro e w38 ⟨rfl, hb⟩; refine ⟨_, rfl, ?_⟩; replace BK159 := bb_ BK159 hb; replace HB := Aside0.mk (below_step bl_ hb); clear hb))
   go_ret
   exact ⟨ng_, bl_⟩
  subst c31
  have H1 : ((spec_l14Adds.f k1 l0_1).bind fun t161 => (some t161)) = some r := by rw [if_pos rfl] at H; exact H
  clear H
  have H := H1
  clear H1
  replace H := Option.bind_eq_some_iff.mp H
  obtain ⟨t161, A320, H⟩ := H
  replace H : (some t161) = some r := H
  have A32 := Aside0.mk A320
  clear A320
  obtain rfl := Option.some.inj H
  have hcz33_0 : wr.cell? ⟨gb159, 0, none⟩ = some (.slice A0_0 l0_0.length c0_0) := bc_ BK159.out 0
  have hcz33_1 : wr.cell? ⟨gb159, 1, none⟩ = some (.slice A0_1 l0_1.length c0_1) := bc_ BK159.out 1
  have hfz33_0 := blk_frozen BK159.out 0
  have hfz33_1 := blk_frozen BK159.out 1
  go_wp2_with (first | ((with_reducible refine gate_callee (f := 28) rfl ?_); refine goesL_ (some 28) rfl rfl Try.func28 (by kernel_rfl) rfl #[.slice A0_0 l0_0.length c0_0] rfl nc_ ?_; (with_reducible refine (spec_l14Adds.calls k1 _ _ l0_0 true _ ?side1 ?side2 A30.out).mono ?_); (case side1 => exact kc_ (Kd.C_below HR0_0.out HB.out)); (case side2 => exact HC0_0.out); rintro e w34 ⟨rfl, hb⟩; refine ⟨_, rfl, ?_⟩; replace BK159 := bb_ BK159 hb; replace HB := Aside0.mk (below_step bl_ hb); clear hb; have hcz35_0 : w34.cell? ⟨gb159, 0, none⟩ = some (.slice A0_0 l0_0.length c0_0) := bc_ BK159.out 0; have hcz35_1 : w34.cell? ⟨gb159, 1, none⟩ = some (.slice A0_1 l0_1.length c0_1) := bc_ BK159.out 1; have hfz35_0 := blk_frozen BK159.out 0; have hfz35_1 := blk_frozen BK159.out 1) | (go_at_call 28; (with_reducible refine (spec_l14Adds.calls k1 _ _ l0_1 t161 _ ?side1 ?side2 A32.out).mono ?_); (case side1 => exact kc_ (Kd.C_below HR0_1.out HB.out)); (case side2 => exact HC0_1.out); rintro e w36 ⟨rfl, hb⟩; replace BK159 := bb_ BK159 hb; replace HB := Aside0.mk (below_step bl_ hb); clear hb))
  go_ret
  exact ⟨ng_, bl_⟩
 rw [if_pos c4] at H
 have c4b0 : decide (x10_1 < (l0_0.length : Int)) = true := decide_eq_true c4
 clear c4
 by_cases c5 : 0 ≤ x10_1
 rotate_left
 ·rw [if_neg c5] at H
  exact absurd H (by simp)
 rw [if_pos c5] at H
 have c5b0 : decide (0 ≤ x10_1) = true := decide_eq_true c5
 clear c5
 by_cases c6 : x10_1 < (l0_0.length : Int)
 rotate_left
 ·rw [if_neg c6] at H
  exact absurd H (by simp)
 rw [if_pos c6] at H
 have c6b0 : decide (x10_1 < (l0_0.length : Int)) = true := decide_eq_true c6
 clear c6
 have H' := Aside0.mk H
 clear H
 have p162 : 0 ≤ (x10_1 : Int) := of_decide_eq_true (by first | (with_reducible assumption) | assumption)
 have q162 : x10_1 < (l0_0.length : Int) := of_decide_eq_true (by first | (with_reducible assumption) | assumption)
 obtain ⟨ad162, e162, hx162_0, hx162_1, hx162_2⟩ := at_T48 HR0_0.out x10_1 p162 q162
 cases e162
 replace hx162_0 := (HB.out.cell (World.block_lt_of_cell? w _ hx162_0)).trans hx162_0
 replace hx162_1 := (HB.out.cell (World.block_lt_of_cell? w _ hx162_1)).trans hx162_1
 replace hx162_2 := (HB.out.cell (World.block_lt_of_cell? w _ hx162_2)).trans hx162_2
 replace p162 := eq_true p162
 replace q162 := eq_true q162
 go_wp2_with (first | ((with_reducible refine gate_dst (N := 4) rfl ?_); refine box_event rfl (N := 4) rfl (cs := #[.string (⟨#[]⟩ : ByteArray), .int .i64 0, .int .i64 0]) (t := 48) gs_ ?_; intro gb163 hg w7 hbox hb; have BK163 := Aside0.mk (hbox); have GW163 := Aside0.mk ((by rw [hg]; exact bz_ : w.heap.size ≤ gb163)); have GE163 := GW163; replace HB := Aside0.mk (below_step bl_ hb); have NB159_163 := nl_ hg BK159; have NB163_159 := nm_ hg BK159; replace BK159 := bb_ BK159 hb; clear hb hbox hg; have hnb8 := NB163_159.out; have hnc8 := NB159_163.out; have hcz9_0 : w7.cell? ⟨gb163, 0, none⟩ = some (.string (⟨#[]⟩ : ByteArray)) := bc_ BK163.out 0; have hcz9_1 : w7.cell? ⟨gb163, 1, none⟩ = some (.int .i64 0) := bc_ BK163.out 1; have hcz9_2 : w7.cell? ⟨gb163, 2, none⟩ = some (.int .i64 0) := bc_ BK163.out 2; have hfz9_0 := blk_frozen BK163.out 0; have hfz9_1 := blk_frozen BK163.out 1; have hfz9_2 := blk_frozen BK163.out 2; have hcz10_0 : w7.cell? ⟨gb159, 0, none⟩ = some (.slice (some ad162) l0_0.length c0_0) := bc_ BK159.out 0; have hcz10_1 : w7.cell? ⟨gb159, 1, none⟩ = some (.slice A0_1 l0_1.length c0_1) := bc_ BK159.out 1; have hfz10_0 := blk_frozen BK159.out 0; have hfz10_1 := blk_frozen BK159.out 1))
 go_loopg [17] k1 (fun kq v17 w' => ∃ (x17_2 : Int), v17 = .int .i64 x17_2 ∧ Aside0 (spec_GoodBag.l1 kq l0_0 (l0_0.length : Int) x10_1 l0_1 (l0_1.length : Int) x17_2 l0_0 l0_1 ((rd_T48 l0_0 x10_1).f0) ((rd_T48 l0_0 x10_1).f1) ((rd_T48 l0_0 x10_1).f2) = some r) ∧ Aside0 (kq ≤ k1) ∧ Aside0 (w'.heap[gb159]? = some (.cells #[(.slice (some ad162) l0_0.length c0_0), (.slice A0_1 l0_1.length c0_1)] 29 (0, 0))) ∧ Aside0 (w'.heap[gb163]? = some (.cells #[.string ((rd_T48 l0_0 x10_1).f0), .int .i64 ((rd_T48 l0_0 x10_1).f1), .int .i64 ((rd_T48 l0_0 x10_1).f2)] 48 (0, 0))) ∧ Aside0 (Below w.heap.size w w'))
 case atStart => exact ⟨(0), (by first | rfl | (simp; done) | (simp [*]; done)), H', ⟨Nat.le_refl _⟩, ⟨kz_⟩, ⟨by (with_reducible repeat (first | refine blk_drewN ?_ _ | refine blk_drew ?_ | refine blk_alloc ?_ _)); refine blk_put (cs := #[.string ((rd_T48 l0_0 x10_1).f0), .int .i64 ((rd_T48 l0_0 x10_1).f1), .int .i64 0]) ?_ 2 _ rfl; (with_reducible repeat (first | refine blk_drewN ?_ _ | refine blk_drew ?_ | refine blk_alloc ?_ _)); refine blk_put (cs := #[.string ((rd_T48 l0_0 x10_1).f0), .int .i64 0, .int .i64 0]) ?_ 1 _ rfl; (with_reducible repeat (first | refine blk_drewN ?_ _ | refine blk_drew ?_ | refine blk_alloc ?_ _)); refine blk_put (cs := #[.string (⟨#[]⟩ : ByteArray), .int .i64 0, .int .i64 0]) ?_ 0 _ rfl; exact kb_ BK163.out⟩, ⟨bl_⟩⟩
 clear H'
 try clear p1
 try clear q1
 try clear hx1
 try clear p2
 try clear c4
 try clear c4b0
 try clear c5
 try clear c5b0
 try clear c6
 try clear c6b0
 try clear c8
 try clear c9
 try clear hcz10_0
 try clear hcz10_1
 try clear hcz3_0
 try clear hcz3_1
 try clear hcz9_0
 try clear hcz9_1
 try clear hcz9_2
 try clear hfz10_0
 try clear hfz10_1
 try clear hfz3_0
 try clear hfz3_1
 try clear hfz9_0
 try clear hfz9_1
 try clear hfz9_2
 try clear hx162_0
 try clear hx162_1
 try clear hx162_2
 try clear p162
 try clear p2
 try clear q162
 obtain ⟨x17_2, rfl, HA, HK2, BK159, BK163, HB⟩ := hrel
 cases gk with
 | zero => exact absurd HA.out (by simp [spec_GoodBag.l1])
 | succ k2 => ?_
 have H := HA.out
 clear HA
 simp only [spec_GoodBag.l1] at H
 by_cases c11 : x17_2 < (l0_1.length : Int)
 rotate_left
 ·rw [if_neg c11] at H
  have c11b0 : decide (x17_2 < (l0_1.length : Int)) = false := decide_eq_false c11
  clear c11
  have H' := Aside0.mk H
  clear H
  go_wp2
  go_roundg k2
  case measure => have := HK1.out; have := HK2.out; omega
  case rel => exact ⟨(wrap64 (x10_1 + 1)), (by first | rfl | (simp; done) | (simp [*]; done)), H', ⟨by have := HK1.out; have := HK2.out; omega⟩, ⟨by exact kb_ BK159.out⟩, ⟨bl_⟩⟩
 rw [if_pos c11] at H
 have c11b0 : decide (x17_2 < (l0_1.length : Int)) = true := decide_eq_true c11
 clear c11
 by_cases c12 : 0 ≤ x17_2
 rotate_left
 ·rw [if_neg c12] at H
  exact absurd H (by simp)
 rw [if_pos c12] at H
 have c12b0 : decide (0 ≤ x17_2) = true := decide_eq_true c12
 clear c12
 by_cases c13 : x17_2 < (l0_1.length : Int)
 rotate_left
 ·rw [if_neg c13] at H
  exact absurd H (by simp)
 rw [if_pos c13] at H
 have c13b0 : decide (x17_2 < (l0_1.length : Int)) = true := decide_eq_true c13
 clear c13
 replace H := Option.bind_eq_some_iff.mp H
 obtain ⟨t166, A140, H⟩ := H
 replace H : (if t166 = true then (some false) else (spec_GoodBag.l1 k2 l0_0 (l0_0.length : Int) x10_1 l0_1 (l0_1.length : Int) (wrap64 (x17_2 + 1)) l0_0 l0_1 ((rd_T48 l0_0 x10_1).f0) ((rd_T48 l0_0 x10_1).f1) ((rd_T48 l0_0 x10_1).f2))) = some r := H
 have A14 := Aside0.mk A140
 clear A140
 by_cases c15 : t166 = true
 ·subst c15
  have H1 : (some false) = some r := by rw [if_pos rfl] at H; exact H
  clear H
  have H := H1
  clear H1
  obtain rfl := Option.some.inj H
  have p164 : 0 ≤ (x17_2 : Int) := of_decide_eq_true (by first | (with_reducible assumption) | assumption)
  have q164 : x17_2 < (l0_1.length : Int) := of_decide_eq_true (by first | (with_reducible assumption) | assumption)
  obtain ⟨ad164, e164, hx164_0, hx164_1, hx164_2⟩ := at_T48 HR0_1.out x17_2 p164 q164
  cases e164
  replace hx164_0 := (HB.out.cell (World.block_lt_of_cell? w _ hx164_0)).trans hx164_0
  replace hx164_1 := (HB.out.cell (World.block_lt_of_cell? w _ hx164_1)).trans hx164_1
  replace hx164_2 := (HB.out.cell (World.block_lt_of_cell? w _ hx164_2)).trans hx164_2
  replace p164 := eq_true p164
  replace q164 := eq_true q164
  go_wp2_with (first | ((with_reducible refine gate_dst (N := 6) rfl ?_); refine box_event rfl (N := 6) rfl (cs := #[.string (⟨#[]⟩ : ByteArray), .int .i64 0, .int .i64 0]) (t := 48) gs_ ?_; intro gb165 hg w16 hbox hb; have BK165 := Aside0.mk (hbox); have GW165 := Aside0.mk ((by rw [hg]; exact bz_ : w.heap.size ≤ gb165)); have GE165 := GW165; replace HB := Aside0.mk (below_step bl_ hb); have NB159_165 := nl_ hg BK159; have NB165_159 := nm_ hg BK159; replace BK159 := bb_ BK159 hb; have NB163_165 := nl_ hg BK163; have NB165_163 := nm_ hg BK163; replace BK163 := bb_ BK163 hb; clear hb hbox hg; have hnb17 := NB165_159.out; have hnc17 := NB159_165.out; have hnb18 := NB165_163.out; have hnc18 := NB163_165.out; have hcz19_0 : w16.cell? ⟨gb165, 0, none⟩ = some (.string (⟨#[]⟩ : ByteArray)) := bc_ BK165.out 0; have hcz19_1 : w16.cell? ⟨gb165, 1, none⟩ = some (.int .i64 0) := bc_ BK165.out 1; have hcz19_2 : w16.cell? ⟨gb165, 2, none⟩ = some (.int .i64 0) := bc_ BK165.out 2; have hfz19_0 := blk_frozen BK165.out 0; have hfz19_1 := blk_frozen BK165.out 1; have hfz19_2 := blk_frozen BK165.out 2; have hnb20 := NB163_159.out; have hnc20 := NB159_163.out; have hcz21_0 : w16.cell? ⟨gb163, 0, none⟩ = some (.string ((rd_T48 l0_0 x10_1).f0)) := bc_ BK163.out 0; have hcz21_1 : w16.cell? ⟨gb163, 1, none⟩ = some (.int .i64 ((rd_T48 l0_0 x10_1).f1)) := bc_ BK163.out 1; have hcz21_2 : w16.cell? ⟨gb163, 2, none⟩ = some (.int .i64 ((rd_T48 l0_0 x10_1).f2)) := bc_ BK163.out 2; have hfz21_0 := blk_frozen BK163.out 0; have hfz21_1 := blk_frozen BK163.out 1; have hfz21_2 := blk_frozen BK163.out 2) | ((with_reducible refine gate_callee (f := 27) rfl ?_); refine goesL_ (some 23) rfl rfl Try.func27 (by kernel_rfl) rfl #[.agg #[.string ((rd_T48 l0_0 x10_1).f0), .int .i64 ((rd_T48 l0_0 x10_1).f1), .int .i64 ((rd_T48 l0_0 x10_1).f2)], .agg #[.string ((rd_T48 l0_1 x17_2).f0), .int .i64 ((rd_T48 l0_1 x17_2).f1), .int .i64 ((rd_T48 l0_1 x17_2).f2)]] rfl nc_ ?_; (with_reducible refine (spec_l14Same.calls ((rd_T48 l0_0 x10_1).f0) ((rd_T48 l0_0 x10_1).f1) ((rd_T48 l0_0 x10_1).f2) ((rd_T48 l0_1 x17_2).f0) ((rd_T48 l0_1 x17_2).f1) ((rd_T48 l0_1 x17_2).f2) true _ A14.out).mono ?_); rintro e w22 ⟨rfl, hb⟩; refine ⟨_, rfl, ?_⟩; replace BK159 := Aside0.mk (blk_below (g := gb159) (o := .cells #[.slice (some ad162) l0_0.length c0_0, .slice (some ad164) l0_1.length c0_1] 29 (0, 0)) kz_ hb); replace BK163 := Aside0.mk (blk_below (g := gb163) (o := .cells #[.string ((rd_T48 l0_0 x10_1).f0), .int .i64 ((rd_T48 l0_0 x10_1).f1), .int .i64 ((rd_T48 l0_0 x10_1).f2)] 48 (0, 0)) kz_ hb); replace BK165 := Aside0.mk (blk_below (g := gb165) (o := .cells #[.string ((rd_T48 l0_1 x17_2).f0), .int .i64 ((rd_T48 l0_1 x17_2).f1), .int .i64 ((rd_T48 l0_1 x17_2).f2)] 48 (0, 0)) (by (with_reducible repeat (first | refine blk_drewN ?_ _ | refine blk_drew ?_ | refine blk_alloc ?_ _)); refine blk_put (cs := #[.string ((rd_T48 l0_1 x17_2).f0), .int .i64 ((rd_T48 l0_1 x17_2).f1), .int .i64 0]) ?_ 2 _ rfl; (with_reducible repeat (first | refine blk_drewN ?_ _ | refine blk_drew ?_ | refine blk_alloc ?_ _)); refine blk_put (cs := #[.string ((rd_T48 l0_1 x17_2).f0), .int .i64 0, .int .i64 0]) ?_ 1 _ rfl; (with_reducible repeat (first | refine blk_drewN ?_ _ | refine blk_drew ?_ | refine blk_alloc ?_ _)); refine blk_put (cs := #[.string (⟨#[]⟩ : ByteArray), .int .i64 0, .int .i64 0]) ?_ 0 _ rfl; exact kb_ BK165.out) hb); replace HB := Aside0.mk (below_step bl_ hb); clear hb))
  go_ret
  exact ⟨ng_, bl_⟩
 replace c15 := Bool.eq_false_iff.mpr c15
 subst c15
 have H1 : (spec_GoodBag.l1 k2 l0_0 (l0_0.length : Int) x10_1 l0_1 (l0_1.length : Int) (wrap64 (x17_2 + 1)) l0_0 l0_1 ((rd_T48 l0_0 x10_1).f0) ((rd_T48 l0_0 x10_1).f1) ((rd_T48 l0_0 x10_1).f2)) = some r := by rw [if_neg (show ¬ (false = true) by decide)] at H; exact H
 clear H
 have H := H1
 clear H1
 have H' := Aside0.mk H
 clear H
 have p164 : 0 ≤ (x17_2 : Int) := of_decide_eq_true (by first | (with_reducible assumption) | assumption)
 have q164 : x17_2 < (l0_1.length : Int) := of_decide_eq_true (by first | (with_reducible assumption) | assumption)
 obtain ⟨ad164, e164, hx164_0, hx164_1, hx164_2⟩ := at_T48 HR0_1.out x17_2 p164 q164
 cases e164
 replace hx164_0 := (HB.out.cell (World.block_lt_of_cell? w _ hx164_0)).trans hx164_0
 replace hx164_1 := (HB.out.cell (World.block_lt_of_cell? w _ hx164_1)).trans hx164_1
 replace hx164_2 := (HB.out.cell (World.block_lt_of_cell? w _ hx164_2)).trans hx164_2
 replace p164 := eq_true p164
 replace q164 := eq_true q164
 go_wp2_with (first | ((with_reducible refine gate_dst (N := 6) rfl ?_); refine box_event rfl (N := 6) rfl (cs := #[.string (⟨#[]⟩ : ByteArray), .int .i64 0, .int .i64 0]) (t := 48) gs_ ?_; intro gb165 hg w23 hbox hb; have BK165 := Aside0.mk (hbox); have GW165 := Aside0.mk ((by rw [hg]; exact bz_ : w.heap.size ≤ gb165)); have GE165 := GW165; replace HB := Aside0.mk (below_step bl_ hb); have NB159_165 := nl_ hg BK159; have NB165_159 := nm_ hg BK159; replace BK159 := bb_ BK159 hb; have NB163_165 := nl_ hg BK163; have NB165_163 := nm_ hg BK163; replace BK163 := bb_ BK163 hb; clear hb hbox hg; have hnb24 := NB165_159.out; have hnc24 := NB159_165.out; have hnb25 := NB165_163.out; have hnc25 := NB163_165.out; have hcz26_0 : w23.cell? ⟨gb165, 0, none⟩ = some (.string (⟨#[]⟩ : ByteArray)) := bc_ BK165.out 0; have hcz26_1 : w23.cell? ⟨gb165, 1, none⟩ = some (.int .i64 0) := bc_ BK165.out 1; have hcz26_2 : w23.cell? ⟨gb165, 2, none⟩ = some (.int .i64 0) := bc_ BK165.out 2; have hfz26_0 := blk_frozen BK165.out 0; have hfz26_1 := blk_frozen BK165.out 1; have hfz26_2 := blk_frozen BK165.out 2; have hnb27 := NB163_159.out; have hnc27 := NB159_163.out; have hcz28_0 : w23.cell? ⟨gb163, 0, none⟩ = some (.string ((rd_T48 l0_0 x10_1).f0)) := bc_ BK163.out 0; have hcz28_1 : w23.cell? ⟨gb163, 1, none⟩ = some (.int .i64 ((rd_T48 l0_0 x10_1).f1)) := bc_ BK163.out 1; have hcz28_2 : w23.cell? ⟨gb163, 2, none⟩ = some (.int .i64 ((rd_T48 l0_0 x10_1).f2)) := bc_ BK163.out 2; have hfz28_0 := blk_frozen BK163.out 0; have hfz28_1 := blk_frozen BK163.out 1; have hfz28_2 := blk_frozen BK163.out 2) | ((with_reducible refine gate_callee (f := 27) rfl ?_); refine goesL_ (some 23) rfl rfl Try.func27 (by kernel_rfl) rfl #[.agg #[.string ((rd_T48 l0_0 x10_1).f0), .int .i64 ((rd_T48 l0_0 x10_1).f1), .int .i64 ((rd_T48 l0_0 x10_1).f2)], .agg #[.string ((rd_T48 l0_1 x17_2).f0), .int .i64 ((rd_T48 l0_1 x17_2).f1), .int .i64 ((rd_T48 l0_1 x17_2).f2)]] rfl nc_ ?_; (with_reducible refine (spec_l14Same.calls ((rd_T48 l0_0 x10_1).f0) ((rd_T48 l0_0 x10_1).f1) ((rd_T48 l0_0 x10_1).f2) ((rd_T48 l0_1 x17_2).f0) ((rd_T48 l0_1 x17_2).f1) ((rd_T48 l0_1 x17_2).f2) false _ A14.out).mono ?_); rintro e w29 ⟨rfl, hb⟩; refine ⟨_, rfl, ?_⟩; replace BK159 := Aside0.mk (blk_below (g := gb159) (o := .cells #[.slice (some ad162) l0_0.length c0_0, .slice (some ad164) l0_1.length c0_1] 29 (0, 0)) kz_ hb); replace BK163 := Aside0.mk (blk_below (g := gb163) (o := .cells #[.string ((rd_T48 l0_0 x10_1).f0), .int .i64 ((rd_T48 l0_0 x10_1).f1), .int .i64 ((rd_T48 l0_0 x10_1).f2)] 48 (0, 0)) kz_ hb); replace BK165 := Aside0.mk (blk_below (g := gb165) (o := .cells #[.string ((rd_T48 l0_1 x17_2).f0), .int .i64 ((rd_T48 l0_1 x17_2).f1), .int .i64 ((rd_T48 l0_1 x17_2).f2)] 48 (0, 0)) (by (with_reducible repeat (first | refine blk_drewN ?_ _ | refine blk_drew ?_ | refine blk_alloc ?_ _)); refine blk_put (cs := #[.string ((rd_T48 l0_1 x17_2).f0), .int .i64 ((rd_T48 l0_1 x17_2).f1), .int .i64 0]) ?_ 2 _ rfl; (with_reducible repeat (first | refine blk_drewN ?_ _ | refine blk_drew ?_ | refine blk_alloc ?_ _)); refine blk_put (cs := #[.string ((rd_T48 l0_1 x17_2).f0), .int .i64 0, .int .i64 0]) ?_ 1 _ rfl; (with_reducible repeat (first | refine blk_drewN ?_ _ | refine blk_drew ?_ | refine blk_alloc ?_ _)); refine blk_put (cs := #[.string (⟨#[]⟩ : ByteArray), .int .i64 0, .int .i64 0]) ?_ 0 _ rfl; exact kb_ BK165.out) hb); replace HB := Aside0.mk (below_step bl_ hb); clear hb))
 go_roundg k2
 case measure => have := HK1.out; have := HK2.out; omega
 case rel => exact ⟨(wrap64 (x17_2 + 1)), (by first | rfl | (simp; done) | (simp [*]; done)), H', ⟨by have := HK1.out; have := HK2.out; omega⟩, ⟨by exact kb_ BK159.out⟩, ⟨by exact kb_ BK163.out⟩, ⟨bl_⟩⟩

/-! ### spec_l3Cells: function 44 -/
def spec_l3Cells.l0 : Nat → List (S65) → Int → ByteArray → ByteArray → Option ((List (S65)))
 | 0, _, _, _, _ => none
 | k + 1, x0, x5, x168000, x168001 => if x5 < (x0.length : Int) then (if 0 ≤ x5 then (if (Op.bytesLess (((rd_T65 x0 x5).f0).toList) x168000.toList) = true then (spec_l3Cells.l0 k x0 (wrap64 (x5 + 1)) x168000 x168001) else (if x5 ≤ (x0.length : Int) then ((some (x0.take (x5 : Int).toNat : List (S65))).bind fun y169 => (if ([] : List (S65)).length + y169.length < 4398046511104 then ((some (([] : List (S65)) ++ y169 : List (S65))).bind fun y173 => (if y173.length < 4398046511104 then ((some (y173 ++ [(⟨x168000, x168001⟩ : S65)] : List (S65))).bind fun y176 => (if ((rd_T65 x0 x5).f0).toList = x168000.toList then (if 0 ≤ (wrap64 (x5 + 1)) then (if (wrap64 (x5 + 1)) ≤ (x0.length : Int) then ((some (x0.drop ((wrap64 (x5 + 1)) : Int).toNat : List (S65))).bind fun y180 => (if y176.length + y180.length < 4398046511104 then (some (y176 ++ y180)) else (none))) else (none)) else (none)) else ((some (x0.drop (x5 : Int).toNat : List (S65))).bind fun y187 => (if y176.length + y187.length < 4398046511104 then (some (y176 ++ y187)) else (none))))) else (none))) else (none))) else (none))) else (none)) else (if 0 ≤ x5 then (if x5 ≤ (x0.length : Int) then ((some (x0.take (x5 : Int).toNat : List (S65))).bind fun y194 => (if ([] : List (S65)).length + y194.length < 4398046511104 then ((some (([] : List (S65)) ++ y194 : List (S65))).bind fun y198 => (if y198.length < 4398046511104 then ((some (y198 ++ [(⟨x168000, x168001⟩ : S65)] : List (S65))).bind fun y201 => ((some (x0.drop (x5 : Int).toNat : List (S65))).bind fun y204 => (if y201.length + y204.length < 4398046511104 then (some (y201 ++ y204)) else (none)))) else (none))) else (none))) else (none)) else (none))
def spec_l3Cells.f (k : Nat) (l0 : List (S65)) (a1_0 : ByteArray) (a1_1 : ByteArray) : Option ((List (S65))) := spec_l3Cells.l0 k l0 0 a1_0 a1_1
theorem spec_l3Cells.mono_l : ∀ k, (∀ y0 y1 y2 y3, LeO (spec_l3Cells.l0 k y0 y1 y2 y3) (spec_l3Cells.l0 (k + 1) y0 y1 y2 y3))
 | 0 => fun _ _ _ _ r h => by simp [spec_l3Cells.l0] at h
 | k + 1 => by
  have ih0 := spec_l3Cells.mono_l k
  ·intro y0 y1 y2 y3
   unfold spec_l3Cells.l0
   repeat' first
   | (with_reducible exact ih0 _ _ _ _)
   | (with_reducible exact LeO.refl _)
   | (with_reducible exact LeO.none _)
   | (with_reducible refine LeO.ite ?_ ?_)
   | (with_reducible refine LeO.bind ?_ (fun _ => ?_))
   | exact ih0 _ _ _ _
   | exact LeO.none _
   | refine LeO.ite ?_ ?_
   | refine LeO.bind ?_ (fun _ => ?_)
theorem spec_l3Cells.mono : ∀ a0 a1 a2 k, LeO (spec_l3Cells.f k a0 a1 a2) (spec_l3Cells.f (k + 1) a0 a1 a2) := by
 intro a0 a1 a2 k
 have ih0 := spec_l3Cells.mono_l k
 unfold spec_l3Cells.f
 repeat' first
   | (with_reducible exact ih0 _ _ _ _)
   | (with_reducible exact LeO.refl _)
   | (with_reducible exact LeO.none _)
   | (with_reducible refine LeO.ite ?_ ?_)
   | (with_reducible refine LeO.bind ?_ (fun _ => ?_))
   | exact ih0 _ _ _ _
   | exact LeO.none _
   | refine LeO.ite ?_ ?_
   | refine LeO.bind ?_ (fun _ => ?_)
set_option maxHeartbeats 8000000 in
set_option maxRecDepth 100000 in
theorem spec_l3Cells.calls (k : Nat) (A0 : Option Addr) (c0 : Nat) (l0 : List (S65)) (a1_0 : ByteArray) (a1_1 : ByteArray) (r : List (S65)) (w : World) (hr0 : Kd.C k65 w A0 l0.length l0) (hc0 : l0.length ≤ c0) (h : spec_l3Cells.f k l0 a1_0 a1_1 = some r) :
  Calls Try.prog 44 #[.slice A0 l0.length c0, .agg #[.string a1_0, .string a1_1]] w fun e w' => ∃ v0_ : Value, e = .returned (v0_) ∧ Kd.R k65 65 w' w.heap.size (fun _ => True) v0_ r ∧ Below w.heap.size w w' := by
 have hu65 := Try.underlying65
 have HR0 := Aside0.mk hr0
 have HC0 := Aside0.mk hc0
 clear hr0 hc0
 have HB := Aside0.mk (Below.refl w.heap.size w)
 have H : (spec_l3Cells.l0 k l0 0 a1_0 a1_1) = some r := h
 clear h
 have H' := Aside0.mk H
 clear H
 go_enter Try.func44, Try.ntmps44
 go_wp2_with (first | ((with_reducible refine gate_dst (N := 3) rfl ?_); refine box_event rfl (N := 3) rfl (cs := #[.string a1_0, .string a1_1]) (t := 65) gs_ ?_; intro gb167 hg w3 hbox hb; have BK167 := Aside0.mk (hbox); have GW167 := Aside0.mk ((by rw [hg]; exact bz_ : w.heap.size ≤ gb167)); have GE167 := GW167; replace HB := Aside0.mk (below_step bl_ hb); clear hb hbox hg))
 repeat (go_quiet (first | ((with_reducible refine gate_dst (N := 3) rfl ?_); refine box_event rfl (N := 3) rfl (cs := #[.string a1_0, .string a1_1]) (t := 65) gs_ ?_; intro gb167 hg w3 hbox hb; have BK167 := Aside0.mk (hbox); have GW167 := Aside0.mk ((by rw [hg]; exact bz_ : w.heap.size ≤ gb167)); have GE167 := GW167; replace HB := Aside0.mk (below_step bl_ hb); clear hb hbox hg)); try go_wp2_with (first | ((with_reducible refine gate_dst (N := 3) rfl ?_); refine box_event rfl (N := 3) rfl (cs := #[.string a1_0, .string a1_1]) (t := 65) gs_ ?_; intro gb167 hg w3 hbox hb; have BK167 := Aside0.mk (hbox); have GW167 := Aside0.mk ((by rw [hg]; exact bz_ : w.heap.size ≤ gb167)); have GE167 := GW167; replace HB := Aside0.mk (below_step bl_ hb); clear hb hbox hg)))
 go_loopg [5] k (fun kq v5 w' => ∃ (x5_1 : Int), v5 = .int .i64 x5_1 ∧ Aside0 (spec_l3Cells.l0 kq l0 x5_1 a1_0 a1_1 = some r) ∧ Aside0 (kq ≤ k) ∧ Aside0 (w'.heap[gb167]? = some (.cells #[.string a1_0, .string a1_1] 65 (0, 0))) ∧ Aside0 (Below w.heap.size w w'))
 case atStart => exact ⟨(0), (by first | rfl | (simp; done) | (simp [*]; done)), H', ⟨Nat.le_refl _⟩, ⟨by exact kb_ BK167.out⟩, ⟨bl_⟩⟩
 clear H'
 try clear p2
 obtain ⟨x5_1, rfl, HA, HK1, BK167, HB⟩ := hrel
 cases gk with
 | zero => exact absurd HA.out (by simp [spec_l3Cells.l0])
 | succ k1 => ?_
 have H := HA.out
 clear HA
 simp only [spec_l3Cells.l0] at H
 by_cases c4 : x5_1 < (l0.length : Int)
 rotate_left
 ·rw [if_neg c4] at H
  have c4b0 : decide (x5_1 < (l0.length : Int)) = false := decide_eq_false c4
  clear c4
  by_cases c36 : 0 ≤ x5_1
  rotate_left
  ·rw [if_neg c36] at H
   exact absurd H (by simp)
  rw [if_pos c36] at H
  have c36b0 := eq_true c36
  have c36b1 : decide (0 ≤ x5_1) = true := decide_eq_true c36
  clear c36
  by_cases c37 : x5_1 ≤ (l0.length : Int)
  rotate_left
  ·rw [if_neg c37] at H
   exact absurd H (by simp)
  rw [if_pos c37] at H
  have c37b0 := eq_true c37
  have c37b1 : decide (x5_1 ≤ (l0.length : Int)) = true := decide_eq_true c37
  clear c37
  obtain ⟨y194, hy194⟩ : ∃ y_ : List (S65), y_ = (l0.take (x5_1 : Int).toNat) := ⟨_, rfl⟩
  replace H : (if ([] : List (S65)).length + y194.length < 4398046511104 then ((some (([] : List (S65)) ++ y194 : List (S65))).bind fun y198 => (if y198.length < 4398046511104 then ((some (y198 ++ [(⟨a1_0, a1_1⟩ : S65)] : List (S65))).bind fun y201 => ((some (l0.drop (x5_1 : Int).toNat : List (S65))).bind fun y204 => (if y201.length + y204.length < 4398046511104 then (some (y201 ++ y204)) else (none)))) else (none))) else (none)) = some r := by first | (rw [hy194]; with_reducible exact H) | (have H2_ := (Option.bind_some _ _).symm.trans H; rw [hy194]; with_reducible exact H2_) | (have H2_ := (Option.bind_some _ _).symm.trans H; with_reducible exact H2_) | with_reducible exact H | (rw [hy194]; exact H) | exact H
  have Ny194 := Aside0.mk hy194
  clear hy194
  by_cases c38 : ([] : List (S65)).length + y194.length < 4398046511104
  rotate_left
  ·rw [if_neg c38] at H
   exact absurd H (by simp)
  rw [if_pos c38] at H
  have LMc38 := Aside0.mk c38
  clear c38
  obtain ⟨y198, hy198⟩ : ∃ y_ : List (S65), y_ = (([] : List (S65)) ++ y194) := ⟨_, rfl⟩
  replace H : (if y198.length < 4398046511104 then ((some (y198 ++ [(⟨a1_0, a1_1⟩ : S65)] : List (S65))).bind fun y201 => ((some (l0.drop (x5_1 : Int).toNat : List (S65))).bind fun y204 => (if y201.length + y204.length < 4398046511104 then (some (y201 ++ y204)) else (none)))) else (none)) = some r := by first | (rw [hy198]; with_reducible exact H) | (have H2_ := (Option.bind_some _ _).symm.trans H; rw [hy198]; with_reducible exact H2_) | (have H2_ := (Option.bind_some _ _).symm.trans H; with_reducible exact H2_) | with_reducible exact H | (rw [hy198]; exact H) | exact H
  have Ny198 := Aside0.mk hy198
  clear hy198
  by_cases c39 : y198.length < 4398046511104
  rotate_left
  ·rw [if_neg c39] at H
   exact absurd H (by simp)
  rw [if_pos c39] at H
  have LMc39 := Aside0.mk c39
  clear c39
  obtain ⟨y201, hy201⟩ : ∃ y_ : List (S65), y_ = (y198 ++ [(⟨a1_0, a1_1⟩ : S65)]) := ⟨_, rfl⟩
  replace H : ((some (l0.drop (x5_1 : Int).toNat : List (S65))).bind fun y204 => (if y201.length + y204.length < 4398046511104 then (some (y201 ++ y204)) else (none))) = some r := by first | (rw [hy201]; with_reducible exact H) | (have H2_ := (Option.bind_some _ _).symm.trans H; rw [hy201]; with_reducible exact H2_) | (have H2_ := (Option.bind_some _ _).symm.trans H; with_reducible exact H2_) | with_reducible exact H | (rw [hy201]; exact H) | exact H
  have Ny201 := Aside0.mk hy201
  clear hy201
  have c40b0 := eq_true (of_decide_eq_true (by first | (with_reducible assumption) | assumption) : 0 ≤ x5_1)
  have c41b0 := eq_true (of_decide_eq_true (by first | (with_reducible assumption) | assumption) : x5_1 ≤ (l0.length : Int))
  obtain ⟨y204, hy204⟩ : ∃ y_ : List (S65), y_ = (l0.drop (x5_1 : Int).toNat) := ⟨_, rfl⟩
  replace H : (if y201.length + y204.length < 4398046511104 then (some (y201 ++ y204)) else (none)) = some r := by first | (rw [hy204]; with_reducible exact H) | (have H2_ := (Option.bind_some _ _).symm.trans H; rw [hy204]; with_reducible exact H2_) | (have H2_ := (Option.bind_some _ _).symm.trans H; with_reducible exact H2_) | with_reducible exact H | (rw [hy204]; exact H) | exact H
  have Ny204 := Aside0.mk hy204
  clear hy204
  by_cases c42 : y201.length + y204.length < 4398046511104
  rotate_left
  ·rw [if_neg c42] at H
   exact absurd H (by simp)
  rw [if_pos c42] at H
  have LMc42 := Aside0.mk c42
  clear c42
  obtain ⟨y208, hy208⟩ : ∃ y_ : List (S65), y_ = (y201 ++ y204) := ⟨_, rfl⟩
  replace H : (some y208) = some r := by first | (rw [hy208]; with_reducible exact H) | (have H2_ := (Option.bind_some _ _).symm.trans H; rw [hy208]; with_reducible exact H2_) | (have H2_ := (Option.bind_some _ _).symm.trans H; with_reducible exact H2_) | with_reducible exact H | (rw [hy208]; exact H) | exact H
  have Ny208 := Aside0.mk hy208
  clear hy208
  obtain rfl := Option.some.inj H
  have q43 : (x5_1 : Int) ≤ ((l0.length : Int) : Int) := of_decide_eq_true (by first | (with_reducible assumption) | assumption)
  obtain ⟨i043, hi043, _, hsz43, _⟩ := info_parts info65
  have hroom43 : l0.length ≤ c0 := HC0.out
  have hC43 : Kd.C k65 _ A0 l0.length l0 := HR0.out
  have hcut43 := cut_to (P := Try.prog) 62 65 .i64 Try.underlying62 hi043 A0 l0.length c0 x5_1 (of_decide_eq_true (by first | (with_reducible assumption) | assumption)) q43 hroom43
  have hr43 := Kd.C_take (m := (x5_1 : Int).toNat) hC43 (by omega)
  have hy43 : y194.length = (x5_1 : Int).toNat := (by rw [Ny194.out, List.length_take]; omega)
  rw [← Ny194.out] at hr43
  rw [← hy43] at hcut43
  have HR197 := Aside0.mk hr43
  have HC197 := Aside0.mk (show y194.length ≤ c0 from by omega)
  clear hr43 hC43 hroom43 hi043 hsz43
  have KY43 := Aside0.mk hy43
  clear hy43
  replace q43 := eq_true q43
  go_wp2_with (first | ((with_reducible refine gate_builtin (b := .append) (xs := #[.tmp 23, .tmp 26]) rfl ?_); at_builtin; refine Kd.R_append_rows k65 (w0 := w) w.heap.size rfl (.tmp 23) (.tmp 26) 62 65 (.agg #[(.string ⟨#[]⟩), (.string ⟨#[]⟩)]) 32 rfl Try.underlying62 info65 rfl (by decide) (by omega) (.slice none 0 0) ([] : List (S65)) y194 _ _ _ (fun k_ => k_ ≠ gb167) (fun _ => False) rfl rfl ?aO ?aR (fun _ _ h => h) (fun _ h => h.elim) ?aF ?aB ?aS ?aL ?_; (case aR => exact kc_ (Kd.C_below HR197.out HB.out)); (case aB => exact bl_); (case aF => exact (fun k_ hk => Kd.freshB (kb_ BK167.out) k_ hk)); (case aO => exact ((Kd.R_nil _ _ _ _ (fun k_ => k_ ≠ gb167)))); (case aS => exact bz_); (case aL => have := LMc38.out; omega); intro v199 w44 ho hb hg hat; rw [← Ny198.out] at ho; replace BK167 := Aside0.mk (blk_grown (kb_ BK167.out) hg (by simp [Value.ownBlock])); replace HB := Aside0.mk (hb); have HO200 := Aside0.mk (ho); clear ho hb hg hat; have hcz45_0 : w44.cell? ⟨gb167, 0, none⟩ = some (.string a1_0) := bc_ BK167.out 0; have hcz45_1 : w44.cell? ⟨gb167, 1, none⟩ = some (.string a1_1) := bc_ BK167.out 1; have hfz45_0 := blk_frozen BK167.out 0; have hfz45_1 := blk_frozen BK167.out 1) | ((with_reducible refine gate_builtin (b := .append) (xs := #[.tmp 28, .tmp 30]) rfl ?_); at_builtin; refine Kd.R_append k65 (w0 := w) w.heap.size rfl (.tmp 28) (.tmp 30) 62 65 (.agg #[(.string ⟨#[]⟩), (.string ⟨#[]⟩)]) 32 rfl Try.underlying62 info65 rfl (by decide) (by omega) v199 y198 (⟨a1_0, a1_1⟩ : S65) [.string a1_0, .string a1_1] (fun k_ => k_ ≠ gb167) (fun _ => False) rfl rfl ?aP (fun _ hk => hk.elim) ?aF ?aO ?aB ?aS ?aL ?_; (case aP => exact k65_mkM _ _ _ (⟨a1_0, a1_1⟩ : S65)); (case aB => exact bl_); (case aF => exact (fun k_ hk => Kd.freshB (kb_ BK167.out) k_ hk)); (case aO => exact (kr_ HO200.out)); (case aS => exact bz_); (case aL => have := LMc39.out; omega); intro v202 w46 ho hb hg hat; rw [← Ny201.out] at ho; replace BK167 := Aside0.mk (blk_grown (kb_ BK167.out) hg (Kd.R_away HO200.out (fun _ hk => hk))); replace HB := Aside0.mk (hb); have HO203 := Aside0.mk (ho); clear HO200 ho hb hg hat; have q47 : (x5_1 : Int) ≤ ((l0.length : Int) : Int) := of_decide_eq_true (by first | (with_reducible assumption) | assumption); obtain ⟨i047, hi047, _, hsz47, _⟩ := info_parts info65; have hroom47 : l0.length ≤ c0 := HC0.out; have hC47 : Kd.C k65 _ A0 l0.length l0 := HR0.out; have q047 : (0 : Int) ≤ (x5_1 : Int) := of_decide_eq_true (by first | (with_reducible assumption) | assumption); have hcut47 := cut_from (P := Try.prog) 62 65 .i64 Try.underlying62 hi047 2 hsz47 A0 l0.length c0 x5_1 q047 q47; have hr47 := Kd.C_drop (m := (x5_1 : Int).toNat) (c := c0) hC47 (by omega) hroom47; obtain ⟨A47, hA47⟩ : ∃ A1, A1 = (if c0 = (x5_1 : Int).toNat then A0 else (A0 : Option Addr).map (·.add ((x5_1 : Int).toNat * 2))) := ⟨_, rfl⟩; obtain ⟨c47, hc47⟩ : ∃ c1, c1 = c0 - (x5_1 : Int).toNat := ⟨_, rfl⟩; have hy47 : y204.length = l0.length - (x5_1 : Int).toNat := (by rw [Ny204.out, List.length_drop] <;> omega); rw [show (l0).drop (x5_1 : Int).toNat = y204 from Ny204.out.symm] at hr47; replace hr47 : Kd.C k65 _ A47 y204.length y204 := (by rw [hA47]; exact hr47); rw [← hy47, ← hA47, ← hc47] at hcut47; have HR207 := Aside0.mk hr47; have HC207 := Aside0.mk (show y204.length ≤ c47 from by rw [hy47, hc47]; exact Nat.sub_le_sub_right hroom47 _); clear hr47 hC47 hroom47 hi047 hsz47 hc47; have KY47 := Aside0.mk hy47; have KA47 := Aside0.mk hA47; clear hy47 hA47; replace q47 := eq_true q47) | ((with_reducible refine gate_builtin (b := .append) (xs := #[.tmp 48, .tmp 51]) rfl ?_); at_builtin; refine Kd.R_append_rows k65 (w0 := w) w.heap.size rfl (.tmp 48) (.tmp 51) 62 65 (.agg #[(.string ⟨#[]⟩), (.string ⟨#[]⟩)]) 32 rfl Try.underlying62 info65 rfl (by decide) (by omega) v202 y201 y204 _ _ _ (fun k_ => k_ ≠ gb167) (fun _ => False) rfl rfl ?aO ?aR (fun _ _ h => h) (fun _ h => h.elim) ?aF ?aB ?aS ?aL ?_; (case aR => exact kc_ (Kd.C_below HR207.out HB.out)); (case aB => exact bl_); (case aF => exact (fun k_ hk => Kd.freshB (kb_ BK167.out) k_ hk)); (case aO => exact (kr_ HO203.out)); (case aS => exact bz_); (case aL => have := LMc42.out; omega); intro v209 w48 ho hb hg hat; rw [← Ny208.out] at ho; replace BK167 := Aside0.mk (blk_grown (kb_ BK167.out) hg (Kd.R_away HO203.out (fun _ hk => hk))); replace HB := Aside0.mk (hb); have HO210 := Aside0.mk (ho); clear HO203 ho hb hg hat))
  repeat (go_quiet (first | ((with_reducible refine gate_builtin (b := .append) (xs := #[.tmp 23, .tmp 26]) rfl ?_); at_builtin; refine Kd.R_append_rows k65 (w0 := w) w.heap.size rfl (.tmp 23) (.tmp 26) 62 65 (.agg #[(.string ⟨#[]⟩), (.string ⟨#[]⟩)]) 32 rfl Try.underlying62 info65 rfl (by decide) (by omega) (.slice none 0 0) ([] : List (S65)) y194 _ _ _ (fun k_ => k_ ≠ gb167) (fun _ => False) rfl rfl ?aO ?aR (fun _ _ h => h) (fun _ h => h.elim) ?aF ?aB ?aS ?aL ?_; (case aR => exact kc_ (Kd.C_below HR197.out HB.out)); (case aB => exact bl_); (case aF => exact (fun k_ hk => Kd.freshB (kb_ BK167.out) k_ hk)); (case aO => exact ((Kd.R_nil _ _ _ _ (fun k_ => k_ ≠ gb167)))); (case aS => exact bz_); (case aL => have := LMc38.out; omega); intro v199 w44 ho hb hg hat; rw [← Ny198.out] at ho; replace BK167 := Aside0.mk (blk_grown (kb_ BK167.out) hg (by simp [Value.ownBlock])); replace HB := Aside0.mk (hb); have HO200 := Aside0.mk (ho); clear ho hb hg hat; have hcz45_0 : w44.cell? ⟨gb167, 0, none⟩ = some (.string a1_0) := bc_ BK167.out 0; have hcz45_1 : w44.cell? ⟨gb167, 1, none⟩ = some (.string a1_1) := bc_ BK167.out 1; have hfz45_0 := blk_frozen BK167.out 0; have hfz45_1 := blk_frozen BK167.out 1) | ((with_reducible refine gate_builtin (b := .append) (xs := #[.tmp 28, .tmp 30]) rfl ?_); at_builtin; refine Kd.R_append k65 (w0 := w) w.heap.size rfl (.tmp 28) (.tmp 30) 62 65 (.agg #[(.string ⟨#[]⟩), (.string ⟨#[]⟩)]) 32 rfl Try.underlying62 info65 rfl (by decide) (by omega) v199 y198 (⟨a1_0, a1_1⟩ : S65) [.string a1_0, .string a1_1] (fun k_ => k_ ≠ gb167) (fun _ => False) rfl rfl ?aP (fun _ hk => hk.elim) ?aF ?aO ?aB ?aS ?aL ?_; (case aP => exact k65_mkM _ _ _ (⟨a1_0, a1_1⟩ : S65)); (case aB => exact bl_); (case aF => exact (fun k_ hk => Kd.freshB (kb_ BK167.out) k_ hk)); (case aO => exact (kr_ HO200.out)); (case aS => exact bz_); (case aL => have := LMc39.out; omega); intro v202 w46 ho hb hg hat; rw [← Ny201.out] at ho; replace BK167 := Aside0.mk (blk_grown (kb_ BK167.out) hg (Kd.R_away HO200.out (fun _ hk => hk))); replace HB := Aside0.mk (hb); have HO203 := Aside0.mk (ho); clear HO200 ho hb hg hat; have q47 : (x5_1 : Int) ≤ ((l0.length : Int) : Int) := of_decide_eq_true (by first | (with_reducible assumption) | assumption); obtain ⟨i047, hi047, _, hsz47, _⟩ := info_parts info65; have hroom47 : l0.length ≤ c0 := HC0.out; have hC47 : Kd.C k65 _ A0 l0.length l0 := HR0.out; have q047 : (0 : Int) ≤ (x5_1 : Int) := of_decide_eq_true (by first | (with_reducible assumption) | assumption); have hcut47 := cut_from (P := Try.prog) 62 65 .i64 Try.underlying62 hi047 2 hsz47 A0 l0.length c0 x5_1 q047 q47; have hr47 := Kd.C_drop (m := (x5_1 : Int).toNat) (c := c0) hC47 (by omega) hroom47; obtain ⟨A47, hA47⟩ : ∃ A1, A1 = (if c0 = (x5_1 : Int).toNat then A0 else (A0 : Option Addr).map (·.add ((x5_1 : Int).toNat * 2))) := ⟨_, rfl⟩; obtain ⟨c47, hc47⟩ : ∃ c1, c1 = c0 - (x5_1 : Int).toNat := ⟨_, rfl⟩; have hy47 : y204.length = l0.length - (x5_1 : Int).toNat := (by rw [Ny204.out, List.length_drop] <;> omega); rw [show (l0).drop (x5_1 : Int).toNat = y204 from Ny204.out.symm] at hr47; replace hr47 : Kd.C k65 _ A47 y204.length y204 := (by rw [hA47]; exact hr47); rw [← hy47, ← hA47, ← hc47] at hcut47; have HR207 := Aside0.mk hr47; have HC207 := Aside0.mk (show y204.length ≤ c47 from by rw [hy47, hc47]; exact Nat.sub_le_sub_right hroom47 _); clear hr47 hC47 hroom47 hi047 hsz47 hc47; have KY47 := Aside0.mk hy47; have KA47 := Aside0.mk hA47; clear hy47 hA47; replace q47 := eq_true q47) | ((with_reducible refine gate_builtin (b := .append) (xs := #[.tmp 48, .tmp 51]) rfl ?_); at_builtin; refine Kd.R_append_rows k65 (w0 := w) w.heap.size rfl (.tmp 48) (.tmp 51) 62 65 (.agg #[(.string ⟨#[]⟩), (.string ⟨#[]⟩)]) 32 rfl Try.underlying62 info65 rfl (by decide) (by omega) v202 y201 y204 _ _ _ (fun k_ => k_ ≠ gb167) (fun _ => False) rfl rfl ?aO ?aR (fun _ _ h => h) (fun _ h => h.elim) ?aF ?aB ?aS ?aL ?_; (case aR => exact kc_ (Kd.C_below HR207.out HB.out)); (case aB => exact bl_); (case aF => exact (fun k_ hk => Kd.freshB (kb_ BK167.out) k_ hk)); (case aO => exact (kr_ HO203.out)); (case aS => exact bz_); (case aL => have := LMc42.out; omega); intro v209 w48 ho hb hg hat; rw [← Ny208.out] at ho; replace BK167 := Aside0.mk (blk_grown (kb_ BK167.out) hg (Kd.R_away HO203.out (fun _ hk => hk))); replace HB := Aside0.mk (hb); have HO210 := Aside0.mk (ho); clear HO203 ho hb hg hat)); try go_wp2_with (first | ((with_reducible refine gate_builtin (b := .append) (xs := #[.tmp 23, .tmp 26]) rfl ?_); at_builtin; refine Kd.R_append_rows k65 (w0 := w) w.heap.size rfl (.tmp 23) (.tmp 26) 62 65 (.agg #[(.string ⟨#[]⟩), (.string ⟨#[]⟩)]) 32 rfl Try.underlying62 info65 rfl (by decide) (by omega) (.slice none 0 0) ([] : List (S65)) y194 _ _ _ (fun k_ => k_ ≠ gb167) (fun _ => False) rfl rfl ?aO ?aR (fun _ _ h => h) (fun _ h => h.elim) ?aF ?aB ?aS ?aL ?_; (case aR => exact kc_ (Kd.C_below HR197.out HB.out)); (case aB => exact bl_); (case aF => exact (fun k_ hk => Kd.freshB (kb_ BK167.out) k_ hk)); (case aO => exact ((Kd.R_nil _ _ _ _ (fun k_ => k_ ≠ gb167)))); (case aS => exact bz_); (case aL => have := LMc38.out; omega); intro v199 w44 ho hb hg hat; rw [← Ny198.out] at ho; replace BK167 := Aside0.mk (blk_grown (kb_ BK167.out) hg (by simp [Value.ownBlock])); replace HB := Aside0.mk (hb); have HO200 := Aside0.mk (ho); clear ho hb hg hat; have hcz45_0 : w44.cell? ⟨gb167, 0, none⟩ = some (.string a1_0) := bc_ BK167.out 0; have hcz45_1 : w44.cell? ⟨gb167, 1, none⟩ = some (.string a1_1) := bc_ BK167.out 1; have hfz45_0 := blk_frozen BK167.out 0; have hfz45_1 := blk_frozen BK167.out 1) | ((with_reducible refine gate_builtin (b := .append) (xs := #[.tmp 28, .tmp 30]) rfl ?_); at_builtin; refine Kd.R_append k65 (w0 := w) w.heap.size rfl (.tmp 28) (.tmp 30) 62 65 (.agg #[(.string ⟨#[]⟩), (.string ⟨#[]⟩)]) 32 rfl Try.underlying62 info65 rfl (by decide) (by omega) v199 y198 (⟨a1_0, a1_1⟩ : S65) [.string a1_0, .string a1_1] (fun k_ => k_ ≠ gb167) (fun _ => False) rfl rfl ?aP (fun _ hk => hk.elim) ?aF ?aO ?aB ?aS ?aL ?_; (case aP => exact k65_mkM _ _ _ (⟨a1_0, a1_1⟩ : S65)); (case aB => exact bl_); (case aF => exact (fun k_ hk => Kd.freshB (kb_ BK167.out) k_ hk)); (case aO => exact (kr_ HO200.out)); (case aS => exact bz_); (case aL => have := LMc39.out; omega); intro v202 w46 ho hb hg hat; rw [← Ny201.out] at ho; replace BK167 := Aside0.mk (blk_grown (kb_ BK167.out) hg (Kd.R_away HO200.out (fun _ hk => hk))); replace HB := Aside0.mk (hb); have HO203 := Aside0.mk (ho); clear HO200 ho hb hg hat; have q47 : (x5_1 : Int) ≤ ((l0.length : Int) : Int) := of_decide_eq_true (by first | (with_reducible assumption) | assumption); obtain ⟨i047, hi047, _, hsz47, _⟩ := info_parts info65; have hroom47 : l0.length ≤ c0 := HC0.out; have hC47 : Kd.C k65 _ A0 l0.length l0 := HR0.out; have q047 : (0 : Int) ≤ (x5_1 : Int) := of_decide_eq_true (by first | (with_reducible assumption) | assumption); have hcut47 := cut_from (P := Try.prog) 62 65 .i64 Try.underlying62 hi047 2 hsz47 A0 l0.length c0 x5_1 q047 q47; have hr47 := Kd.C_drop (m := (x5_1 : Int).toNat) (c := c0) hC47 (by omega) hroom47; obtain ⟨A47, hA47⟩ : ∃ A1, A1 = (if c0 = (x5_1 : Int).toNat then A0 else (A0 : Option Addr).map (·.add ((x5_1 : Int).toNat * 2))) := ⟨_, rfl⟩; obtain ⟨c47, hc47⟩ : ∃ c1, c1 = c0 - (x5_1 : Int).toNat := ⟨_, rfl⟩; have hy47 : y204.length = l0.length - (x5_1 : Int).toNat := (by rw [Ny204.out, List.length_drop] <;> omega); rw [show (l0).drop (x5_1 : Int).toNat = y204 from Ny204.out.symm] at hr47; replace hr47 : Kd.C k65 _ A47 y204.length y204 := (by rw [hA47]; exact hr47); rw [← hy47, ← hA47, ← hc47] at hcut47; have HR207 := Aside0.mk hr47; have HC207 := Aside0.mk (show y204.length ≤ c47 from by rw [hy47, hc47]; exact Nat.sub_le_sub_right hroom47 _); clear hr47 hC47 hroom47 hi047 hsz47 hc47; have KY47 := Aside0.mk hy47; have KA47 := Aside0.mk hA47; clear hy47 hA47; replace q47 := eq_true q47) | ((with_reducible refine gate_builtin (b := .append) (xs := #[.tmp 48, .tmp 51]) rfl ?_); at_builtin; refine Kd.R_append_rows k65 (w0 := w) w.heap.size rfl (.tmp 48) (.tmp 51) 62 65 (.agg #[(.string ⟨#[]⟩), (.string ⟨#[]⟩)]) 32 rfl Try.underlying62 info65 rfl (by decide) (by omega) v202 y201 y204 _ _ _ (fun k_ => k_ ≠ gb167) (fun _ => False) rfl rfl ?aO ?aR (fun _ _ h => h) (fun _ h => h.elim) ?aF ?aB ?aS ?aL ?_; (case aR => exact kc_ (Kd.C_below HR207.out HB.out)); (case aB => exact bl_); (case aF => exact (fun k_ hk => Kd.freshB (kb_ BK167.out) k_ hk)); (case aO => exact (kr_ HO203.out)); (case aS => exact bz_); (case aL => have := LMc42.out; omega); intro v209 w48 ho hb hg hat; rw [← Ny208.out] at ho; replace BK167 := Aside0.mk (blk_grown (kb_ BK167.out) hg (Kd.R_away HO203.out (fun _ hk => hk))); replace HB := Aside0.mk (hb); have HO210 := Aside0.mk (ho); clear HO203 ho hb hg hat)))
  go_ret
  exact ⟨_, ng_, by exact kr_ (Kd.R_mono HO210.out (fun _ hk => trivial)), bl_⟩
 rw [if_pos c4] at H
 have c4b0 : decide (x5_1 < (l0.length : Int)) = true := decide_eq_true c4
 clear c4
 by_cases c5 : 0 ≤ x5_1
 rotate_left
 ·rw [if_neg c5] at H
  exact absurd H (by simp)
 rw [if_pos c5] at H
 have c5b0 : decide (0 ≤ x5_1) = true := decide_eq_true c5
 clear c5
 by_cases c6 : (Op.bytesLess (((rd_T65 l0 x5_1).f0).toList) a1_0.toList) = true
 ·rw [if_pos c6] at H
  have c6b0 : (Op.bytesLess (((rd_T65 l0 x5_1).f0).toList) a1_0.toList) = true := c6
  clear c6
  have H' := Aside0.mk H
  clear H
  have p168 : 0 ≤ (x5_1 : Int) := of_decide_eq_true (by first | (with_reducible assumption) | assumption)
  have q168 : x5_1 < (l0.length : Int) := of_decide_eq_true (by first | (with_reducible assumption) | assumption)
  obtain ⟨ad168, e168, hx168_0, hx168_1⟩ := at_T65 HR0.out x5_1 p168 q168
  cases e168
  replace hx168_0 := (HB.out.cell (World.block_lt_of_cell? w _ hx168_0)).trans hx168_0
  replace hx168_1 := (HB.out.cell (World.block_lt_of_cell? w _ hx168_1)).trans hx168_1
  replace p168 := eq_true p168
  replace q168 := eq_true q168
  have hcz7_0 : wr.cell? ⟨gb167, 0, none⟩ = some (.string a1_0) := bc_ BK167.out 0
  have hcz7_1 : wr.cell? ⟨gb167, 1, none⟩ = some (.string a1_1) := bc_ BK167.out 1
  have hfz7_0 := blk_frozen BK167.out 0
  have hfz7_1 := blk_frozen BK167.out 1
  go_wp2
  repeat (go_quiet (fail); try go_wp2)
  go_roundg k1
  case measure => have := HK1.out; omega
  case rel => exact ⟨(wrap64 (x5_1 + 1)), (by first | rfl | (simp; done) | (simp [*]; done)), H', ⟨by have := HK1.out; omega⟩, ⟨by exact kb_ BK167.out⟩, ⟨bl_⟩⟩
 rw [if_neg c6] at H
 have c6b0 : (Op.bytesLess (((rd_T65 l0 x5_1).f0).toList) a1_0.toList) = false := by simpa using c6
 clear c6
 have c8b0 := eq_true (of_decide_eq_true (by first | (with_reducible assumption) | assumption) : 0 ≤ x5_1)
 by_cases c9 : x5_1 ≤ (l0.length : Int)
 rotate_left
 ·rw [if_neg c9] at H
  exact absurd H (by simp)
 rw [if_pos c9] at H
 have c9b0 := eq_true c9
 have c9b1 : decide (x5_1 ≤ (l0.length : Int)) = true := decide_eq_true c9
 clear c9
 obtain ⟨y169, hy169⟩ : ∃ y_ : List (S65), y_ = (l0.take (x5_1 : Int).toNat) := ⟨_, rfl⟩
 replace H : (if ([] : List (S65)).length + y169.length < 4398046511104 then ((some (([] : List (S65)) ++ y169 : List (S65))).bind fun y173 => (if y173.length < 4398046511104 then ((some (y173 ++ [(⟨a1_0, a1_1⟩ : S65)] : List (S65))).bind fun y176 => (if ((rd_T65 l0 x5_1).f0).toList = a1_0.toList then (if 0 ≤ (wrap64 (x5_1 + 1)) then (if (wrap64 (x5_1 + 1)) ≤ (l0.length : Int) then ((some (l0.drop ((wrap64 (x5_1 + 1)) : Int).toNat : List (S65))).bind fun y180 => (if y176.length + y180.length < 4398046511104 then (some (y176 ++ y180)) else (none))) else (none)) else (none)) else ((some (l0.drop (x5_1 : Int).toNat : List (S65))).bind fun y187 => (if y176.length + y187.length < 4398046511104 then (some (y176 ++ y187)) else (none))))) else (none))) else (none)) = some r := by first | (rw [hy169]; with_reducible exact H) | (have H2_ := (Option.bind_some _ _).symm.trans H; rw [hy169]; with_reducible exact H2_) | (have H2_ := (Option.bind_some _ _).symm.trans H; with_reducible exact H2_) | with_reducible exact H | (rw [hy169]; exact H) | exact H
 have Ny169 := Aside0.mk hy169
 clear hy169
 by_cases c10 : ([] : List (S65)).length + y169.length < 4398046511104
 rotate_left
 ·rw [if_neg c10] at H
  exact absurd H (by simp)
 rw [if_pos c10] at H
 have LMc10 := Aside0.mk c10
 clear c10
 obtain ⟨y173, hy173⟩ : ∃ y_ : List (S65), y_ = (([] : List (S65)) ++ y169) := ⟨_, rfl⟩
 replace H : (if y173.length < 4398046511104 then ((some (y173 ++ [(⟨a1_0, a1_1⟩ : S65)] : List (S65))).bind fun y176 => (if ((rd_T65 l0 x5_1).f0).toList = a1_0.toList then (if 0 ≤ (wrap64 (x5_1 + 1)) then (if (wrap64 (x5_1 + 1)) ≤ (l0.length : Int) then ((some (l0.drop ((wrap64 (x5_1 + 1)) : Int).toNat : List (S65))).bind fun y180 => (if y176.length + y180.length < 4398046511104 then (some (y176 ++ y180)) else (none))) else (none)) else (none)) else ((some (l0.drop (x5_1 : Int).toNat : List (S65))).bind fun y187 => (if y176.length + y187.length < 4398046511104 then (some (y176 ++ y187)) else (none))))) else (none)) = some r := by first | (rw [hy173]; with_reducible exact H) | (have H2_ := (Option.bind_some _ _).symm.trans H; rw [hy173]; with_reducible exact H2_) | (have H2_ := (Option.bind_some _ _).symm.trans H; with_reducible exact H2_) | with_reducible exact H | (rw [hy173]; exact H) | exact H
 have Ny173 := Aside0.mk hy173
 clear hy173
 by_cases c11 : y173.length < 4398046511104
 rotate_left
 ·rw [if_neg c11] at H
  exact absurd H (by simp)
 rw [if_pos c11] at H
 have LMc11 := Aside0.mk c11
 clear c11
 obtain ⟨y176, hy176⟩ : ∃ y_ : List (S65), y_ = (y173 ++ [(⟨a1_0, a1_1⟩ : S65)]) := ⟨_, rfl⟩
 replace H : (if ((rd_T65 l0 x5_1).f0).toList = a1_0.toList then (if 0 ≤ (wrap64 (x5_1 + 1)) then (if (wrap64 (x5_1 + 1)) ≤ (l0.length : Int) then ((some (l0.drop ((wrap64 (x5_1 + 1)) : Int).toNat : List (S65))).bind fun y180 => (if y176.length + y180.length < 4398046511104 then (some (y176 ++ y180)) else (none))) else (none)) else (none)) else ((some (l0.drop (x5_1 : Int).toNat : List (S65))).bind fun y187 => (if y176.length + y187.length < 4398046511104 then (some (y176 ++ y187)) else (none)))) = some r := by first | (rw [hy176]; with_reducible exact H) | (have H2_ := (Option.bind_some _ _).symm.trans H; rw [hy176]; with_reducible exact H2_) | (have H2_ := (Option.bind_some _ _).symm.trans H; with_reducible exact H2_) | with_reducible exact H | (rw [hy176]; exact H) | exact H
 have Ny176 := Aside0.mk hy176
 clear hy176
 by_cases c12 : ((rd_T65 l0 x5_1).f0).toList = a1_0.toList
 rotate_left
 ·rw [if_neg c12] at H
  have c12b0 : (((rd_T65 l0 x5_1).f0).toList == a1_0.toList) = false := beq_eq_false_iff_ne.mpr c12
  have c12b1 : (((rd_T65 l0 x5_1).f0).toList != a1_0.toList) = true := bne_iff_ne.mpr c12
  have c25b0 := eq_true (of_decide_eq_true (by first | (with_reducible assumption) | assumption) : 0 ≤ x5_1)
  have c26b0 := eq_true (of_decide_eq_true (by first | (with_reducible assumption) | assumption) : x5_1 ≤ (l0.length : Int))
  obtain ⟨y187, hy187⟩ : ∃ y_ : List (S65), y_ = (l0.drop (x5_1 : Int).toNat) := ⟨_, rfl⟩
  replace H : (if y176.length + y187.length < 4398046511104 then (some (y176 ++ y187)) else (none)) = some r := by first | (rw [hy187]; with_reducible exact H) | (have H2_ := (Option.bind_some _ _).symm.trans H; rw [hy187]; with_reducible exact H2_) | (have H2_ := (Option.bind_some _ _).symm.trans H; with_reducible exact H2_) | with_reducible exact H | (rw [hy187]; exact H) | exact H
  have Ny187 := Aside0.mk hy187
  clear hy187
  by_cases c27 : y176.length + y187.length < 4398046511104
  rotate_left
  ·rw [if_neg c27] at H
   exact absurd H (by simp)
  rw [if_pos c27] at H
  have LMc27 := Aside0.mk c27
  clear c27
  obtain ⟨y191, hy191⟩ : ∃ y_ : List (S65), y_ = (y176 ++ y187) := ⟨_, rfl⟩
  replace H : (some y191) = some r := by first | (rw [hy191]; with_reducible exact H) | (have H2_ := (Option.bind_some _ _).symm.trans H; rw [hy191]; with_reducible exact H2_) | (have H2_ := (Option.bind_some _ _).symm.trans H; with_reducible exact H2_) | with_reducible exact H | (rw [hy191]; exact H) | exact H
  have Ny191 := Aside0.mk hy191
  clear hy191
  obtain rfl := Option.some.inj H
  have p168 : 0 ≤ (x5_1 : Int) := of_decide_eq_true (by first | (with_reducible assumption) | assumption)
  have q168 : x5_1 < (l0.length : Int) := of_decide_eq_true (by first | (with_reducible assumption) | assumption)
  obtain ⟨ad168, e168, hx168_0, hx168_1⟩ := at_T65 HR0.out x5_1 p168 q168
  cases e168
  replace hx168_0 := (HB.out.cell (World.block_lt_of_cell? w _ hx168_0)).trans hx168_0
  replace hx168_1 := (HB.out.cell (World.block_lt_of_cell? w _ hx168_1)).trans hx168_1
  replace p168 := eq_true p168
  replace q168 := eq_true q168
  have hcz28_0 : wr.cell? ⟨gb167, 0, none⟩ = some (.string a1_0) := bc_ BK167.out 0
  have hcz28_1 : wr.cell? ⟨gb167, 1, none⟩ = some (.string a1_1) := bc_ BK167.out 1
  have hfz28_0 := blk_frozen BK167.out 0
  have hfz28_1 := blk_frozen BK167.out 1
  have q29 : (x5_1 : Int) ≤ ((l0.length : Int) : Int) := of_decide_eq_true (by first | (with_reducible assumption) | assumption)
  obtain ⟨i029, hi029, _, hsz29, _⟩ := info_parts info65
  have hroom29 : l0.length ≤ c0 := HC0.out
  have hC29 : Kd.C k65 _ (some ad168) l0.length l0 := HR0.out
  have hcut29 := cut_to (P := Try.prog) 62 65 .i64 Try.underlying62 hi029 (some ad168) l0.length c0 x5_1 (of_decide_eq_true (by first | (with_reducible assumption) | assumption)) q29 hroom29
  have hr29 := Kd.C_take (m := (x5_1 : Int).toNat) hC29 (by omega)
  have hy29 : y169.length = (x5_1 : Int).toNat := (by rw [Ny169.out, List.length_take]; omega)
  rw [← Ny169.out] at hr29
  rw [← hy29] at hcut29
  have HR172 := Aside0.mk hr29
  have HC172 := Aside0.mk (show y169.length ≤ c0 from by omega)
  clear hr29 hC29 hroom29 hi029 hsz29
  have KY29 := Aside0.mk hy29
  clear hy29
  replace q29 := eq_true q29
  go_wp2_with (first | ((with_reducible refine gate_builtin (b := .append) (xs := #[.tmp 23, .tmp 26]) rfl ?_); at_builtin; refine Kd.R_append_rows k65 (w0 := w) w.heap.size rfl (.tmp 23) (.tmp 26) 62 65 (.agg #[(.string ⟨#[]⟩), (.string ⟨#[]⟩)]) 32 rfl Try.underlying62 info65 rfl (by decide) (by omega) (.slice none 0 0) ([] : List (S65)) y169 _ _ _ (fun k_ => k_ ≠ gb167) (fun _ => False) rfl rfl ?aO ?aR (fun _ _ h => h) (fun _ h => h.elim) ?aF ?aB ?aS ?aL ?_; (case aR => exact kc_ (Kd.C_below HR172.out HB.out)); (case aB => exact bl_); (case aF => exact (fun k_ hk => Kd.freshB (kb_ BK167.out) k_ hk)); (case aO => exact ((Kd.R_nil _ _ _ _ (fun k_ => k_ ≠ gb167)))); (case aS => exact bz_); (case aL => have := LMc10.out; omega); intro v174 w30 ho hb hg hat; rw [← Ny173.out] at ho; replace BK167 := Aside0.mk (blk_grown (kb_ BK167.out) hg (by simp [Value.ownBlock])); replace HB := Aside0.mk (hb); have HO175 := Aside0.mk (ho); clear ho hb hg hat; have hcz31_0 : w30.cell? ⟨gb167, 0, none⟩ = some (.string a1_0) := bc_ BK167.out 0; have hcz31_1 : w30.cell? ⟨gb167, 1, none⟩ = some (.string a1_1) := bc_ BK167.out 1; have hfz31_0 := blk_frozen BK167.out 0; have hfz31_1 := blk_frozen BK167.out 1) | ((with_reducible refine gate_builtin (b := .append) (xs := #[.tmp 28, .tmp 30]) rfl ?_); at_builtin; refine Kd.R_append k65 (w0 := w) w.heap.size rfl (.tmp 28) (.tmp 30) 62 65 (.agg #[(.string ⟨#[]⟩), (.string ⟨#[]⟩)]) 32 rfl Try.underlying62 info65 rfl (by decide) (by omega) v174 y173 (⟨a1_0, a1_1⟩ : S65) [.string a1_0, .string a1_1] (fun k_ => k_ ≠ gb167) (fun _ => False) rfl rfl ?aP (fun _ hk => hk.elim) ?aF ?aO ?aB ?aS ?aL ?_; (case aP => exact k65_mkM _ _ _ (⟨a1_0, a1_1⟩ : S65)); (case aB => exact bl_); (case aF => exact (fun k_ hk => Kd.freshB (kb_ BK167.out) k_ hk)); (case aO => exact (kr_ HO175.out)); (case aS => exact bz_); (case aL => have := LMc11.out; omega); intro v177 w32 ho hb hg hat; rw [← Ny176.out] at ho; replace BK167 := Aside0.mk (blk_grown (kb_ BK167.out) hg (Kd.R_away HO175.out (fun _ hk => hk))); replace HB := Aside0.mk (hb); have HO178 := Aside0.mk (ho); clear HO175 ho hb hg hat; have p179 : 0 ≤ (x5_1 : Int) := of_decide_eq_true (by first | (with_reducible assumption) | assumption); have q179 : x5_1 < (l0.length : Int) := of_decide_eq_true (by first | (with_reducible assumption) | assumption); obtain ⟨ad179, e179, hx179_0, hx179_1⟩ := at_T65 HR0.out x5_1 p179 q179; obtain rfl : ad168 = ad179 := (by injection e179); replace hx179_0 := (HB.out.cell (World.block_lt_of_cell? w _ hx179_0)).trans hx179_0; replace hx179_1 := (HB.out.cell (World.block_lt_of_cell? w _ hx179_1)).trans hx179_1; replace p179 := eq_true p179; replace q179 := eq_true q179; have hcz33_0 : w32.cell? ⟨gb167, 0, none⟩ = some (.string a1_0) := bc_ BK167.out 0; have hcz33_1 : w32.cell? ⟨gb167, 1, none⟩ = some (.string a1_1) := bc_ BK167.out 1; have hfz33_0 := blk_frozen BK167.out 0; have hfz33_1 := blk_frozen BK167.out 1; have q34 : (x5_1 : Int) ≤ ((l0.length : Int) : Int) := of_decide_eq_true (by first | (with_reducible assumption) | assumption); obtain ⟨i034, hi034, _, hsz34, _⟩ := info_parts info65; have hroom34 : l0.length ≤ c0 := HC0.out; have hC34 : Kd.C k65 _ (some ad168) l0.length l0 := HR0.out; have q034 : (0 : Int) ≤ (x5_1 : Int) := of_decide_eq_true (by first | (with_reducible assumption) | assumption); have hcut34 := cut_from (P := Try.prog) 62 65 .i64 Try.underlying62 hi034 2 hsz34 (some ad168) l0.length c0 x5_1 q034 q34; have hr34 := Kd.C_drop (m := (x5_1 : Int).toNat) (c := c0) hC34 (by omega) hroom34; obtain ⟨A34, hA34⟩ : ∃ A1, A1 = (if c0 = (x5_1 : Int).toNat then (some ad168) else ((some ad168) : Option Addr).map (·.add ((x5_1 : Int).toNat * 2))) := ⟨_, rfl⟩; obtain ⟨c34, hc34⟩ : ∃ c1, c1 = c0 - (x5_1 : Int).toNat := ⟨_, rfl⟩; have hy34 : y187.length = l0.length - (x5_1 : Int).toNat := (by rw [Ny187.out, List.length_drop] <;> omega); rw [show (l0).drop (x5_1 : Int).toNat = y187 from Ny187.out.symm] at hr34; replace hr34 : Kd.C k65 _ A34 y187.length y187 := (by rw [hA34]; exact hr34); rw [← hy34, ← hA34, ← hc34] at hcut34; have HR190 := Aside0.mk hr34; have HC190 := Aside0.mk (show y187.length ≤ c34 from by rw [hy34, hc34]; exact Nat.sub_le_sub_right hroom34 _); clear hr34 hC34 hroom34 hi034 hsz34 hc34; have KY34 := Aside0.mk hy34; have KA34 := Aside0.mk hA34; clear hy34 hA34; replace q34 := eq_true q34) | ((with_reducible refine gate_builtin (b := .append) (xs := #[.tmp 48, .tmp 51]) rfl ?_); at_builtin; refine Kd.R_append_rows k65 (w0 := w) w.heap.size rfl (.tmp 48) (.tmp 51) 62 65 (.agg #[(.string ⟨#[]⟩), (.string ⟨#[]⟩)]) 32 rfl Try.underlying62 info65 rfl (by decide) (by omega) v177 y176 y187 _ _ _ (fun k_ => k_ ≠ gb167) (fun _ => False) rfl rfl ?aO ?aR (fun _ _ h => h) (fun _ h => h.elim) ?aF ?aB ?aS ?aL ?_; (case aR => exact kc_ (Kd.C_below HR190.out HB.out)); (case aB => exact bl_); (case aF => exact (fun k_ hk => Kd.freshB (kb_ BK167.out) k_ hk)); (case aO => exact (kr_ HO178.out)); (case aS => exact bz_); (case aL => have := LMc27.out; omega); intro v192 w35 ho hb hg hat; rw [← Ny191.out] at ho; replace BK167 := Aside0.mk (blk_grown (kb_ BK167.out) hg (Kd.R_away HO178.out (fun _ hk => hk))); replace HB := Aside0.mk (hb); have HO193 := Aside0.mk (ho); clear HO178 ho hb hg hat))
  repeat (go_quiet (first | ((with_reducible refine gate_builtin (b := .append) (xs := #[.tmp 23, .tmp 26]) rfl ?_); at_builtin; refine Kd.R_append_rows k65 (w0 := w) w.heap.size rfl (.tmp 23) (.tmp 26) 62 65 (.agg #[(.string ⟨#[]⟩), (.string ⟨#[]⟩)]) 32 rfl Try.underlying62 info65 rfl (by decide) (by omega) (.slice none 0 0) ([] : List (S65)) y169 _ _ _ (fun k_ => k_ ≠ gb167) (fun _ => False) rfl rfl ?aO ?aR (fun _ _ h => h) (fun _ h => h.elim) ?aF ?aB ?aS ?aL ?_; (case aR => exact kc_ (Kd.C_below HR172.out HB.out)); (case aB => exact bl_); (case aF => exact (fun k_ hk => Kd.freshB (kb_ BK167.out) k_ hk)); (case aO => exact ((Kd.R_nil _ _ _ _ (fun k_ => k_ ≠ gb167)))); (case aS => exact bz_); (case aL => have := LMc10.out; omega); intro v174 w30 ho hb hg hat; rw [← Ny173.out] at ho; replace BK167 := Aside0.mk (blk_grown (kb_ BK167.out) hg (by simp [Value.ownBlock])); replace HB := Aside0.mk (hb); have HO175 := Aside0.mk (ho); clear ho hb hg hat; have hcz31_0 : w30.cell? ⟨gb167, 0, none⟩ = some (.string a1_0) := bc_ BK167.out 0; have hcz31_1 : w30.cell? ⟨gb167, 1, none⟩ = some (.string a1_1) := bc_ BK167.out 1; have hfz31_0 := blk_frozen BK167.out 0; have hfz31_1 := blk_frozen BK167.out 1) | ((with_reducible refine gate_builtin (b := .append) (xs := #[.tmp 28, .tmp 30]) rfl ?_); at_builtin; refine Kd.R_append k65 (w0 := w) w.heap.size rfl (.tmp 28) (.tmp 30) 62 65 (.agg #[(.string ⟨#[]⟩), (.string ⟨#[]⟩)]) 32 rfl Try.underlying62 info65 rfl (by decide) (by omega) v174 y173 (⟨a1_0, a1_1⟩ : S65) [.string a1_0, .string a1_1] (fun k_ => k_ ≠ gb167) (fun _ => False) rfl rfl ?aP (fun _ hk => hk.elim) ?aF ?aO ?aB ?aS ?aL ?_; (case aP => exact k65_mkM _ _ _ (⟨a1_0, a1_1⟩ : S65)); (case aB => exact bl_); (case aF => exact (fun k_ hk => Kd.freshB (kb_ BK167.out) k_ hk)); (case aO => exact (kr_ HO175.out)); (case aS => exact bz_); (case aL => have := LMc11.out; omega); intro v177 w32 ho hb hg hat; rw [← Ny176.out] at ho; replace BK167 := Aside0.mk (blk_grown (kb_ BK167.out) hg (Kd.R_away HO175.out (fun _ hk => hk))); replace HB := Aside0.mk (hb); have HO178 := Aside0.mk (ho); clear HO175 ho hb hg hat; have p179 : 0 ≤ (x5_1 : Int) := of_decide_eq_true (by first | (with_reducible assumption) | assumption); have q179 : x5_1 < (l0.length : Int) := of_decide_eq_true (by first | (with_reducible assumption) | assumption); obtain ⟨ad179, e179, hx179_0, hx179_1⟩ := at_T65 HR0.out x5_1 p179 q179; obtain rfl : ad168 = ad179 := (by injection e179); replace hx179_0 := (HB.out.cell (World.block_lt_of_cell? w _ hx179_0)).trans hx179_0; replace hx179_1 := (HB.out.cell (World.block_lt_of_cell? w _ hx179_1)).trans hx179_1; replace p179 := eq_true p179; replace q179 := eq_true q179; have hcz33_0 : w32.cell? ⟨gb167, 0, none⟩ = some (.string a1_0) := bc_ BK167.out 0; have hcz33_1 : w32.cell? ⟨gb167, 1, none⟩ = some (.string a1_1) := bc_ BK167.out 1; have hfz33_0 := blk_frozen BK167.out 0; have hfz33_1 := blk_frozen BK167.out 1; have q34 : (x5_1 : Int) ≤ ((l0.length : Int) : Int) := of_decide_eq_true (by first | (with_reducible assumption) | assumption); obtain ⟨i034, hi034, _, hsz34, _⟩ := info_parts info65; have hroom34 : l0.length ≤ c0 := HC0.out; have hC34 : Kd.C k65 _ (some ad168) l0.length l0 := HR0.out; have q034 : (0 : Int) ≤ (x5_1 : Int) := of_decide_eq_true (by first | (with_reducible assumption) | assumption); have hcut34 := cut_from (P := Try.prog) 62 65 .i64 Try.underlying62 hi034 2 hsz34 (some ad168) l0.length c0 x5_1 q034 q34; have hr34 := Kd.C_drop (m := (x5_1 : Int).toNat) (c := c0) hC34 (by omega) hroom34; obtain ⟨A34, hA34⟩ : ∃ A1, A1 = (if c0 = (x5_1 : Int).toNat then (some ad168) else ((some ad168) : Option Addr).map (·.add ((x5_1 : Int).toNat * 2))) := ⟨_, rfl⟩; obtain ⟨c34, hc34⟩ : ∃ c1, c1 = c0 - (x5_1 : Int).toNat := ⟨_, rfl⟩; have hy34 : y187.length = l0.length - (x5_1 : Int).toNat := (by rw [Ny187.out, List.length_drop] <;> omega); rw [show (l0).drop (x5_1 : Int).toNat = y187 from Ny187.out.symm] at hr34; replace hr34 : Kd.C k65 _ A34 y187.length y187 := (by rw [hA34]; exact hr34); rw [← hy34, ← hA34, ← hc34] at hcut34; have HR190 := Aside0.mk hr34; have HC190 := Aside0.mk (show y187.length ≤ c34 from by rw [hy34, hc34]; exact Nat.sub_le_sub_right hroom34 _); clear hr34 hC34 hroom34 hi034 hsz34 hc34; have KY34 := Aside0.mk hy34; have KA34 := Aside0.mk hA34; clear hy34 hA34; replace q34 := eq_true q34) | ((with_reducible refine gate_builtin (b := .append) (xs := #[.tmp 48, .tmp 51]) rfl ?_); at_builtin; refine Kd.R_append_rows k65 (w0 := w) w.heap.size rfl (.tmp 48) (.tmp 51) 62 65 (.agg #[(.string ⟨#[]⟩), (.string ⟨#[]⟩)]) 32 rfl Try.underlying62 info65 rfl (by decide) (by omega) v177 y176 y187 _ _ _ (fun k_ => k_ ≠ gb167) (fun _ => False) rfl rfl ?aO ?aR (fun _ _ h => h) (fun _ h => h.elim) ?aF ?aB ?aS ?aL ?_; (case aR => exact kc_ (Kd.C_below HR190.out HB.out)); (case aB => exact bl_); (case aF => exact (fun k_ hk => Kd.freshB (kb_ BK167.out) k_ hk)); (case aO => exact (kr_ HO178.out)); (case aS => exact bz_); (case aL => have := LMc27.out; omega); intro v192 w35 ho hb hg hat; rw [← Ny191.out] at ho; replace BK167 := Aside0.mk (blk_grown (kb_ BK167.out) hg (Kd.R_away HO178.out (fun _ hk => hk))); replace HB := Aside0.mk (hb); have HO193 := Aside0.mk (ho); clear HO178 ho hb hg hat)); try go_wp2_with (first | ((with_reducible refine gate_builtin (b := .append) (xs := #[.tmp 23, .tmp 26]) rfl ?_); at_builtin; refine Kd.R_append_rows k65 (w0 := w) w.heap.size rfl (.tmp 23) (.tmp 26) 62 65 (.agg #[(.string ⟨#[]⟩), (.string ⟨#[]⟩)]) 32 rfl Try.underlying62 info65 rfl (by decide) (by omega) (.slice none 0 0) ([] : List (S65)) y169 _ _ _ (fun k_ => k_ ≠ gb167) (fun _ => False) rfl rfl ?aO ?aR (fun _ _ h => h) (fun _ h => h.elim) ?aF ?aB ?aS ?aL ?_; (case aR => exact kc_ (Kd.C_below HR172.out HB.out)); (case aB => exact bl_); (case aF => exact (fun k_ hk => Kd.freshB (kb_ BK167.out) k_ hk)); (case aO => exact ((Kd.R_nil _ _ _ _ (fun k_ => k_ ≠ gb167)))); (case aS => exact bz_); (case aL => have := LMc10.out; omega); intro v174 w30 ho hb hg hat; rw [← Ny173.out] at ho; replace BK167 := Aside0.mk (blk_grown (kb_ BK167.out) hg (by simp [Value.ownBlock])); replace HB := Aside0.mk (hb); have HO175 := Aside0.mk (ho); clear ho hb hg hat; have hcz31_0 : w30.cell? ⟨gb167, 0, none⟩ = some (.string a1_0) := bc_ BK167.out 0; have hcz31_1 : w30.cell? ⟨gb167, 1, none⟩ = some (.string a1_1) := bc_ BK167.out 1; have hfz31_0 := blk_frozen BK167.out 0; have hfz31_1 := blk_frozen BK167.out 1) | ((with_reducible refine gate_builtin (b := .append) (xs := #[.tmp 28, .tmp 30]) rfl ?_); at_builtin; refine Kd.R_append k65 (w0 := w) w.heap.size rfl (.tmp 28) (.tmp 30) 62 65 (.agg #[(.string ⟨#[]⟩), (.string ⟨#[]⟩)]) 32 rfl Try.underlying62 info65 rfl (by decide) (by omega) v174 y173 (⟨a1_0, a1_1⟩ : S65) [.string a1_0, .string a1_1] (fun k_ => k_ ≠ gb167) (fun _ => False) rfl rfl ?aP (fun _ hk => hk.elim) ?aF ?aO ?aB ?aS ?aL ?_; (case aP => exact k65_mkM _ _ _ (⟨a1_0, a1_1⟩ : S65)); (case aB => exact bl_); (case aF => exact (fun k_ hk => Kd.freshB (kb_ BK167.out) k_ hk)); (case aO => exact (kr_ HO175.out)); (case aS => exact bz_); (case aL => have := LMc11.out; omega); intro v177 w32 ho hb hg hat; rw [← Ny176.out] at ho; replace BK167 := Aside0.mk (blk_grown (kb_ BK167.out) hg (Kd.R_away HO175.out (fun _ hk => hk))); replace HB := Aside0.mk (hb); have HO178 := Aside0.mk (ho); clear HO175 ho hb hg hat; have p179 : 0 ≤ (x5_1 : Int) := of_decide_eq_true (by first | (with_reducible assumption) | assumption); have q179 : x5_1 < (l0.length : Int) := of_decide_eq_true (by first | (with_reducible assumption) | assumption); obtain ⟨ad179, e179, hx179_0, hx179_1⟩ := at_T65 HR0.out x5_1 p179 q179; obtain rfl : ad168 = ad179 := (by injection e179); replace hx179_0 := (HB.out.cell (World.block_lt_of_cell? w _ hx179_0)).trans hx179_0; replace hx179_1 := (HB.out.cell (World.block_lt_of_cell? w _ hx179_1)).trans hx179_1; replace p179 := eq_true p179; replace q179 := eq_true q179; have hcz33_0 : w32.cell? ⟨gb167, 0, none⟩ = some (.string a1_0) := bc_ BK167.out 0; have hcz33_1 : w32.cell? ⟨gb167, 1, none⟩ = some (.string a1_1) := bc_ BK167.out 1; have hfz33_0 := blk_frozen BK167.out 0; have hfz33_1 := blk_frozen BK167.out 1; have q34 : (x5_1 : Int) ≤ ((l0.length : Int) : Int) := of_decide_eq_true (by first | (with_reducible assumption) | assumption); obtain ⟨i034, hi034, _, hsz34, _⟩ := info_parts info65; have hroom34 : l0.length ≤ c0 := HC0.out; have hC34 : Kd.C k65 _ (some ad168) l0.length l0 := HR0.out; have q034 : (0 : Int) ≤ (x5_1 : Int) := of_decide_eq_true (by first | (with_reducible assumption) | assumption); have hcut34 := cut_from (P := Try.prog) 62 65 .i64 Try.underlying62 hi034 2 hsz34 (some ad168) l0.length c0 x5_1 q034 q34; have hr34 := Kd.C_drop (m := (x5_1 : Int).toNat) (c := c0) hC34 (by omega) hroom34; obtain ⟨A34, hA34⟩ : ∃ A1, A1 = (if c0 = (x5_1 : Int).toNat then (some ad168) else ((some ad168) : Option Addr).map (·.add ((x5_1 : Int).toNat * 2))) := ⟨_, rfl⟩; obtain ⟨c34, hc34⟩ : ∃ c1, c1 = c0 - (x5_1 : Int).toNat := ⟨_, rfl⟩; have hy34 : y187.length = l0.length - (x5_1 : Int).toNat := (by rw [Ny187.out, List.length_drop] <;> omega); rw [show (l0).drop (x5_1 : Int).toNat = y187 from Ny187.out.symm] at hr34; replace hr34 : Kd.C k65 _ A34 y187.length y187 := (by rw [hA34]; exact hr34); rw [← hy34, ← hA34, ← hc34] at hcut34; have HR190 := Aside0.mk hr34; have HC190 := Aside0.mk (show y187.length ≤ c34 from by rw [hy34, hc34]; exact Nat.sub_le_sub_right hroom34 _); clear hr34 hC34 hroom34 hi034 hsz34 hc34; have KY34 := Aside0.mk hy34; have KA34 := Aside0.mk hA34; clear hy34 hA34; replace q34 := eq_true q34) | ((with_reducible refine gate_builtin (b := .append) (xs := #[.tmp 48, .tmp 51]) rfl ?_); at_builtin; refine Kd.R_append_rows k65 (w0 := w) w.heap.size rfl (.tmp 48) (.tmp 51) 62 65 (.agg #[(.string ⟨#[]⟩), (.string ⟨#[]⟩)]) 32 rfl Try.underlying62 info65 rfl (by decide) (by omega) v177 y176 y187 _ _ _ (fun k_ => k_ ≠ gb167) (fun _ => False) rfl rfl ?aO ?aR (fun _ _ h => h) (fun _ h => h.elim) ?aF ?aB ?aS ?aL ?_; (case aR => exact kc_ (Kd.C_below HR190.out HB.out)); (case aB => exact bl_); (case aF => exact (fun k_ hk => Kd.freshB (kb_ BK167.out) k_ hk)); (case aO => exact (kr_ HO178.out)); (case aS => exact bz_); (case aL => have := LMc27.out; omega); intro v192 w35 ho hb hg hat; rw [← Ny191.out] at ho; replace BK167 := Aside0.mk (blk_grown (kb_ BK167.out) hg (Kd.R_away HO178.out (fun _ hk => hk))); replace HB := Aside0.mk (hb); have HO193 := Aside0.mk (ho); clear HO178 ho hb hg hat)))
  go_ret
  exact ⟨_, ng_, by exact kr_ (Kd.R_mono HO193.out (fun _ hk => trivial)), bl_⟩
 rw [if_pos c12] at H
 have c12b0 : (((rd_T65 l0 x5_1).f0).toList == a1_0.toList) = true := beq_iff_eq.mpr c12
 have c12b1 : (((rd_T65 l0 x5_1).f0).toList != a1_0.toList) = false := bne_eq_false_iff_eq.mpr c12
 clear c12
 obtain ⟨ji13, hji13⟩ : ∃ j_ : Int, (wrap64 (x5_1 + 1)) = j_ := ⟨_, rfl⟩
 replace H : (if 0 ≤ (ji13) then (if (ji13) ≤ (l0.length : Int) then ((some (l0.drop ((ji13) : Int).toNat : List (S65))).bind fun y180 => (if y176.length + y180.length < 4398046511104 then (some (y176 ++ y180)) else (none))) else (none)) else (none)) = some r := by first | (rw [hji13] at H; exact H) | (simp only [hji13] at H ⊢; exact H)
 have hji13w : (IntKind.i64.wrap (x5_1 + 1)) = ji13 := (i64_w _).trans hji13
 by_cases c14 : 0 ≤ (ji13)
 rotate_left
 ·rw [if_neg c14] at H
  exact absurd H (by simp)
 rw [if_pos c14] at H
 have c14b0 := eq_true c14
 have c14b1 : decide (0 ≤ (ji13)) = true := decide_eq_true c14
 clear c14
 by_cases c15 : (ji13) ≤ (l0.length : Int)
 rotate_left
 ·rw [if_neg c15] at H
  exact absurd H (by simp)
 rw [if_pos c15] at H
 have c15b0 := eq_true c15
 have c15b1 : decide ((ji13) ≤ (l0.length : Int)) = true := decide_eq_true c15
 clear c15
 obtain ⟨y180, hy180⟩ : ∃ y_ : List (S65), y_ = (l0.drop ((ji13) : Int).toNat) := ⟨_, rfl⟩
 replace H : (if y176.length + y180.length < 4398046511104 then (some (y176 ++ y180)) else (none)) = some r := by first | (rw [hy180]; with_reducible exact H) | (have H2_ := (Option.bind_some _ _).symm.trans H; rw [hy180]; with_reducible exact H2_) | (have H2_ := (Option.bind_some _ _).symm.trans H; with_reducible exact H2_) | with_reducible exact H | (rw [hy180]; exact H) | exact H
 have Ny180 := Aside0.mk hy180
 clear hy180
 by_cases c16 : y176.length + y180.length < 4398046511104
 rotate_left
 ·rw [if_neg c16] at H
  exact absurd H (by simp)
 rw [if_pos c16] at H
 have LMc16 := Aside0.mk c16
 clear c16
 obtain ⟨y184, hy184⟩ : ∃ y_ : List (S65), y_ = (y176 ++ y180) := ⟨_, rfl⟩
 replace H : (some y184) = some r := by first | (rw [hy184]; with_reducible exact H) | (have H2_ := (Option.bind_some _ _).symm.trans H; rw [hy184]; with_reducible exact H2_) | (have H2_ := (Option.bind_some _ _).symm.trans H; with_reducible exact H2_) | with_reducible exact H | (rw [hy184]; exact H) | exact H
 have Ny184 := Aside0.mk hy184
 clear hy184
 obtain rfl := Option.some.inj H
 have p168 : 0 ≤ (x5_1 : Int) := of_decide_eq_true (by first | (with_reducible assumption) | assumption)
 have q168 : x5_1 < (l0.length : Int) := of_decide_eq_true (by first | (with_reducible assumption) | assumption)
 obtain ⟨ad168, e168, hx168_0, hx168_1⟩ := at_T65 HR0.out x5_1 p168 q168
 cases e168
 replace hx168_0 := (HB.out.cell (World.block_lt_of_cell? w _ hx168_0)).trans hx168_0
 replace hx168_1 := (HB.out.cell (World.block_lt_of_cell? w _ hx168_1)).trans hx168_1
 replace p168 := eq_true p168
 replace q168 := eq_true q168
 have hcz17_0 : wr.cell? ⟨gb167, 0, none⟩ = some (.string a1_0) := bc_ BK167.out 0
 have hcz17_1 : wr.cell? ⟨gb167, 1, none⟩ = some (.string a1_1) := bc_ BK167.out 1
 have hfz17_0 := blk_frozen BK167.out 0
 have hfz17_1 := blk_frozen BK167.out 1
 have q18 : (x5_1 : Int) ≤ ((l0.length : Int) : Int) := of_decide_eq_true (by first | (with_reducible assumption) | assumption)
 obtain ⟨i018, hi018, _, hsz18, _⟩ := info_parts info65
 have hroom18 : l0.length ≤ c0 := HC0.out
 have hC18 : Kd.C k65 _ (some ad168) l0.length l0 := HR0.out
 have hcut18 := cut_to (P := Try.prog) 62 65 .i64 Try.underlying62 hi018 (some ad168) l0.length c0 x5_1 (of_decide_eq_true (by first | (with_reducible assumption) | assumption)) q18 hroom18
 have hr18 := Kd.C_take (m := (x5_1 : Int).toNat) hC18 (by omega)
 have hy18 : y169.length = (x5_1 : Int).toNat := (by rw [Ny169.out, List.length_take]; omega)
 rw [← Ny169.out] at hr18
 rw [← hy18] at hcut18
 have HR172 := Aside0.mk hr18
 have HC172 := Aside0.mk (show y169.length ≤ c0 from by omega)
 clear hr18 hC18 hroom18 hi018 hsz18
 have KY18 := Aside0.mk hy18
 clear hy18
 replace q18 := eq_true q18
 go_wp2_with (first | ((with_reducible refine gate_builtin (b := .append) (xs := #[.tmp 23, .tmp 26]) rfl ?_); at_builtin; refine Kd.R_append_rows k65 (w0 := w) w.heap.size rfl (.tmp 23) (.tmp 26) 62 65 (.agg #[(.string ⟨#[]⟩), (.string ⟨#[]⟩)]) 32 rfl Try.underlying62 info65 rfl (by decide) (by omega) (.slice none 0 0) ([] : List (S65)) y169 _ _ _ (fun k_ => k_ ≠ gb167) (fun _ => False) rfl rfl ?aO ?aR (fun _ _ h => h) (fun _ h => h.elim) ?aF ?aB ?aS ?aL ?_; (case aR => exact kc_ (Kd.C_below HR172.out HB.out)); (case aB => exact bl_); (case aF => exact (fun k_ hk => Kd.freshB (kb_ BK167.out) k_ hk)); (case aO => exact ((Kd.R_nil _ _ _ _ (fun k_ => k_ ≠ gb167)))); (case aS => exact bz_); (case aL => have := LMc10.out; omega); intro v174 w19 ho hb hg hat; rw [← Ny173.out] at ho; replace BK167 := Aside0.mk (blk_grown (kb_ BK167.out) hg (by simp [Value.ownBlock])); replace HB := Aside0.mk (hb); have HO175 := Aside0.mk (ho); clear ho hb hg hat; have hcz20_0 : w19.cell? ⟨gb167, 0, none⟩ = some (.string a1_0) := bc_ BK167.out 0; have hcz20_1 : w19.cell? ⟨gb167, 1, none⟩ = some (.string a1_1) := bc_ BK167.out 1; have hfz20_0 := blk_frozen BK167.out 0; have hfz20_1 := blk_frozen BK167.out 1) | ((with_reducible refine gate_builtin (b := .append) (xs := #[.tmp 28, .tmp 30]) rfl ?_); at_builtin; refine Kd.R_append k65 (w0 := w) w.heap.size rfl (.tmp 28) (.tmp 30) 62 65 (.agg #[(.string ⟨#[]⟩), (.string ⟨#[]⟩)]) 32 rfl Try.underlying62 info65 rfl (by decide) (by omega) v174 y173 (⟨a1_0, a1_1⟩ : S65) [.string a1_0, .string a1_1] (fun k_ => k_ ≠ gb167) (fun _ => False) rfl rfl ?aP (fun _ hk => hk.elim) ?aF ?aO ?aB ?aS ?aL ?_; (case aP => exact k65_mkM _ _ _ (⟨a1_0, a1_1⟩ : S65)); (case aB => exact bl_); (case aF => exact (fun k_ hk => Kd.freshB (kb_ BK167.out) k_ hk)); (case aO => exact (kr_ HO175.out)); (case aS => exact bz_); (case aL => have := LMc11.out; omega); intro v177 w21 ho hb hg hat; rw [← Ny176.out] at ho; replace BK167 := Aside0.mk (blk_grown (kb_ BK167.out) hg (Kd.R_away HO175.out (fun _ hk => hk))); replace HB := Aside0.mk (hb); have HO178 := Aside0.mk (ho); clear HO175 ho hb hg hat; have p179 : 0 ≤ (x5_1 : Int) := of_decide_eq_true (by first | (with_reducible assumption) | assumption); have q179 : x5_1 < (l0.length : Int) := of_decide_eq_true (by first | (with_reducible assumption) | assumption); obtain ⟨ad179, e179, hx179_0, hx179_1⟩ := at_T65 HR0.out x5_1 p179 q179; obtain rfl : ad168 = ad179 := (by injection e179); replace hx179_0 := (HB.out.cell (World.block_lt_of_cell? w _ hx179_0)).trans hx179_0; replace hx179_1 := (HB.out.cell (World.block_lt_of_cell? w _ hx179_1)).trans hx179_1; replace p179 := eq_true p179; replace q179 := eq_true q179; have hcz22_0 : w21.cell? ⟨gb167, 0, none⟩ = some (.string a1_0) := bc_ BK167.out 0; have hcz22_1 : w21.cell? ⟨gb167, 1, none⟩ = some (.string a1_1) := bc_ BK167.out 1; have hfz22_0 := blk_frozen BK167.out 0; have hfz22_1 := blk_frozen BK167.out 1; have q23 : ((ji13) : Int) ≤ ((l0.length : Int) : Int) := of_decide_eq_true (by first | (with_reducible assumption) | assumption); obtain ⟨i023, hi023, _, hsz23, _⟩ := info_parts info65; have hroom23 : l0.length ≤ c0 := HC0.out; have hC23 : Kd.C k65 _ (some ad168) l0.length l0 := HR0.out; have q023 : (0 : Int) ≤ ((ji13) : Int) := of_decide_eq_true (by first | (with_reducible assumption) | assumption); have hcut23 := cut_from (P := Try.prog) 62 65 .i64 Try.underlying62 hi023 2 hsz23 (some ad168) l0.length c0 (ji13) q023 q23; have hr23 := Kd.C_drop (m := ((ji13) : Int).toNat) (c := c0) hC23 (by omega) hroom23; obtain ⟨A23, hA23⟩ : ∃ A1, A1 = (if c0 = ((ji13) : Int).toNat then (some ad168) else ((some ad168) : Option Addr).map (·.add (((ji13) : Int).toNat * 2))) := ⟨_, rfl⟩; obtain ⟨c23, hc23⟩ : ∃ c1, c1 = c0 - ((ji13) : Int).toNat := ⟨_, rfl⟩; have hy23 : y180.length = l0.length - ((ji13) : Int).toNat := (by rw [Ny180.out, List.length_drop] <;> omega); rw [show (l0).drop ((ji13) : Int).toNat = y180 from Ny180.out.symm] at hr23; replace hr23 : Kd.C k65 _ A23 y180.length y180 := (by rw [hA23]; exact hr23); rw [← hy23, ← hA23, ← hc23] at hcut23; have HR183 := Aside0.mk hr23; have HC183 := Aside0.mk (show y180.length ≤ c23 from by rw [hy23, hc23]; exact Nat.sub_le_sub_right hroom23 _); clear hr23 hC23 hroom23 hi023 hsz23 hc23; have KY23 := Aside0.mk hy23; have KA23 := Aside0.mk hA23; clear hy23 hA23; replace q23 := eq_true q23) | ((with_reducible refine gate_builtin (b := .append) (xs := #[.tmp 48, .tmp 51]) rfl ?_); at_builtin; refine Kd.R_append_rows k65 (w0 := w) w.heap.size rfl (.tmp 48) (.tmp 51) 62 65 (.agg #[(.string ⟨#[]⟩), (.string ⟨#[]⟩)]) 32 rfl Try.underlying62 info65 rfl (by decide) (by omega) v177 y176 y180 _ _ _ (fun k_ => k_ ≠ gb167) (fun _ => False) rfl rfl ?aO ?aR (fun _ _ h => h) (fun _ h => h.elim) ?aF ?aB ?aS ?aL ?_; (case aR => exact kc_ (Kd.C_below HR183.out HB.out)); (case aB => exact bl_); (case aF => exact (fun k_ hk => Kd.freshB (kb_ BK167.out) k_ hk)); (case aO => exact (kr_ HO178.out)); (case aS => exact bz_); (case aL => have := LMc16.out; omega); intro v185 w24 ho hb hg hat; rw [← Ny184.out] at ho; replace BK167 := Aside0.mk (blk_grown (kb_ BK167.out) hg (Kd.R_away HO178.out (fun _ hk => hk))); replace HB := Aside0.mk (hb); have HO186 := Aside0.mk (ho); clear HO178 ho hb hg hat))
 repeat (go_quiet (first | ((with_reducible refine gate_builtin (b := .append) (xs := #[.tmp 23, .tmp 26]) rfl ?_); at_builtin; refine Kd.R_append_rows k65 (w0 := w) w.heap.size rfl (.tmp 23) (.tmp 26) 62 65 (.agg #[(.string ⟨#[]⟩), (.string ⟨#[]⟩)]) 32 rfl Try.underlying62 info65 rfl (by decide) (by omega) (.slice none 0 0) ([] : List (S65)) y169 _ _ _ (fun k_ => k_ ≠ gb167) (fun _ => False) rfl rfl ?aO ?aR (fun _ _ h => h) (fun _ h => h.elim) ?aF ?aB ?aS ?aL ?_; (case aR => exact kc_ (Kd.C_below HR172.out HB.out)); (case aB => exact bl_); (case aF => exact (fun k_ hk => Kd.freshB (kb_ BK167.out) k_ hk)); (case aO => exact ((Kd.R_nil _ _ _ _ (fun k_ => k_ ≠ gb167)))); (case aS => exact bz_); (case aL => have := LMc10.out; omega); intro v174 w19 ho hb hg hat; rw [← Ny173.out] at ho; replace BK167 := Aside0.mk (blk_grown (kb_ BK167.out) hg (by simp [Value.ownBlock])); replace HB := Aside0.mk (hb); have HO175 := Aside0.mk (ho); clear ho hb hg hat; have hcz20_0 : w19.cell? ⟨gb167, 0, none⟩ = some (.string a1_0) := bc_ BK167.out 0; have hcz20_1 : w19.cell? ⟨gb167, 1, none⟩ = some (.string a1_1) := bc_ BK167.out 1; have hfz20_0 := blk_frozen BK167.out 0; have hfz20_1 := blk_frozen BK167.out 1) | ((with_reducible refine gate_builtin (b := .append) (xs := #[.tmp 28, .tmp 30]) rfl ?_); at_builtin; refine Kd.R_append k65 (w0 := w) w.heap.size rfl (.tmp 28) (.tmp 30) 62 65 (.agg #[(.string ⟨#[]⟩), (.string ⟨#[]⟩)]) 32 rfl Try.underlying62 info65 rfl (by decide) (by omega) v174 y173 (⟨a1_0, a1_1⟩ : S65) [.string a1_0, .string a1_1] (fun k_ => k_ ≠ gb167) (fun _ => False) rfl rfl ?aP (fun _ hk => hk.elim) ?aF ?aO ?aB ?aS ?aL ?_; (case aP => exact k65_mkM _ _ _ (⟨a1_0, a1_1⟩ : S65)); (case aB => exact bl_); (case aF => exact (fun k_ hk => Kd.freshB (kb_ BK167.out) k_ hk)); (case aO => exact (kr_ HO175.out)); (case aS => exact bz_); (case aL => have := LMc11.out; omega); intro v177 w21 ho hb hg hat; rw [← Ny176.out] at ho; replace BK167 := Aside0.mk (blk_grown (kb_ BK167.out) hg (Kd.R_away HO175.out (fun _ hk => hk))); replace HB := Aside0.mk (hb); have HO178 := Aside0.mk (ho); clear HO175 ho hb hg hat; have p179 : 0 ≤ (x5_1 : Int) := of_decide_eq_true (by first | (with_reducible assumption) | assumption); have q179 : x5_1 < (l0.length : Int) := of_decide_eq_true (by first | (with_reducible assumption) | assumption); obtain ⟨ad179, e179, hx179_0, hx179_1⟩ := at_T65 HR0.out x5_1 p179 q179; obtain rfl : ad168 = ad179 := (by injection e179); replace hx179_0 := (HB.out.cell (World.block_lt_of_cell? w _ hx179_0)).trans hx179_0; replace hx179_1 := (HB.out.cell (World.block_lt_of_cell? w _ hx179_1)).trans hx179_1; replace p179 := eq_true p179; replace q179 := eq_true q179; have hcz22_0 : w21.cell? ⟨gb167, 0, none⟩ = some (.string a1_0) := bc_ BK167.out 0; have hcz22_1 : w21.cell? ⟨gb167, 1, none⟩ = some (.string a1_1) := bc_ BK167.out 1; have hfz22_0 := blk_frozen BK167.out 0; have hfz22_1 := blk_frozen BK167.out 1; have q23 : ((ji13) : Int) ≤ ((l0.length : Int) : Int) := of_decide_eq_true (by first | (with_reducible assumption) | assumption); obtain ⟨i023, hi023, _, hsz23, _⟩ := info_parts info65; have hroom23 : l0.length ≤ c0 := HC0.out; have hC23 : Kd.C k65 _ (some ad168) l0.length l0 := HR0.out; have q023 : (0 : Int) ≤ ((ji13) : Int) := of_decide_eq_true (by first | (with_reducible assumption) | assumption); have hcut23 := cut_from (P := Try.prog) 62 65 .i64 Try.underlying62 hi023 2 hsz23 (some ad168) l0.length c0 (ji13) q023 q23; have hr23 := Kd.C_drop (m := ((ji13) : Int).toNat) (c := c0) hC23 (by omega) hroom23; obtain ⟨A23, hA23⟩ : ∃ A1, A1 = (if c0 = ((ji13) : Int).toNat then (some ad168) else ((some ad168) : Option Addr).map (·.add (((ji13) : Int).toNat * 2))) := ⟨_, rfl⟩; obtain ⟨c23, hc23⟩ : ∃ c1, c1 = c0 - ((ji13) : Int).toNat := ⟨_, rfl⟩; have hy23 : y180.length = l0.length - ((ji13) : Int).toNat := (by rw [Ny180.out, List.length_drop] <;> omega); rw [show (l0).drop ((ji13) : Int).toNat = y180 from Ny180.out.symm] at hr23; replace hr23 : Kd.C k65 _ A23 y180.length y180 := (by rw [hA23]; exact hr23); rw [← hy23, ← hA23, ← hc23] at hcut23; have HR183 := Aside0.mk hr23; have HC183 := Aside0.mk (show y180.length ≤ c23 from by rw [hy23, hc23]; exact Nat.sub_le_sub_right hroom23 _); clear hr23 hC23 hroom23 hi023 hsz23 hc23; have KY23 := Aside0.mk hy23; have KA23 := Aside0.mk hA23; clear hy23 hA23; replace q23 := eq_true q23) | ((with_reducible refine gate_builtin (b := .append) (xs := #[.tmp 48, .tmp 51]) rfl ?_); at_builtin; refine Kd.R_append_rows k65 (w0 := w) w.heap.size rfl (.tmp 48) (.tmp 51) 62 65 (.agg #[(.string ⟨#[]⟩), (.string ⟨#[]⟩)]) 32 rfl Try.underlying62 info65 rfl (by decide) (by omega) v177 y176 y180 _ _ _ (fun k_ => k_ ≠ gb167) (fun _ => False) rfl rfl ?aO ?aR (fun _ _ h => h) (fun _ h => h.elim) ?aF ?aB ?aS ?aL ?_; (case aR => exact kc_ (Kd.C_below HR183.out HB.out)); (case aB => exact bl_); (case aF => exact (fun k_ hk => Kd.freshB (kb_ BK167.out) k_ hk)); (case aO => exact (kr_ HO178.out)); (case aS => exact bz_); (case aL => have := LMc16.out; omega); intro v185 w24 ho hb hg hat; rw [← Ny184.out] at ho; replace BK167 := Aside0.mk (blk_grown (kb_ BK167.out) hg (Kd.R_away HO178.out (fun _ hk => hk))); replace HB := Aside0.mk (hb); have HO186 := Aside0.mk (ho); clear HO178 ho hb hg hat)); try go_wp2_with (first | ((with_reducible refine gate_builtin (b := .append) (xs := #[.tmp 23, .tmp 26]) rfl ?_); at_builtin; refine Kd.R_append_rows k65 (w0 := w) w.heap.size rfl (.tmp 23) (.tmp 26) 62 65 (.agg #[(.string ⟨#[]⟩), (.string ⟨#[]⟩)]) 32 rfl Try.underlying62 info65 rfl (by decide) (by omega) (.slice none 0 0) ([] : List (S65)) y169 _ _ _ (fun k_ => k_ ≠ gb167) (fun _ => False) rfl rfl ?aO ?aR (fun _ _ h => h) (fun _ h => h.elim) ?aF ?aB ?aS ?aL ?_; (case aR => exact kc_ (Kd.C_below HR172.out HB.out)); (case aB => exact bl_); (case aF => exact (fun k_ hk => Kd.freshB (kb_ BK167.out) k_ hk)); (case aO => exact ((Kd.R_nil _ _ _ _ (fun k_ => k_ ≠ gb167)))); (case aS => exact bz_); (case aL => have := LMc10.out; omega); intro v174 w19 ho hb hg hat; rw [← Ny173.out] at ho; replace BK167 := Aside0.mk (blk_grown (kb_ BK167.out) hg (by simp [Value.ownBlock])); replace HB := Aside0.mk (hb); have HO175 := Aside0.mk (ho); clear ho hb hg hat; have hcz20_0 : w19.cell? ⟨gb167, 0, none⟩ = some (.string a1_0) := bc_ BK167.out 0; have hcz20_1 : w19.cell? ⟨gb167, 1, none⟩ = some (.string a1_1) := bc_ BK167.out 1; have hfz20_0 := blk_frozen BK167.out 0; have hfz20_1 := blk_frozen BK167.out 1) | ((with_reducible refine gate_builtin (b := .append) (xs := #[.tmp 28, .tmp 30]) rfl ?_); at_builtin; refine Kd.R_append k65 (w0 := w) w.heap.size rfl (.tmp 28) (.tmp 30) 62 65 (.agg #[(.string ⟨#[]⟩), (.string ⟨#[]⟩)]) 32 rfl Try.underlying62 info65 rfl (by decide) (by omega) v174 y173 (⟨a1_0, a1_1⟩ : S65) [.string a1_0, .string a1_1] (fun k_ => k_ ≠ gb167) (fun _ => False) rfl rfl ?aP (fun _ hk => hk.elim) ?aF ?aO ?aB ?aS ?aL ?_; (case aP => exact k65_mkM _ _ _ (⟨a1_0, a1_1⟩ : S65)); (case aB => exact bl_); (case aF => exact (fun k_ hk => Kd.freshB (kb_ BK167.out) k_ hk)); (case aO => exact (kr_ HO175.out)); (case aS => exact bz_); (case aL => have := LMc11.out; omega); intro v177 w21 ho hb hg hat; rw [← Ny176.out] at ho; replace BK167 := Aside0.mk (blk_grown (kb_ BK167.out) hg (Kd.R_away HO175.out (fun _ hk => hk))); replace HB := Aside0.mk (hb); have HO178 := Aside0.mk (ho); clear HO175 ho hb hg hat; have p179 : 0 ≤ (x5_1 : Int) := of_decide_eq_true (by first | (with_reducible assumption) | assumption); have q179 : x5_1 < (l0.length : Int) := of_decide_eq_true (by first | (with_reducible assumption) | assumption); obtain ⟨ad179, e179, hx179_0, hx179_1⟩ := at_T65 HR0.out x5_1 p179 q179; obtain rfl : ad168 = ad179 := (by injection e179); replace hx179_0 := (HB.out.cell (World.block_lt_of_cell? w _ hx179_0)).trans hx179_0; replace hx179_1 := (HB.out.cell (World.block_lt_of_cell? w _ hx179_1)).trans hx179_1; replace p179 := eq_true p179; replace q179 := eq_true q179; have hcz22_0 : w21.cell? ⟨gb167, 0, none⟩ = some (.string a1_0) := bc_ BK167.out 0; have hcz22_1 : w21.cell? ⟨gb167, 1, none⟩ = some (.string a1_1) := bc_ BK167.out 1; have hfz22_0 := blk_frozen BK167.out 0; have hfz22_1 := blk_frozen BK167.out 1; have q23 : ((ji13) : Int) ≤ ((l0.length : Int) : Int) := of_decide_eq_true (by first | (with_reducible assumption) | assumption); obtain ⟨i023, hi023, _, hsz23, _⟩ := info_parts info65; have hroom23 : l0.length ≤ c0 := HC0.out; have hC23 : Kd.C k65 _ (some ad168) l0.length l0 := HR0.out; have q023 : (0 : Int) ≤ ((ji13) : Int) := of_decide_eq_true (by first | (with_reducible assumption) | assumption); have hcut23 := cut_from (P := Try.prog) 62 65 .i64 Try.underlying62 hi023 2 hsz23 (some ad168) l0.length c0 (ji13) q023 q23; have hr23 := Kd.C_drop (m := ((ji13) : Int).toNat) (c := c0) hC23 (by omega) hroom23; obtain ⟨A23, hA23⟩ : ∃ A1, A1 = (if c0 = ((ji13) : Int).toNat then (some ad168) else ((some ad168) : Option Addr).map (·.add (((ji13) : Int).toNat * 2))) := ⟨_, rfl⟩; obtain ⟨c23, hc23⟩ : ∃ c1, c1 = c0 - ((ji13) : Int).toNat := ⟨_, rfl⟩; have hy23 : y180.length = l0.length - ((ji13) : Int).toNat := (by rw [Ny180.out, List.length_drop] <;> omega); rw [show (l0).drop ((ji13) : Int).toNat = y180 from Ny180.out.symm] at hr23; replace hr23 : Kd.C k65 _ A23 y180.length y180 := (by rw [hA23]; exact hr23); rw [← hy23, ← hA23, ← hc23] at hcut23; have HR183 := Aside0.mk hr23; have HC183 := Aside0.mk (show y180.length ≤ c23 from by rw [hy23, hc23]; exact Nat.sub_le_sub_right hroom23 _); clear hr23 hC23 hroom23 hi023 hsz23 hc23; have KY23 := Aside0.mk hy23; have KA23 := Aside0.mk hA23; clear hy23 hA23; replace q23 := eq_true q23) | ((with_reducible refine gate_builtin (b := .append) (xs := #[.tmp 48, .tmp 51]) rfl ?_); at_builtin; refine Kd.R_append_rows k65 (w0 := w) w.heap.size rfl (.tmp 48) (.tmp 51) 62 65 (.agg #[(.string ⟨#[]⟩), (.string ⟨#[]⟩)]) 32 rfl Try.underlying62 info65 rfl (by decide) (by omega) v177 y176 y180 _ _ _ (fun k_ => k_ ≠ gb167) (fun _ => False) rfl rfl ?aO ?aR (fun _ _ h => h) (fun _ h => h.elim) ?aF ?aB ?aS ?aL ?_; (case aR => exact kc_ (Kd.C_below HR183.out HB.out)); (case aB => exact bl_); (case aF => exact (fun k_ hk => Kd.freshB (kb_ BK167.out) k_ hk)); (case aO => exact (kr_ HO178.out)); (case aS => exact bz_); (case aL => have := LMc16.out; omega); intro v185 w24 ho hb hg hat; rw [← Ny184.out] at ho; replace BK167 := Aside0.mk (blk_grown (kb_ BK167.out) hg (Kd.R_away HO178.out (fun _ hk => hk))); replace HB := Aside0.mk (hb); have HO186 := Aside0.mk (ho); clear HO178 ho hb hg hat)))
 go_ret
 exact ⟨_, by first | rfl | (simp [errW_none, errW_some] <;> rfl) | (simp only [← hji13]; first | rfl | (simp [errW_none, errW_some] <;> rfl)) | (simp [*, errW_none, errW_some] <;> rfl), by exact kr_ (Kd.R_mono HO186.out (fun _ hk => trivial)), bl_⟩

/-! ### spec_ValuesIn: function 19 -/
mutual
def spec_ValuesIn.l0 : Nat → List (S65) → List (S48) → Int → Int → Option (List ByteArray × Bool)
 | 0, _, _, _, _ => none
 | k + 1, x4, x14, x15, x16 => if x16 < x15 then (if 0 ≤ x16 then (if x16 < (x14.length : Int) then ((spec_l3Cells.f k x4 ((rd_T48 x14 x16).f0) (⟨#[]⟩ : ByteArray)).bind fun t215 => (spec_ValuesIn.l0 k t215 x14 x15 (wrap64 (x16 + 1)))) else (none)) else (none)) else (spec_ValuesIn.l1 k ([] : List ByteArray) x4 (x4.length : Int) 0)
def spec_ValuesIn.l1 : Nat → List ByteArray → List (S65) → Int → Int → Option (List ByteArray × Bool)
 | 0, _, _, _, _ => none
 | k + 1, x5, x26, x27, x28 => if x28 < x27 then (if 0 ≤ x28 then (if x28 < (x26.length : Int) then (if x5.length < 8796093022208 then (spec_ValuesIn.l1 k (x5 ++ [(rd_T65 x26 x28).f0]) x26 x27 (wrap64 (x28 + 1))) else (none)) else (none)) else (none)) else (some (x5, true))
end
def spec_ValuesIn.f (k : Nat) (l0_0 : List (S48)) (l0_1 : List (S48)) : Option (List ByteArray × Bool) := (spec_GoodBag.f k l0_0 l0_1).bind fun t212 => (if t212 = true then (spec_ValuesIn.l0 k ([] : List (S65)) l0_0 (l0_0.length : Int) 0) else (some (([] : List ByteArray), false)))
theorem spec_ValuesIn.mono_l : ∀ k, (∀ y0 y1 y2 y3, LeO (spec_ValuesIn.l0 k y0 y1 y2 y3) (spec_ValuesIn.l0 (k + 1) y0 y1 y2 y3)) ∧ (∀ y0 y1 y2 y3, LeO (spec_ValuesIn.l1 k y0 y1 y2 y3) (spec_ValuesIn.l1 (k + 1) y0 y1 y2 y3))
 | 0 => ⟨fun _ _ _ _ r h => by simp [spec_ValuesIn.l0] at h, fun _ _ _ _ r h => by simp [spec_ValuesIn.l1] at h⟩
 | k + 1 => by
  obtain ⟨ih0, ih1⟩ := spec_ValuesIn.mono_l k
  refine ⟨?_, ?_⟩
  ·intro y0 y1 y2 y3
   unfold spec_ValuesIn.l0
   repeat' first
   | (with_reducible exact ih0 _ _ _ _)
   | (with_reducible exact ih1 _ _ _ _)
   | (with_reducible exact spec_GoodBag.mono _ _ _)
   | (with_reducible exact spec_l3Cells.mono _ _ _ _)
   | (with_reducible exact LeO.refl _)
   | (with_reducible exact LeO.none _)
   | (with_reducible refine LeO.ite ?_ ?_)
   | (with_reducible refine LeO.bind ?_ (fun _ => ?_))
   | exact ih0 _ _ _ _
   | exact ih1 _ _ _ _
   | exact spec_GoodBag.mono _ _ _
   | exact spec_l3Cells.mono _ _ _ _
   | exact LeO.none _
   | refine LeO.ite ?_ ?_
   | refine LeO.bind ?_ (fun _ => ?_)
  ·intro y0 y1 y2 y3
   unfold spec_ValuesIn.l1
   repeat' first
   | (with_reducible exact ih0 _ _ _ _)
   | (with_reducible exact ih1 _ _ _ _)
   | (with_reducible exact spec_GoodBag.mono _ _ _)
   | (with_reducible exact spec_l3Cells.mono _ _ _ _)
   | (with_reducible exact LeO.refl _)
   | (with_reducible exact LeO.none _)
   | (with_reducible refine LeO.ite ?_ ?_)
   | (with_reducible refine LeO.bind ?_ (fun _ => ?_))
   | exact ih0 _ _ _ _
   | exact ih1 _ _ _ _
   | exact spec_GoodBag.mono _ _ _
   | exact spec_l3Cells.mono _ _ _ _
   | exact LeO.none _
   | refine LeO.ite ?_ ?_
   | refine LeO.bind ?_ (fun _ => ?_)
theorem spec_ValuesIn.mono : ∀ a0 a1 k, LeO (spec_ValuesIn.f k a0 a1) (spec_ValuesIn.f (k + 1) a0 a1) := by
 intro a0 a1 k
 obtain ⟨ih0, ih1⟩ := spec_ValuesIn.mono_l k
 unfold spec_ValuesIn.f
 repeat' first
   | (with_reducible exact ih0 _ _ _ _)
   | (with_reducible exact ih1 _ _ _ _)
   | (with_reducible exact spec_GoodBag.mono _ _ _)
   | (with_reducible exact spec_l3Cells.mono _ _ _ _)
   | (with_reducible exact LeO.refl _)
   | (with_reducible exact LeO.none _)
   | (with_reducible refine LeO.ite ?_ ?_)
   | (with_reducible refine LeO.bind ?_ (fun _ => ?_))
   | exact ih0 _ _ _ _
   | exact ih1 _ _ _ _
   | exact spec_GoodBag.mono _ _ _
   | exact spec_l3Cells.mono _ _ _ _
   | exact LeO.none _
   | refine LeO.ite ?_ ?_
   | refine LeO.bind ?_ (fun _ => ?_)
set_option maxHeartbeats 8000000 in
set_option maxRecDepth 100000 in
theorem spec_ValuesIn.calls (k : Nat) (A0_0 : Option Addr) (c0_0 : Nat) (l0_0 : List (S48)) (A0_1 : Option Addr) (c0_1 : Nat) (l0_1 : List (S48)) (r1 : List ByteArray) (r2 : Bool) (w : World) (hr0_0 : Kd.C k48 w A0_0 l0_0.length l0_0) (hc0_0 : l0_0.length ≤ c0_0) (hr0_1 : Kd.C k48 w A0_1 l0_1.length l0_1) (hc0_1 : l0_1.length ≤ c0_1) (h : spec_ValuesIn.f k l0_0 l0_1 = some (r1, r2)) :
  Calls Try.prog 19 #[.agg #[.slice A0_0 l0_0.length c0_0, .slice A0_1 l0_1.length c0_1]] w fun e w' => ∃ v0_ : Value, e = .returned (.tuple #[v0_, .bool r2]) ∧ Kd.R Kd.string 9 w' w.heap.size (fun _ => True) v0_ r1 ∧ Below w.heap.size w w' := by
 have hu29 := Try.underlying29
 have hu48 := Try.underlying48
 have hu65 := Try.underlying65
 have HR0_0 := Aside0.mk hr0_0
 have HC0_0 := Aside0.mk hc0_0
 clear hr0_0 hc0_0
 have HR0_1 := Aside0.mk hr0_1
 have HC0_1 := Aside0.mk hc0_1
 clear hr0_1 hc0_1
 have HB := Aside0.mk (Below.refl w.heap.size w)
 have H : ((spec_GoodBag.f k l0_0 l0_1).bind fun t212 => (if t212 = true then (spec_ValuesIn.l0 k ([] : List (S65)) l0_0 (l0_0.length : Int) 0) else (some (([] : List ByteArray), false)))) = some (r1, r2) := h
 clear h
 replace H := Option.bind_eq_some_iff.mp H
 obtain ⟨t212, A20, H⟩ := H
 replace H : (if t212 = true then (spec_ValuesIn.l0 k ([] : List (S65)) l0_0 (l0_0.length : Int) 0) else (some (([] : List ByteArray), false))) = some (r1, r2) := H
 have A2 := Aside0.mk A20
 clear A20
 by_cases c3 : t212 = true
 rotate_left
 ·replace c3 := Bool.eq_false_iff.mpr c3
  subst c3
  have H1 : (some (([] : List ByteArray), false)) = some (r1, r2) := by rw [if_neg (show ¬ (false = true) by decide)] at H; exact H
  clear H
  have H := H1
  clear H1
  simp only [Option.some.injEq, Prod.mk.injEq] at H
  obtain ⟨rfl, rfl⟩ := H
  go_enter Try.func19, Try.ntmps19
  go_wp2_with (first | ((with_reducible refine gate_dst (N := 1) rfl ?_); refine box_event rfl (N := 1) rfl (cs := #[.slice A0_0 l0_0.length c0_0, .slice A0_1 l0_1.length c0_1]) (t := 29) gs_ ?_; intro gb211 hg w26 hbox hb; have BK211 := Aside0.mk (hbox); have GW211 := Aside0.mk ((by rw [hg]; exact bz_ : w.heap.size ≤ gb211)); have GE211 := GW211; replace HB := Aside0.mk (below_step bl_ hb); clear hb hbox hg; have hcz27_0 : w26.cell? ⟨gb211, 0, none⟩ = some (.slice A0_0 l0_0.length c0_0) := bc_ BK211.out 0; have hcz27_1 : w26.cell? ⟨gb211, 1, none⟩ = some (.slice A0_1 l0_1.length c0_1) := bc_ BK211.out 1; have hfz27_0 := blk_frozen BK211.out 0; have hfz27_1 := blk_frozen BK211.out 1) | ((with_reducible refine gate_callee (f := 9) rfl ?_); refine goesL_ (some 11) rfl rfl Try.func9 (by kernel_rfl) rfl #[.agg #[.slice A0_0 l0_0.length c0_0, .slice A0_1 l0_1.length c0_1]] rfl nc_ ?_; (with_reducible refine (spec_GoodBag.calls k _ _ l0_0 _ _ l0_1 false _ ?side1 ?side2 ?side3 ?side4 A2.out).mono ?_); (case side1 => exact kc_ (Kd.C_below HR0_0.out HB.out)); (case side2 => exact HC0_0.out); (case side3 => exact kc_ (Kd.C_below HR0_1.out HB.out)); (case side4 => exact HC0_1.out); rintro e w28 ⟨rfl, hb⟩; refine ⟨_, rfl, ?_⟩; replace BK211 := bb_ BK211 hb; replace HB := Aside0.mk (below_step bl_ hb); clear hb))
  go_ret2
  exact ⟨_, ng_, by first | exact Kd.R_nil _ _ _ _ _ | exact Kd.N_nil _ _ _ _ _ | exact Kd.V_nil _ _ _ _ _ | exact Kd.Q_nil _ _ _ _ _ | exact Kd.S_nil _ _ _ _ _, bl_⟩
 subst c3
 have H1 : (spec_ValuesIn.l0 k ([] : List (S65)) l0_0 (l0_0.length : Int) 0) = some (r1, r2) := by rw [if_pos rfl] at H; exact H
 clear H
 have H := H1
 clear H1
 have H' := Aside0.mk H
 clear H
 go_enter Try.func19, Try.ntmps19
 go_wp2_with (first | ((with_reducible refine gate_dst (N := 1) rfl ?_); refine box_event rfl (N := 1) rfl (cs := #[.slice A0_0 l0_0.length c0_0, .slice A0_1 l0_1.length c0_1]) (t := 29) gs_ ?_; intro gb211 hg w4 hbox hb; have BK211 := Aside0.mk (hbox); have GW211 := Aside0.mk ((by rw [hg]; exact bz_ : w.heap.size ≤ gb211)); have GE211 := GW211; replace HB := Aside0.mk (below_step bl_ hb); clear hb hbox hg; have hcz5_0 : w4.cell? ⟨gb211, 0, none⟩ = some (.slice A0_0 l0_0.length c0_0) := bc_ BK211.out 0; have hcz5_1 : w4.cell? ⟨gb211, 1, none⟩ = some (.slice A0_1 l0_1.length c0_1) := bc_ BK211.out 1; have hfz5_0 := blk_frozen BK211.out 0; have hfz5_1 := blk_frozen BK211.out 1) | ((with_reducible refine gate_callee (f := 9) rfl ?_); refine goesL_ (some 11) rfl rfl Try.func9 (by kernel_rfl) rfl #[.agg #[.slice A0_0 l0_0.length c0_0, .slice A0_1 l0_1.length c0_1]] rfl nc_ ?_; (with_reducible refine (spec_GoodBag.calls k _ _ l0_0 _ _ l0_1 true _ ?side1 ?side2 ?side3 ?side4 A2.out).mono ?_); (case side1 => exact kc_ (Kd.C_below HR0_0.out HB.out)); (case side2 => exact HC0_0.out); (case side3 => exact kc_ (Kd.C_below HR0_1.out HB.out)); (case side4 => exact HC0_1.out); rintro e w6 ⟨rfl, hb⟩; refine ⟨_, rfl, ?_⟩; replace BK211 := bb_ BK211 hb; replace HB := Aside0.mk (below_step bl_ hb); clear hb; have hcz7_0 : w6.cell? ⟨gb211, 0, none⟩ = some (.slice A0_0 l0_0.length c0_0) := bc_ BK211.out 0; have hcz7_1 : w6.cell? ⟨gb211, 1, none⟩ = some (.slice A0_1 l0_1.length c0_1) := bc_ BK211.out 1; have hfz7_0 := blk_frozen BK211.out 0; have hfz7_1 := blk_frozen BK211.out 1))
 go_loopg [4, 16] k (fun kq v4 v16 w' => ∃ (x4_1 : List (S65)) (x16_1 : Int), v16 = .int .i64 x16_1 ∧ Aside0 (spec_ValuesIn.l0 kq x4_1 l0_0 (l0_0.length : Int) x16_1 = some (r1, r2)) ∧ Aside0 (kq ≤ k) ∧ Aside0 (Kd.R k65 65 w' w.heap.size (fun _ => True) v4 x4_1) ∧ Aside0 (w'.heap[gb211]? = some (.cells #[(.slice A0_0 l0_0.length c0_0), (.slice A0_1 l0_1.length c0_1)] 29 (0, 0))) ∧ Aside0 (Below w.heap.size w w'))
 case atStart => exact ⟨(([] : List (S65))), (0), (by first | rfl | (simp; done) | (simp [*]; done)), H', ⟨Nat.le_refl _⟩, ⟨by first | exact Kd.R_nil _ _ _ _ _ | exact Kd.N_nil _ _ _ _ _ | exact Kd.V_nil _ _ _ _ _ | exact Kd.Q_nil _ _ _ _ _ | exact Kd.S_nil _ _ _ _ _⟩, ⟨by exact kb_ BK211.out⟩, ⟨bl_⟩⟩
 clear H'
 try clear c1
 try clear p2
 try clear c3
 try clear hcz5_0
 try clear hcz5_1
 try clear hcz7_0
 try clear hcz7_1
 try clear hfz5_0
 try clear hfz5_1
 try clear hfz7_0
 try clear hfz7_1
 obtain ⟨x4_1, x16_1, rfl, HA, HK1, HO_4, BK211, HB⟩ := hrel
 cases gk with
 | zero => exact absurd HA.out (by simp [spec_ValuesIn.l0])
 | succ k1 => ?_
 have H := HA.out
 clear HA
 simp only [spec_ValuesIn.l0] at H
 by_cases c8 : x16_1 < (l0_0.length : Int)
 ·rw [if_pos c8] at H
  have c8b0 : decide (x16_1 < (l0_0.length : Int)) = true := decide_eq_true c8
  clear c8
  by_cases c9 : 0 ≤ x16_1
  rotate_left
  ·rw [if_neg c9] at H
   exact absurd H (by simp)
  rw [if_pos c9] at H
  have c9b0 : decide (0 ≤ x16_1) = true := decide_eq_true c9
  clear c9
  by_cases c10 : x16_1 < (l0_0.length : Int)
  rotate_left
  ·rw [if_neg c10] at H
   exact absurd H (by simp)
  rw [if_pos c10] at H
  have c10b0 : decide (x16_1 < (l0_0.length : Int)) = true := decide_eq_true c10
  clear c10
  replace H := Option.bind_eq_some_iff.mp H
  obtain ⟨t215, A110, H⟩ := H
  replace H : (spec_ValuesIn.l0 k1 t215 l0_0 (l0_0.length : Int) (wrap64 (x16_1 + 1))) = some (r1, r2) := H
  have A11 := Aside0.mk A110
  clear A110
  have H' := Aside0.mk H
  clear H
  have p213 : 0 ≤ (x16_1 : Int) := of_decide_eq_true (by first | (with_reducible assumption) | assumption)
  have q213 : x16_1 < (l0_0.length : Int) := of_decide_eq_true (by first | (with_reducible assumption) | assumption)
  obtain ⟨ad213, e213, hx213_0, hx213_1, hx213_2⟩ := at_T48 HR0_0.out x16_1 p213 q213
  cases e213
  replace hx213_0 := (HB.out.cell (World.block_lt_of_cell? w _ hx213_0)).trans hx213_0
  replace hx213_1 := (HB.out.cell (World.block_lt_of_cell? w _ hx213_1)).trans hx213_1
  replace hx213_2 := (HB.out.cell (World.block_lt_of_cell? w _ hx213_2)).trans hx213_2
  replace p213 := eq_true p213
  replace q213 := eq_true q213
  go_wp2_with (first | ((with_reducible refine gate_dst (N := 7) rfl ?_); refine box_event rfl (N := 7) rfl (cs := #[.string (⟨#[]⟩ : ByteArray), .int .i64 0, .int .i64 0]) (t := 48) gs_ ?_; intro gb214 hg w12 hbox hb; replace HO_4 := rb_ HO_4 hb; have BK214 := Aside0.mk (hbox); have GW214 := Aside0.mk ((by rw [hg]; exact bz_ : w.heap.size ≤ gb214)); have GE214 := GW214; replace HB := Aside0.mk (below_step bl_ hb); have NB211_214 := nl_ hg BK211; have NB214_211 := nm_ hg BK211; replace BK211 := bb_ BK211 hb; clear hb hbox hg; have hnb13 := NB214_211.out; have hnc13 := NB211_214.out; have hcz14_0 : w12.cell? ⟨gb214, 0, none⟩ = some (.string (⟨#[]⟩ : ByteArray)) := bc_ BK214.out 0; have hcz14_1 : w12.cell? ⟨gb214, 1, none⟩ = some (.int .i64 0) := bc_ BK214.out 1; have hcz14_2 : w12.cell? ⟨gb214, 2, none⟩ = some (.int .i64 0) := bc_ BK214.out 2; have hfz14_0 := blk_frozen BK214.out 0; have hfz14_1 := blk_frozen BK214.out 1; have hfz14_2 := blk_frozen BK214.out 2; obtain ⟨Ao15, co15, eo15⟩ := Kd.R_slice HO_4.out; subst eo15) | ((with_reducible refine gate_callee (f := 44) rfl ?_); refine goesL_ (some 24) rfl rfl Try.func44 (by kernel_rfl) rfl #[.slice Ao15 x4_1.length co15, .agg #[.string ((rd_T48 l0_0 x16_1).f0), .string (⟨#[]⟩ : ByteArray)]] rfl nc_ ?_; (with_reducible refine (spec_l3Cells.calls k1 _ _ x4_1 ((rd_T48 l0_0 x16_1).f0) (⟨#[]⟩ : ByteArray) t215 _ ?side1 ?side2 A11.out).mono ?_); (case side1 => refine (Kd.R_reads' (e := 65) (base := w.heap.size) (ok := fun k_ => True) (n := x4_1.length) (c := co15) ?_).2.2; exact (by exact kr_ ((Kd.R_mono (Kd.R_far (p := ⟨gb214, 2, none⟩) (Kd.R_far (p := ⟨gb214, 1, none⟩) (Kd.R_far (p := ⟨gb214, 0, none⟩) (Kd.R_types HO_4.out BK214.out (by decide)) (fun _ hk => hk.2) (.string ((rd_T48 l0_0 x16_1).f0))) (fun _ hk => hk.2) (.int .i64 ((rd_T48 l0_0 x16_1).f1))) (fun _ hk => hk.2) (.int .i64 ((rd_T48 l0_0 x16_1).f2))) (fun _ h_ => h_.1))))); (case side2 => exact (Kd.R_reads' HO_4.out).2.1); rintro e w16 ⟨v216, rfl, ho0, hb⟩; refine ⟨_, rfl, ?_⟩; have HO217 := Aside0.mk (Kd.R_lower (Kd.R_new' ho0 (Kd.R_lt (by exact kr_ ((Kd.R_mono (Kd.R_far (p := ⟨gb214, 2, none⟩) (Kd.R_far (p := ⟨gb214, 1, none⟩) (Kd.R_far (p := ⟨gb214, 0, none⟩) (Kd.R_types HO_4.out BK214.out (by decide)) (fun _ hk => hk.2) (.string ((rd_T48 l0_0 x16_1).f0))) (fun _ hk => hk.2) (.int .i64 ((rd_T48 l0_0 x16_1).f1))) (fun _ hk => hk.2) (.int .i64 ((rd_T48 l0_0 x16_1).f2))) (fun _ h_ => h_.1)))))) bz_); replace HO_4 := Aside0.mk (Kd.R_elder' (by exact kr_ ((Kd.R_mono (Kd.R_far (p := ⟨gb214, 2, none⟩) (Kd.R_far (p := ⟨gb214, 1, none⟩) (Kd.R_far (p := ⟨gb214, 0, none⟩) (Kd.R_types HO_4.out BK214.out (by decide)) (fun _ hk => hk.2) (.string ((rd_T48 l0_0 x16_1).f0))) (fun _ hk => hk.2) (.int .i64 ((rd_T48 l0_0 x16_1).f1))) (fun _ hk => hk.2) (.int .i64 ((rd_T48 l0_0 x16_1).f2))) (fun _ h_ => h_.1)))) (Kd.R_base ho0) hb); replace BK211 := Aside0.mk (blk_below (g := gb211) (o := .cells #[.slice (some ad213) l0_0.length c0_0, .slice A0_1 l0_1.length c0_1] 29 (0, 0)) kz_ hb); replace BK214 := Aside0.mk (blk_below (g := gb214) (o := .cells #[.string ((rd_T48 l0_0 x16_1).f0), .int .i64 ((rd_T48 l0_0 x16_1).f1), .int .i64 ((rd_T48 l0_0 x16_1).f2)] 48 (0, 0)) (by (with_reducible repeat (first | refine blk_drewN ?_ _ | refine blk_drew ?_ | refine blk_alloc ?_ _)); refine blk_put (cs := #[.string ((rd_T48 l0_0 x16_1).f0), .int .i64 ((rd_T48 l0_0 x16_1).f1), .int .i64 0]) ?_ 2 _ rfl; (with_reducible repeat (first | refine blk_drewN ?_ _ | refine blk_drew ?_ | refine blk_alloc ?_ _)); refine blk_put (cs := #[.string ((rd_T48 l0_0 x16_1).f0), .int .i64 0, .int .i64 0]) ?_ 1 _ rfl; (with_reducible repeat (first | refine blk_drewN ?_ _ | refine blk_drew ?_ | refine blk_alloc ?_ _)); refine blk_put (cs := #[.string (⟨#[]⟩ : ByteArray), .int .i64 0, .int .i64 0]) ?_ 0 _ rfl; exact kb_ BK214.out) hb); replace HB := Aside0.mk (below_step bl_ hb); clear hb ho0))
  go_roundg k1
  case measure => have := HK1.out; omega
  case rel => exact ⟨(t215), (wrap64 (x16_1 + 1)), (by first | rfl | (simp; done) | (simp [*]; done)), H', ⟨by have := HK1.out; omega⟩, ⟨by exact kr_ (Kd.R_mono HO217.out (fun _ hk => trivial))⟩, ⟨by exact kb_ BK211.out⟩, ⟨bl_⟩⟩
 rw [if_neg c8] at H
 have c8b0 : decide (x16_1 < (l0_0.length : Int)) = false := decide_eq_false c8
 clear c8
 have H' := Aside0.mk H
 clear H
 obtain ⟨Ao17, co17, eo17⟩ := Kd.R_slice HO_4.out
 subst eo17
 go_wp2
 go_loopg [5, 28] k1 (fun kq v5 v28 w' => ∃ (x5_2 : List ByteArray) (x28_2 : Int), v28 = .int .i64 x28_2 ∧ Aside0 (spec_ValuesIn.l1 kq x5_2 x4_1 (x4_1.length : Int) x28_2 = some (r1, r2)) ∧ Aside0 (kq ≤ k1) ∧ Aside0 (Kd.R Kd.string 9 w' w.heap.size (fun _ => True) v5 x5_2) ∧ Aside0 (Kd.R k65 65 w' w.heap.size (fun _ => True) (.slice Ao17 x4_1.length co17) x4_1) ∧ Aside0 (w'.heap[gb211]? = some (.cells #[(.slice A0_0 l0_0.length c0_0), (.slice A0_1 l0_1.length c0_1)] 29 (0, 0))) ∧ Aside0 (Below w.heap.size w w'))
 case atStart => exact ⟨(([] : List ByteArray)), (0), (by first | rfl | (simp; done) | (simp [*]; done)), H', ⟨Nat.le_refl _⟩, ⟨by first | exact Kd.R_nil _ _ _ _ _ | exact Kd.N_nil _ _ _ _ _ | exact Kd.V_nil _ _ _ _ _ | exact Kd.Q_nil _ _ _ _ _ | exact Kd.S_nil _ _ _ _ _⟩, ⟨by exact kr_ HO_4.out⟩, ⟨by exact kb_ BK211.out⟩, ⟨bl_⟩⟩
 clear H'
 try clear c1
 try clear p2
 try clear q2
 try clear hx2
 try clear c3
 try clear c4
 try clear p6
 try clear c8
 try clear c8b0
 try clear c9
 try clear c9b0
 try clear c10
 try clear c10b0
 try clear c13
 try clear hcz14_0
 try clear hcz14_1
 try clear hcz14_2
 try clear hcz5_0
 try clear hcz5_1
 try clear hcz7_0
 try clear hcz7_1
 try clear hfz14_0
 try clear hfz14_1
 try clear hfz14_2
 try clear hfz5_0
 try clear hfz5_1
 try clear hfz7_0
 try clear hfz7_1
 try clear hx213_0
 try clear hx213_1
 try clear hx213_2
 try clear p2
 try clear p213
 try clear q213
 obtain ⟨x5_2, x28_2, rfl, HA, HK2, HO_5, HO_26, BK211, HB⟩ := hrel
 cases gk with
 | zero => exact absurd HA.out (by simp [spec_ValuesIn.l1])
 | succ k2 => ?_
 have H := HA.out
 clear HA
 simp only [spec_ValuesIn.l1] at H
 by_cases c18 : x28_2 < (x4_1.length : Int)
 rotate_left
 ·rw [if_neg c18] at H
  have c18b0 : decide (x28_2 < (x4_1.length : Int)) = false := decide_eq_false c18
  clear c18
  simp only [Option.some.injEq, Prod.mk.injEq] at H
  obtain ⟨rfl, rfl⟩ := H
  go_wp2
  go_ret2
  exact ⟨_, ng_, by exact kr_ HO_5.out, bl_⟩
 rw [if_pos c18] at H
 have c18b0 : decide (x28_2 < (x4_1.length : Int)) = true := decide_eq_true c18
 clear c18
 by_cases c19 : 0 ≤ x28_2
 rotate_left
 ·rw [if_neg c19] at H
  exact absurd H (by simp)
 rw [if_pos c19] at H
 have c19b0 : decide (0 ≤ x28_2) = true := decide_eq_true c19
 clear c19
 by_cases c20 : x28_2 < (x4_1.length : Int)
 rotate_left
 ·rw [if_neg c20] at H
  exact absurd H (by simp)
 rw [if_pos c20] at H
 have c20b0 : decide (x28_2 < (x4_1.length : Int)) = true := decide_eq_true c20
 clear c20
 by_cases c21 : x5_2.length < 8796093022208
 rotate_left
 ·rw [if_neg c21] at H
  exact absurd H (by simp)
 rw [if_pos c21] at H
 have LMc21 := Aside0.mk c21
 clear c21
 obtain ⟨y220, hy220⟩ : ∃ y_ : List ByteArray, y_ = (x5_2 ++ [(rd_T65 x4_1 x28_2).f0]) := ⟨_, rfl⟩
 replace H : (spec_ValuesIn.l1 k2 y220 x4_1 (x4_1.length : Int) (wrap64 (x28_2 + 1))) = some (r1, r2) := by first | (rw [hy220]; with_reducible exact H) | (have H2_ := (Option.bind_some _ _).symm.trans H; rw [hy220]; with_reducible exact H2_) | (have H2_ := (Option.bind_some _ _).symm.trans H; with_reducible exact H2_) | with_reducible exact H | (rw [hy220]; exact H) | exact H
 have Ny220 := Aside0.mk hy220
 clear hy220
 have H' := Aside0.mk H
 clear H
 have p218 : 0 ≤ (x28_2 : Int) := of_decide_eq_true (by first | (with_reducible assumption) | assumption)
 have q218 : x28_2 < (x4_1.length : Int) := of_decide_eq_true (by first | (with_reducible assumption) | assumption)
 obtain ⟨ad218, e218, hx218_0, hx218_1⟩ := at_T65 (Kd.R_reads' HO_26.out).2.2 x28_2 p218 q218
 cases e218
 replace p218 := eq_true p218
 replace q218 := eq_true q218
 go_wp2_with (first | ((with_reducible refine gate_dst (N := 9) rfl ?_); refine box_event rfl (N := 9) rfl (cs := #[.string (⟨#[]⟩ : ByteArray), .string (⟨#[]⟩ : ByteArray)]) (t := 65) gs_ ?_; intro gb219 hg w22 hbox hb; replace HO_5 := rb_ HO_5 hb; replace HO_26 := Aside0.mk (Kd.R_below (Kd.R_elderB (kr_ HO_26.out) gb219 (Nat.le_of_eq hg.symm)) hb); have BK219 := Aside0.mk (hbox); have GW219 := Aside0.mk ((by rw [hg]; exact bz_ : w.heap.size ≤ gb219)); have GE219 := GW219; replace HB := Aside0.mk (below_step bl_ hb); have NB211_219 := nl_ hg BK211; have NB219_211 := nm_ hg BK211; replace BK211 := bb_ BK211 hb; clear hb hbox hg; have hnb23 := NB219_211.out; have hnc23 := NB211_219.out; have hcz24_0 : w22.cell? ⟨gb219, 0, none⟩ = some (.string (⟨#[]⟩ : ByteArray)) := bc_ BK219.out 0; have hcz24_1 : w22.cell? ⟨gb219, 1, none⟩ = some (.string (⟨#[]⟩ : ByteArray)) := bc_ BK219.out 1; have hfz24_0 := blk_frozen BK219.out 0; have hfz24_1 := blk_frozen BK219.out 1) | ((with_reducible refine gate_builtin (b := .append) (xs := #[.tmp 32, .tmp 35]) rfl ?_); at_builtin; refine Kd.R_append Kd.string (w0 := w) w.heap.size rfl (.tmp 32) (.tmp 35) 39 9 (.string ⟨#[]⟩) 16 rfl Try.underlying39 info9 rfl (by decide) (by omega) u5 x5_2 ((rd_T65 x4_1 x28_2).f0) [.string ((rd_T65 x4_1 x28_2).f0)] (fun _ => True) (fun _ => False) rfl (by first | (go_simp; done) | (go_simp; rfl)) ?aP (fun _ hk => hk.elim) ?aF ?aO ?aB ?aS ?aL ?_; (case aP => exact rfl); (case aB => exact bl_); (case aF => exact (fun _ _ => trivial)); (case aO => exact (by exact kr_ (Kd.R_mono (Kd.R_far (p := ⟨gb219, 1, none⟩) (Kd.R_far (p := ⟨gb219, 0, none⟩) (Kd.R_types HO_5.out BK219.out (by decide)) (fun _ hk => hk.2) (.string ((rd_T65 x4_1 x28_2).f0))) (fun _ hk => hk.2) (.string ((rd_T65 x4_1 x28_2).f1))) (fun _ hk => trivial)))); (case aS => exact bz_); (case aL => have := LMc21.out; omega); intro v221 w25 ho hb hg hat; rw [← Ny220.out] at ho; replace HO_26 := Aside0.mk (Kd.R_over' (by exact kr_ ((Kd.R_mono (Kd.R_far (p := ⟨gb219, 1, none⟩) (Kd.R_far (p := ⟨gb219, 0, none⟩) (Kd.R_mono HO_26.out (fun k_ hk => (⟨hk, hk.2⟩ : _ ∧ k_ ≠ gb219))) (fun _ hk => hk.2) (.string ((rd_T65 x4_1 x28_2).f0))) (fun _ hk => hk.2) (.string ((rd_T65 x4_1 x28_2).f1))) (fun _ h_ => h_.1)))) (Kd.R_typed (by exact kr_ ((Kd.R_mono (Kd.R_far (p := ⟨gb219, 1, none⟩) (Kd.R_far (p := ⟨gb219, 0, none⟩) (Kd.R_types HO_5.out BK219.out (by decide)) (fun _ hk => hk.2) (.string ((rd_T65 x4_1 x28_2).f0))) (fun _ hk => hk.2) (.string ((rd_T65 x4_1 x28_2).f1))) (fun _ h_ => h_.1))))) (by decide) hg); replace BK211 := Aside0.mk (blk_grown (g := gb211) (o := .cells #[.slice A0_0 l0_0.length c0_0, .slice A0_1 l0_1.length c0_1] 29 (0, 0)) kz_ hg (Kd.R_ne HO_5.out BK211.out (by decide))); replace BK219 := Aside0.mk (blk_grown (g := gb219) (o := .cells #[.string ((rd_T65 x4_1 x28_2).f0), .string ((rd_T65 x4_1 x28_2).f1)] 65 (0, 0)) (by (with_reducible repeat (first | refine blk_drewN ?_ _ | refine blk_drew ?_ | refine blk_alloc ?_ _)); refine blk_put (cs := #[.string ((rd_T65 x4_1 x28_2).f0), .string (⟨#[]⟩ : ByteArray)]) ?_ 1 _ rfl; (with_reducible repeat (first | refine blk_drewN ?_ _ | refine blk_drew ?_ | refine blk_alloc ?_ _)); refine blk_put (cs := #[.string (⟨#[]⟩ : ByteArray), .string (⟨#[]⟩ : ByteArray)]) ?_ 0 _ rfl; exact kb_ BK219.out) hg (Kd.R_ne HO_5.out BK219.out (by decide))); replace HB := Aside0.mk (hb); have HO222 := Aside0.mk (ho); clear HO_5 ho hb hg hat))
 go_roundg k2
 case measure => have := HK1.out; have := HK2.out; omega
 case rel => exact ⟨(y220), (wrap64 (x28_2 + 1)), (by first | rfl | (simp; done) | (simp [*]; done)), H', ⟨by have := HK1.out; have := HK2.out; omega⟩, ⟨by exact kr_ HO222.out⟩, ⟨by exact kr_ (Kd.R_mono HO_26.out (fun _ hk => trivial))⟩, ⟨by exact kb_ BK211.out⟩, ⟨bl_⟩⟩

end Go.Proofs.Ytdnapgnnliibfaa.PVI
