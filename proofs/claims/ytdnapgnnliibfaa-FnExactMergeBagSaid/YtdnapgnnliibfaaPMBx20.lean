/- What this text proves: the machine calls of these functions return what the plain functions say. Conditions: as each theorem says. Printed by a program of this session out of the translation. -/
import Derived.Test.YtdnapgnnliibfaaPMBx0
import Derived.Test.YtdnapgnnliibfaaPMBx3
namespace Go.Proofs.Ytdnapgnnliibfaa.PMB
open Go.RowKit Go.Proofs.YtdnapgnnliibfaaW.PrintWords Go.Proofs.YtdnapgnnliibfaaW.PrintLast Go.Proofs.YtdnapgnnliibfaaW.PrintMore
attribute [local go_sem] max2_int min2_int max_two min_two max_three min_three max_four min_four   -- for this text's walks alone
set_option linter.unusedVariables false
set_option linter.unusedSimpArgs false

/-! ### spec_l14Clash: function 36 -/
mutual
def spec_l14Clash.l0 : Nat → List (S48) → List (S48) → Int → Int → Option (Bool)
 | 0, _, _, _, _ => none
 | k + 1, x1, x9, x10, x11 => if x11 < x10 then (if 0 ≤ x11 then (if x11 < (x9.length : Int) then (spec_l14Clash.l1 k x1 x9 x10 x11 x1 (x1.length : Int) 0 ((rd_T48 x9 x11).f0) ((rd_T48 x9 x11).f1) ((rd_T48 x9 x11).f2)) else (none)) else (none)) else (some false)
def spec_l14Clash.l1 : Nat → List (S48) → List (S48) → Int → Int → List (S48) → Int → Int → ByteArray → Int → Int → Option (Bool)
 | 0, _, _, _, _, _, _, _, _, _, _ => none
 | k + 1, x1, x9, x10, x11, x15, x16, x17, x506000, x506001, x506002 => if x17 < x16 then (if 0 ≤ x17 then (if x17 < (x15.length : Int) then ((spec_l14Same.f x506000 x506001 x506002 ((rd_T48 x15 x17).f0) ((rd_T48 x15 x17).f1) ((rd_T48 x15 x17).f2)).bind fun t508 => (if t508 = true then (if x506000.toList = ((rd_T48 x15 x17).f0).toList then (spec_l14Clash.l1 k x1 x9 x10 x11 x15 x16 (wrap64 (x17 + 1)) x506000 x506001 x506002) else (some true)) else (spec_l14Clash.l1 k x1 x9 x10 x11 x15 x16 (wrap64 (x17 + 1)) x506000 x506001 x506002))) else (none)) else (none)) else (spec_l14Clash.l0 k x1 x9 x10 (wrap64 (x11 + 1)))
end
def spec_l14Clash.f (k : Nat) (l0 : List (S48)) (l1 : List (S48)) : Option (Bool) := spec_l14Clash.l0 k l1 l0 (l0.length : Int) 0
theorem spec_l14Clash.mono_l : ∀ k, (∀ y0 y1 y2 y3, LeO (spec_l14Clash.l0 k y0 y1 y2 y3) (spec_l14Clash.l0 (k + 1) y0 y1 y2 y3)) ∧ (∀ y0 y1 y2 y3 y4 y5 y6 y7 y8 y9, LeO (spec_l14Clash.l1 k y0 y1 y2 y3 y4 y5 y6 y7 y8 y9) (spec_l14Clash.l1 (k + 1) y0 y1 y2 y3 y4 y5 y6 y7 y8 y9))
 | 0 => ⟨fun _ _ _ _ r h => by simp [spec_l14Clash.l0] at h, fun _ _ _ _ _ _ _ _ _ _ r h => by simp [spec_l14Clash.l1] at h⟩
 | k + 1 => by
  obtain ⟨ih0, ih1⟩ := spec_l14Clash.mono_l k
  refine ⟨?_, ?_⟩
  ·intro y0 y1 y2 y3
   unfold spec_l14Clash.l0
   repeat' first
   | (with_reducible exact ih0 _ _ _ _)
   | (with_reducible exact ih1 _ _ _ _ _ _ _ _ _ _)
   | (with_reducible exact LeO.refl _)
   | (with_reducible exact LeO.none _)
   | (with_reducible refine LeO.ite ?_ ?_)
   | (with_reducible refine LeO.bind ?_ (fun _ => ?_))
   | exact ih0 _ _ _ _
   | exact ih1 _ _ _ _ _ _ _ _ _ _
   | exact LeO.none _
   | refine LeO.ite ?_ ?_
   | refine LeO.bind ?_ (fun _ => ?_)
  ·intro y0 y1 y2 y3 y4 y5 y6 y7 y8 y9
   unfold spec_l14Clash.l1
   repeat' first
   | (with_reducible exact ih0 _ _ _ _)
   | (with_reducible exact ih1 _ _ _ _ _ _ _ _ _ _)
   | (with_reducible exact LeO.refl _)
   | (with_reducible exact LeO.none _)
   | (with_reducible refine LeO.ite ?_ ?_)
   | (with_reducible refine LeO.bind ?_ (fun _ => ?_))
   | exact ih0 _ _ _ _
   | exact ih1 _ _ _ _ _ _ _ _ _ _
   | exact LeO.none _
   | refine LeO.ite ?_ ?_
   | refine LeO.bind ?_ (fun _ => ?_)
theorem spec_l14Clash.mono : ∀ a0 a1 k, LeO (spec_l14Clash.f k a0 a1) (spec_l14Clash.f (k + 1) a0 a1) := by
 intro a0 a1 k
 obtain ⟨ih0, ih1⟩ := spec_l14Clash.mono_l k
 unfold spec_l14Clash.f
 repeat' first
   | (with_reducible exact ih0 _ _ _ _)
   | (with_reducible exact ih1 _ _ _ _ _ _ _ _ _ _)
   | (with_reducible exact LeO.refl _)
   | (with_reducible exact LeO.none _)
   | (with_reducible refine LeO.ite ?_ ?_)
   | (with_reducible refine LeO.bind ?_ (fun _ => ?_))
   | exact ih0 _ _ _ _
   | exact ih1 _ _ _ _ _ _ _ _ _ _
   | exact LeO.none _
   | refine LeO.ite ?_ ?_
   | refine LeO.bind ?_ (fun _ => ?_)
set_option maxHeartbeats 8000000 in
set_option maxRecDepth 100000 in
theorem spec_l14Clash.calls (k : Nat) (A0 : Option Addr) (c0 : Nat) (l0 : List (S48)) (A1 : Option Addr) (c1 : Nat) (l1 : List (S48)) (r : Bool) (w : World) (hr0 : Kd.C k48 w A0 l0.length l0) (hc0 : l0.length ≤ c0) (hr1 : Kd.C k48 w A1 l1.length l1) (hc1 : l1.length ≤ c1) (h : spec_l14Clash.f k l0 l1 = some r) :
  Calls Try.prog 36 #[.slice A0 l0.length c0, .slice A1 l1.length c1] w fun e w' => e = .returned (.bool r) ∧ Below w.heap.size w w' := by
 have hu48 := Try.underlying48
 have HR0 := Aside0.mk hr0
 have HC0 := Aside0.mk hc0
 clear hr0 hc0
 have HR1 := Aside0.mk hr1
 have HC1 := Aside0.mk hc1
 clear hr1 hc1
 have HB := Aside0.mk (Below.refl w.heap.size w)
 have H : (spec_l14Clash.l0 k l1 l0 (l0.length : Int) 0) = some r := h
 clear h
 have H' := Aside0.mk H
 clear H
 go_enter Try.func36, Try.ntmps36
 go_wp2
 go_loopg [11] k (fun kq v11 w' => ∃ (x11_1 : Int), v11 = .int .i64 x11_1 ∧ Aside0 (spec_l14Clash.l0 kq l1 l0 (l0.length : Int) x11_1 = some r) ∧ Aside0 (kq ≤ k) ∧ Aside0 (Below w.heap.size w w'))
 case atStart => exact ⟨(0), (by first | rfl | (simp; done) | (simp [*]; done)), H', ⟨Nat.le_refl _⟩, ⟨bl_⟩⟩
 clear H'
 try clear c1
 try clear p2
 obtain ⟨x11_1, rfl, HA, HK1, HB⟩ := hrel
 cases gk with
 | zero => exact absurd HA.out (by simp [spec_l14Clash.l0])
 | succ k1 => ?_
 have H := HA.out
 clear HA
 simp only [spec_l14Clash.l0] at H
 by_cases c3 : x11_1 < (l0.length : Int)
 rotate_left
 ·rw [if_neg c3] at H
  have c3b0 : decide (x11_1 < (l0.length : Int)) = false := decide_eq_false c3
  clear c3
  obtain rfl := Option.some.inj H
  go_wp2
  go_ret
  exact ⟨ng_, bl_⟩
 rw [if_pos c3] at H
 have c3b0 : decide (x11_1 < (l0.length : Int)) = true := decide_eq_true c3
 clear c3
 by_cases c4 : 0 ≤ x11_1
 rotate_left
 ·rw [if_neg c4] at H
  exact absurd H (by simp)
 rw [if_pos c4] at H
 have c4b0 : decide (0 ≤ x11_1) = true := decide_eq_true c4
 clear c4
 by_cases c5 : x11_1 < (l0.length : Int)
 rotate_left
 ·rw [if_neg c5] at H
  exact absurd H (by simp)
 rw [if_pos c5] at H
 have c5b0 : decide (x11_1 < (l0.length : Int)) = true := decide_eq_true c5
 clear c5
 have H' := Aside0.mk H
 clear H
 have p504 : 0 ≤ (x11_1 : Int) := of_decide_eq_true (by first | (with_reducible assumption) | assumption)
 have q504 : x11_1 < (l0.length : Int) := of_decide_eq_true (by first | (with_reducible assumption) | assumption)
 obtain ⟨ad504, e504, hx504_0, hx504_1, hx504_2⟩ := at_T48 HR0.out x11_1 p504 q504
 cases e504
 replace hx504_0 := (HB.out.cell (World.block_lt_of_cell? w _ hx504_0)).trans hx504_0
 replace hx504_1 := (HB.out.cell (World.block_lt_of_cell? w _ hx504_1)).trans hx504_1
 replace hx504_2 := (HB.out.cell (World.block_lt_of_cell? w _ hx504_2)).trans hx504_2
 replace p504 := eq_true p504
 replace q504 := eq_true q504
 go_wp2_with (first | ((with_reducible refine gate_dst (N := 6) rfl ?_); refine box_event rfl (N := 6) rfl (cs := #[.string (⟨#[]⟩ : ByteArray), .int .i64 0, .int .i64 0]) (t := 48) gs_ ?_; intro gb505 hg w6 hbox hb; have BK505 := Aside0.mk (hbox); have GW505 := Aside0.mk ((by rw [hg]; exact bz_ : w.heap.size ≤ gb505)); have GE505 := GW505; replace HB := Aside0.mk (below_step bl_ hb); clear hb hbox hg; have hcz7_0 : w6.cell? ⟨gb505, 0, none⟩ = some (.string (⟨#[]⟩ : ByteArray)) := bc_ BK505.out 0; have hcz7_1 : w6.cell? ⟨gb505, 1, none⟩ = some (.int .i64 0) := bc_ BK505.out 1; have hcz7_2 : w6.cell? ⟨gb505, 2, none⟩ = some (.int .i64 0) := bc_ BK505.out 2; have hfz7_0 := blk_frozen BK505.out 0; have hfz7_1 := blk_frozen BK505.out 1; have hfz7_2 := blk_frozen BK505.out 2))
 go_loopg [17] k1 (fun kq v17 w' => ∃ (x17_2 : Int), v17 = .int .i64 x17_2 ∧ Aside0 (spec_l14Clash.l1 kq l1 l0 (l0.length : Int) x11_1 l1 (l1.length : Int) x17_2 ((rd_T48 l0 x11_1).f0) ((rd_T48 l0 x11_1).f1) ((rd_T48 l0 x11_1).f2) = some r) ∧ Aside0 (kq ≤ k1) ∧ Aside0 (w'.heap[gb505]? = some (.cells #[.string ((rd_T48 l0 x11_1).f0), .int .i64 ((rd_T48 l0 x11_1).f1), .int .i64 ((rd_T48 l0 x11_1).f2)] 48 (0, 0))) ∧ Aside0 (Below w.heap.size w w'))
 case atStart => exact ⟨(0), (by first | rfl | (simp; done) | (simp [*]; done)), H', ⟨Nat.le_refl _⟩, ⟨by (with_reducible repeat (first | refine blk_drewN ?_ _ | refine blk_drew ?_ | refine blk_alloc ?_ _)); refine blk_put (cs := #[.string ((rd_T48 l0 x11_1).f0), .int .i64 ((rd_T48 l0 x11_1).f1), .int .i64 0]) ?_ 2 _ rfl; (with_reducible repeat (first | refine blk_drewN ?_ _ | refine blk_drew ?_ | refine blk_alloc ?_ _)); refine blk_put (cs := #[.string ((rd_T48 l0 x11_1).f0), .int .i64 0, .int .i64 0]) ?_ 1 _ rfl; (with_reducible repeat (first | refine blk_drewN ?_ _ | refine blk_drew ?_ | refine blk_alloc ?_ _)); refine blk_put (cs := #[.string (⟨#[]⟩ : ByteArray), .int .i64 0, .int .i64 0]) ?_ 0 _ rfl; exact kb_ BK505.out⟩, ⟨bl_⟩⟩
 clear H'
 try clear c1
 try clear p2
 try clear c3
 try clear c3b0
 try clear c4
 try clear c4b0
 try clear c5
 try clear c5b0
 try clear p5
 try clear q5
 try clear hx5
 try clear hcz7_0
 try clear hcz7_1
 try clear hcz7_2
 try clear hfz7_0
 try clear hfz7_1
 try clear hfz7_2
 try clear hx504_0
 try clear hx504_1
 try clear hx504_2
 try clear p2
 try clear p504
 try clear q504
 obtain ⟨x17_2, rfl, HA, HK2, BK505, HB⟩ := hrel
 cases gk with
 | zero => exact absurd HA.out (by simp [spec_l14Clash.l1])
 | succ k2 => ?_
 have H := HA.out
 clear HA
 simp only [spec_l14Clash.l1] at H
 by_cases c8 : x17_2 < (l1.length : Int)
 rotate_left
 ·rw [if_neg c8] at H
  have c8b0 : decide (x17_2 < (l1.length : Int)) = false := decide_eq_false c8
  clear c8
  have H' := Aside0.mk H
  clear H
  go_wp2
  go_roundg k2
  case measure => have := HK1.out; have := HK2.out; omega
  case rel => exact ⟨(wrap64 (x11_1 + 1)), (by first | rfl | (simp; done) | (simp [*]; done)), H', ⟨by have := HK1.out; have := HK2.out; omega⟩, ⟨bl_⟩⟩
 rw [if_pos c8] at H
 have c8b0 : decide (x17_2 < (l1.length : Int)) = true := decide_eq_true c8
 clear c8
 by_cases c9 : 0 ≤ x17_2
 rotate_left
 ·rw [if_neg c9] at H
  exact absurd H (by simp)
 rw [if_pos c9] at H
 have c9b0 : decide (0 ≤ x17_2) = true := decide_eq_true c9
 clear c9
 by_cases c10 : x17_2 < (l1.length : Int)
 rotate_left
 ·rw [if_neg c10] at H
  exact absurd H (by simp)
 rw [if_pos c10] at H
 have c10b0 : decide (x17_2 < (l1.length : Int)) = true := decide_eq_true c10
 clear c10
 replace H := Option.bind_eq_some_iff.mp H
 obtain ⟨t508, A110, H⟩ := H
 replace H : (if t508 = true then (if ((rd_T48 l0 x11_1).f0).toList = ((rd_T48 l1 x17_2).f0).toList then (spec_l14Clash.l1 k2 l1 l0 (l0.length : Int) x11_1 l1 (l1.length : Int) (wrap64 (x17_2 + 1)) ((rd_T48 l0 x11_1).f0) ((rd_T48 l0 x11_1).f1) ((rd_T48 l0 x11_1).f2)) else (some true)) else (spec_l14Clash.l1 k2 l1 l0 (l0.length : Int) x11_1 l1 (l1.length : Int) (wrap64 (x17_2 + 1)) ((rd_T48 l0 x11_1).f0) ((rd_T48 l0 x11_1).f1) ((rd_T48 l0 x11_1).f2))) = some r := H
 have A11 := Aside0.mk A110
 clear A110
 by_cases c12 : t508 = true
 rotate_left
 ·replace c12 := Bool.eq_false_iff.mpr c12
  subst c12
  have H1 : (spec_l14Clash.l1 k2 l1 l0 (l0.length : Int) x11_1 l1 (l1.length : Int) (wrap64 (x17_2 + 1)) ((rd_T48 l0 x11_1).f0) ((rd_T48 l0 x11_1).f1) ((rd_T48 l0 x11_1).f2)) = some r := by rw [if_neg (show ¬ (false = true) by decide)] at H; exact H
  clear H
  have H := H1
  clear H1
  have H' := Aside0.mk H
  clear H
  have p506 : 0 ≤ (x17_2 : Int) := of_decide_eq_true (by first | (with_reducible assumption) | assumption)
  have q506 : x17_2 < (l1.length : Int) := of_decide_eq_true (by first | (with_reducible assumption) | assumption)
  obtain ⟨ad506, e506, hx506_0, hx506_1, hx506_2⟩ := at_T48 HR1.out x17_2 p506 q506
  cases e506
  replace hx506_0 := (HB.out.cell (World.block_lt_of_cell? w _ hx506_0)).trans hx506_0
  replace hx506_1 := (HB.out.cell (World.block_lt_of_cell? w _ hx506_1)).trans hx506_1
  replace hx506_2 := (HB.out.cell (World.block_lt_of_cell? w _ hx506_2)).trans hx506_2
  replace p506 := eq_true p506
  replace q506 := eq_true q506
  go_wp2_with (first | ((with_reducible refine gate_dst (N := 8) rfl ?_); refine box_event rfl (N := 8) rfl (cs := #[.string (⟨#[]⟩ : ByteArray), .int .i64 0, .int .i64 0]) (t := 48) gs_ ?_; intro gb507 hg w28 hbox hb; have BK507 := Aside0.mk (hbox); have GW507 := Aside0.mk ((by rw [hg]; exact bz_ : w.heap.size ≤ gb507)); have GE507 := GW507; replace HB := Aside0.mk (below_step bl_ hb); have NB505_507 := nl_ hg BK505; have NB507_505 := nm_ hg BK505; replace BK505 := bb_ BK505 hb; clear hb hbox hg; have hnb29 := NB507_505.out; have hnc29 := NB505_507.out; have hcz30_0 : w28.cell? ⟨gb507, 0, none⟩ = some (.string (⟨#[]⟩ : ByteArray)) := bc_ BK507.out 0; have hcz30_1 : w28.cell? ⟨gb507, 1, none⟩ = some (.int .i64 0) := bc_ BK507.out 1; have hcz30_2 : w28.cell? ⟨gb507, 2, none⟩ = some (.int .i64 0) := bc_ BK507.out 2; have hfz30_0 := blk_frozen BK507.out 0; have hfz30_1 := blk_frozen BK507.out 1; have hfz30_2 := blk_frozen BK507.out 2; have hcz31_0 : w28.cell? ⟨gb505, 0, none⟩ = some (.string ((rd_T48 l0 x11_1).f0)) := bc_ BK505.out 0; have hcz31_1 : w28.cell? ⟨gb505, 1, none⟩ = some (.int .i64 ((rd_T48 l0 x11_1).f1)) := bc_ BK505.out 1; have hcz31_2 : w28.cell? ⟨gb505, 2, none⟩ = some (.int .i64 ((rd_T48 l0 x11_1).f2)) := bc_ BK505.out 2; have hfz31_0 := blk_frozen BK505.out 0; have hfz31_1 := blk_frozen BK505.out 1; have hfz31_2 := blk_frozen BK505.out 2) | ((with_reducible refine gate_callee (f := 27) rfl ?_); refine goesL_ (some 23) rfl rfl Try.func27 (by kernel_rfl) rfl #[.agg #[.string ((rd_T48 l0 x11_1).f0), .int .i64 ((rd_T48 l0 x11_1).f1), .int .i64 ((rd_T48 l0 x11_1).f2)], .agg #[.string ((rd_T48 l1 x17_2).f0), .int .i64 ((rd_T48 l1 x17_2).f1), .int .i64 ((rd_T48 l1 x17_2).f2)]] rfl nc_ ?_; (with_reducible refine (spec_l14Same.calls ((rd_T48 l0 x11_1).f0) ((rd_T48 l0 x11_1).f1) ((rd_T48 l0 x11_1).f2) ((rd_T48 l1 x17_2).f0) ((rd_T48 l1 x17_2).f1) ((rd_T48 l1 x17_2).f2) false _ A11.out).mono ?_); rintro e w32 ⟨rfl, hb⟩; refine ⟨_, rfl, ?_⟩; replace BK505 := Aside0.mk (blk_below (g := gb505) (o := .cells #[.string ((rd_T48 l0 x11_1).f0), .int .i64 ((rd_T48 l0 x11_1).f1), .int .i64 ((rd_T48 l0 x11_1).f2)] 48 (0, 0)) kz_ hb); replace BK507 := Aside0.mk (blk_below (g := gb507) (o := .cells #[.string ((rd_T48 l1 x17_2).f0), .int .i64 ((rd_T48 l1 x17_2).f1), .int .i64 ((rd_T48 l1 x17_2).f2)] 48 (0, 0)) (by (with_reducible repeat (first | refine blk_drewN ?_ _ | refine blk_drew ?_ | refine blk_alloc ?_ _)); refine blk_put (cs := #[.string ((rd_T48 l1 x17_2).f0), .int .i64 ((rd_T48 l1 x17_2).f1), .int .i64 0]) ?_ 2 _ rfl; (with_reducible repeat (first | refine blk_drewN ?_ _ | refine blk_drew ?_ | refine blk_alloc ?_ _)); refine blk_put (cs := #[.string ((rd_T48 l1 x17_2).f0), .int .i64 0, .int .i64 0]) ?_ 1 _ rfl; (with_reducible repeat (first | refine blk_drewN ?_ _ | refine blk_drew ?_ | refine blk_alloc ?_ _)); refine blk_put (cs := #[.string (⟨#[]⟩ : ByteArray), .int .i64 0, .int .i64 0]) ?_ 0 _ rfl; exact kb_ BK507.out) hb); replace HB := Aside0.mk (below_step bl_ hb); clear hb))
  go_roundg k2
  case measure => have := HK1.out; have := HK2.out; omega
  case rel => exact ⟨(wrap64 (x17_2 + 1)), (by first | rfl | (simp; done) | (simp [*]; done)), H', ⟨by have := HK1.out; have := HK2.out; omega⟩, ⟨by exact kb_ BK505.out⟩, ⟨bl_⟩⟩
 subst c12
 have H1 : (if ((rd_T48 l0 x11_1).f0).toList = ((rd_T48 l1 x17_2).f0).toList then (spec_l14Clash.l1 k2 l1 l0 (l0.length : Int) x11_1 l1 (l1.length : Int) (wrap64 (x17_2 + 1)) ((rd_T48 l0 x11_1).f0) ((rd_T48 l0 x11_1).f1) ((rd_T48 l0 x11_1).f2)) else (some true)) = some r := by rw [if_pos rfl] at H; exact H
 clear H
 have H := H1
 clear H1
 by_cases c13 : ((rd_T48 l0 x11_1).f0).toList = ((rd_T48 l1 x17_2).f0).toList
 rotate_left
 ·rw [if_neg c13] at H
  have c13b0 : (((rd_T48 l0 x11_1).f0).toList == ((rd_T48 l1 x17_2).f0).toList) = false := beq_eq_false_iff_ne.mpr c13
  have c13b1 : (((rd_T48 l0 x11_1).f0).toList != ((rd_T48 l1 x17_2).f0).toList) = true := bne_iff_ne.mpr c13
  obtain rfl := Option.some.inj H
  have p506 : 0 ≤ (x17_2 : Int) := of_decide_eq_true (by first | (with_reducible assumption) | assumption)
  have q506 : x17_2 < (l1.length : Int) := of_decide_eq_true (by first | (with_reducible assumption) | assumption)
  obtain ⟨ad506, e506, hx506_0, hx506_1, hx506_2⟩ := at_T48 HR1.out x17_2 p506 q506
  cases e506
  replace hx506_0 := (HB.out.cell (World.block_lt_of_cell? w _ hx506_0)).trans hx506_0
  replace hx506_1 := (HB.out.cell (World.block_lt_of_cell? w _ hx506_1)).trans hx506_1
  replace hx506_2 := (HB.out.cell (World.block_lt_of_cell? w _ hx506_2)).trans hx506_2
  replace p506 := eq_true p506
  replace q506 := eq_true q506
  go_wp2_with (first | ((with_reducible refine gate_dst (N := 8) rfl ?_); refine box_event rfl (N := 8) rfl (cs := #[.string (⟨#[]⟩ : ByteArray), .int .i64 0, .int .i64 0]) (t := 48) gs_ ?_; intro gb507 hg w21 hbox hb; have BK507 := Aside0.mk (hbox); have GW507 := Aside0.mk ((by rw [hg]; exact bz_ : w.heap.size ≤ gb507)); have GE507 := GW507; replace HB := Aside0.mk (below_step bl_ hb); have NB505_507 := nl_ hg BK505; have NB507_505 := nm_ hg BK505; replace BK505 := bb_ BK505 hb; clear hb hbox hg; have hnb22 := NB507_505.out; have hnc22 := NB505_507.out; have hcz23_0 : w21.cell? ⟨gb507, 0, none⟩ = some (.string (⟨#[]⟩ : ByteArray)) := bc_ BK507.out 0; have hcz23_1 : w21.cell? ⟨gb507, 1, none⟩ = some (.int .i64 0) := bc_ BK507.out 1; have hcz23_2 : w21.cell? ⟨gb507, 2, none⟩ = some (.int .i64 0) := bc_ BK507.out 2; have hfz23_0 := blk_frozen BK507.out 0; have hfz23_1 := blk_frozen BK507.out 1; have hfz23_2 := blk_frozen BK507.out 2; have hcz24_0 : w21.cell? ⟨gb505, 0, none⟩ = some (.string ((rd_T48 l0 x11_1).f0)) := bc_ BK505.out 0; have hcz24_1 : w21.cell? ⟨gb505, 1, none⟩ = some (.int .i64 ((rd_T48 l0 x11_1).f1)) := bc_ BK505.out 1; have hcz24_2 : w21.cell? ⟨gb505, 2, none⟩ = some (.int .i64 ((rd_T48 l0 x11_1).f2)) := bc_ BK505.out 2; have hfz24_0 := blk_frozen BK505.out 0; have hfz24_1 := blk_frozen BK505.out 1; have hfz24_2 := blk_frozen BK505.out 2) | ((with_reducible refine gate_callee (f := 27) rfl ?_); refine goesL_ (some 23) rfl rfl Try.func27 (by kernel_rfl) rfl #[.agg #[.string ((rd_T48 l0 x11_1).f0), .int .i64 ((rd_T48 l0 x11_1).f1), .int .i64 ((rd_T48 l0 x11_1).f2)], .agg #[.string ((rd_T48 l1 x17_2).f0), .int .i64 ((rd_T48 l1 x17_2).f1), .int .i64 ((rd_T48 l1 x17_2).f2)]] rfl nc_ ?_; (with_reducible refine (spec_l14Same.calls ((rd_T48 l0 x11_1).f0) ((rd_T48 l0 x11_1).f1) ((rd_T48 l0 x11_1).f2) ((rd_T48 l1 x17_2).f0) ((rd_T48 l1 x17_2).f1) ((rd_T48 l1 x17_2).f2) true _ A11.out).mono ?_); rintro e w25 ⟨rfl, hb⟩; refine ⟨_, rfl, ?_⟩; replace BK505 := Aside0.mk (blk_below (g := gb505) (o := .cells #[.string ((rd_T48 l0 x11_1).f0), .int .i64 ((rd_T48 l0 x11_1).f1), .int .i64 ((rd_T48 l0 x11_1).f2)] 48 (0, 0)) kz_ hb); replace BK507 := Aside0.mk (blk_below (g := gb507) (o := .cells #[.string ((rd_T48 l1 x17_2).f0), .int .i64 ((rd_T48 l1 x17_2).f1), .int .i64 ((rd_T48 l1 x17_2).f2)] 48 (0, 0)) (by (with_reducible repeat (first | refine blk_drewN ?_ _ | refine blk_drew ?_ | refine blk_alloc ?_ _)); refine blk_put (cs := #[.string ((rd_T48 l1 x17_2).f0), .int .i64 ((rd_T48 l1 x17_2).f1), .int .i64 0]) ?_ 2 _ rfl; (with_reducible repeat (first | refine blk_drewN ?_ _ | refine blk_drew ?_ | refine blk_alloc ?_ _)); refine blk_put (cs := #[.string ((rd_T48 l1 x17_2).f0), .int .i64 0, .int .i64 0]) ?_ 1 _ rfl; (with_reducible repeat (first | refine blk_drewN ?_ _ | refine blk_drew ?_ | refine blk_alloc ?_ _)); refine blk_put (cs := #[.string (⟨#[]⟩ : ByteArray), .int .i64 0, .int .i64 0]) ?_ 0 _ rfl; exact kb_ BK507.out) hb); replace HB := Aside0.mk (below_step bl_ hb); clear hb; have hcz26_0 : w25.cell? ⟨gb505, 0, none⟩ = some (.string ((rd_T48 l0 x11_1).f0)) := bc_ BK505.out 0; have hcz26_1 : w25.cell? ⟨gb505, 1, none⟩ = some (.int .i64 ((rd_T48 l0 x11_1).f1)) := bc_ BK505.out 1; have hcz26_2 : w25.cell? ⟨gb505, 2, none⟩ = some (.int .i64 ((rd_T48 l0 x11_1).f2)) := bc_ BK505.out 2; have hfz26_0 := blk_frozen BK505.out 0; have hfz26_1 := blk_frozen BK505.out 1; have hfz26_2 := blk_frozen BK505.out 2; have hcz27_0 : w25.cell? ⟨gb507, 0, none⟩ = some (.string ((rd_T48 l1 x17_2).f0)) := bc_ BK507.out 0; have hcz27_1 : w25.cell? ⟨gb507, 1, none⟩ = some (.int .i64 ((rd_T48 l1 x17_2).f1)) := bc_ BK507.out 1; have hcz27_2 : w25.cell? ⟨gb507, 2, none⟩ = some (.int .i64 ((rd_T48 l1 x17_2).f2)) := bc_ BK507.out 2; have hfz27_0 := blk_frozen BK507.out 0; have hfz27_1 := blk_frozen BK507.out 1; have hfz27_2 := blk_frozen BK507.out 2))
  go_ret
  exact ⟨ng_, bl_⟩
 rw [if_pos c13] at H
 have c13b0 : (((rd_T48 l0 x11_1).f0).toList == ((rd_T48 l1 x17_2).f0).toList) = true := beq_iff_eq.mpr c13
 have c13b1 : (((rd_T48 l0 x11_1).f0).toList != ((rd_T48 l1 x17_2).f0).toList) = false := bne_eq_false_iff_eq.mpr c13
 clear c13
 have H' := Aside0.mk H
 clear H
 have p506 : 0 ≤ (x17_2 : Int) := of_decide_eq_true (by first | (with_reducible assumption) | assumption)
 have q506 : x17_2 < (l1.length : Int) := of_decide_eq_true (by first | (with_reducible assumption) | assumption)
 obtain ⟨ad506, e506, hx506_0, hx506_1, hx506_2⟩ := at_T48 HR1.out x17_2 p506 q506
 cases e506
 replace hx506_0 := (HB.out.cell (World.block_lt_of_cell? w _ hx506_0)).trans hx506_0
 replace hx506_1 := (HB.out.cell (World.block_lt_of_cell? w _ hx506_1)).trans hx506_1
 replace hx506_2 := (HB.out.cell (World.block_lt_of_cell? w _ hx506_2)).trans hx506_2
 replace p506 := eq_true p506
 replace q506 := eq_true q506
 go_wp2_with (first | ((with_reducible refine gate_dst (N := 8) rfl ?_); refine box_event rfl (N := 8) rfl (cs := #[.string (⟨#[]⟩ : ByteArray), .int .i64 0, .int .i64 0]) (t := 48) gs_ ?_; intro gb507 hg w14 hbox hb; have BK507 := Aside0.mk (hbox); have GW507 := Aside0.mk ((by rw [hg]; exact bz_ : w.heap.size ≤ gb507)); have GE507 := GW507; replace HB := Aside0.mk (below_step bl_ hb); have NB505_507 := nl_ hg BK505; have NB507_505 := nm_ hg BK505; replace BK505 := bb_ BK505 hb; clear hb hbox hg; have hnb15 := NB507_505.out; have hnc15 := NB505_507.out; have hcz16_0 : w14.cell? ⟨gb507, 0, none⟩ = some (.string (⟨#[]⟩ : ByteArray)) := bc_ BK507.out 0; have hcz16_1 : w14.cell? ⟨gb507, 1, none⟩ = some (.int .i64 0) := bc_ BK507.out 1; have hcz16_2 : w14.cell? ⟨gb507, 2, none⟩ = some (.int .i64 0) := bc_ BK507.out 2; have hfz16_0 := blk_frozen BK507.out 0; have hfz16_1 := blk_frozen BK507.out 1; have hfz16_2 := blk_frozen BK507.out 2; have hcz17_0 : w14.cell? ⟨gb505, 0, none⟩ = some (.string ((rd_T48 l0 x11_1).f0)) := bc_ BK505.out 0; have hcz17_1 : w14.cell? ⟨gb505, 1, none⟩ = some (.int .i64 ((rd_T48 l0 x11_1).f1)) := bc_ BK505.out 1; have hcz17_2 : w14.cell? ⟨gb505, 2, none⟩ = some (.int .i64 ((rd_T48 l0 x11_1).f2)) := bc_ BK505.out 2; have hfz17_0 := blk_frozen BK505.out 0; have hfz17_1 := blk_frozen BK505.out 1; have hfz17_2 := blk_frozen BK505.out 2) | ((with_reducible refine gate_callee (f := 27) rfl ?_); refine goesL_ (some 23) rfl rfl Try.func27 (by kernel_rfl) rfl #[.agg #[.string ((rd_T48 l0 x11_1).f0), .int .i64 ((rd_T48 l0 x11_1).f1), .int .i64 ((rd_T48 l0 x11_1).f2)], .agg #[.string ((rd_T48 l1 x17_2).f0), .int .i64 ((rd_T48 l1 x17_2).f1), .int .i64 ((rd_T48 l1 x17_2).f2)]] rfl nc_ ?_; (with_reducible refine (spec_l14Same.calls ((rd_T48 l0 x11_1).f0) ((rd_T48 l0 x11_1).f1) ((rd_T48 l0 x11_1).f2) ((rd_T48 l1 x17_2).f0) ((rd_T48 l1 x17_2).f1) ((rd_T48 l1 x17_2).f2) true _ A11.out).mono ?_); rintro e w18 ⟨rfl, hb⟩; refine ⟨_, rfl, ?_⟩; replace BK505 := Aside0.mk (blk_below (g := gb505) (o := .cells #[.string ((rd_T48 l0 x11_1).f0), .int .i64 ((rd_T48 l0 x11_1).f1), .int .i64 ((rd_T48 l0 x11_1).f2)] 48 (0, 0)) kz_ hb); replace BK507 := Aside0.mk (blk_below (g := gb507) (o := .cells #[.string ((rd_T48 l1 x17_2).f0), .int .i64 ((rd_T48 l1 x17_2).f1), .int .i64 ((rd_T48 l1 x17_2).f2)] 48 (0, 0)) (by (with_reducible repeat (first | refine blk_drewN ?_ _ | refine blk_drew ?_ | refine blk_alloc ?_ _)); refine blk_put (cs := #[.string ((rd_T48 l1 x17_2).f0), .int .i64 ((rd_T48 l1 x17_2).f1), .int .i64 0]) ?_ 2 _ rfl; (with_reducible repeat (first | refine blk_drewN ?_ _ | refine blk_drew ?_ | refine blk_alloc ?_ _)); refine blk_put (cs := #[.string ((rd_T48 l1 x17_2).f0), .int .i64 0, .int .i64 0]) ?_ 1 _ rfl; (with_reducible repeat (first | refine blk_drewN ?_ _ | refine blk_drew ?_ | refine blk_alloc ?_ _)); refine blk_put (cs := #[.string (⟨#[]⟩ : ByteArray), .int .i64 0, .int .i64 0]) ?_ 0 _ rfl; exact kb_ BK507.out) hb); replace HB := Aside0.mk (below_step bl_ hb); clear hb; have hcz19_0 : w18.cell? ⟨gb505, 0, none⟩ = some (.string ((rd_T48 l0 x11_1).f0)) := bc_ BK505.out 0; have hcz19_1 : w18.cell? ⟨gb505, 1, none⟩ = some (.int .i64 ((rd_T48 l0 x11_1).f1)) := bc_ BK505.out 1; have hcz19_2 : w18.cell? ⟨gb505, 2, none⟩ = some (.int .i64 ((rd_T48 l0 x11_1).f2)) := bc_ BK505.out 2; have hfz19_0 := blk_frozen BK505.out 0; have hfz19_1 := blk_frozen BK505.out 1; have hfz19_2 := blk_frozen BK505.out 2; have hcz20_0 : w18.cell? ⟨gb507, 0, none⟩ = some (.string ((rd_T48 l1 x17_2).f0)) := bc_ BK507.out 0; have hcz20_1 : w18.cell? ⟨gb507, 1, none⟩ = some (.int .i64 ((rd_T48 l1 x17_2).f1)) := bc_ BK507.out 1; have hcz20_2 : w18.cell? ⟨gb507, 2, none⟩ = some (.int .i64 ((rd_T48 l1 x17_2).f2)) := bc_ BK507.out 2; have hfz20_0 := blk_frozen BK507.out 0; have hfz20_1 := blk_frozen BK507.out 1; have hfz20_2 := blk_frozen BK507.out 2))
 go_roundg k2
 case measure => have := HK1.out; have := HK2.out; omega
 case rel => exact ⟨(wrap64 (x17_2 + 1)), (by first | rfl | (simp; done) | (simp [*]; done)), H', ⟨by have := HK1.out; have := HK2.out; omega⟩, ⟨by exact kb_ BK505.out⟩, ⟨bl_⟩⟩

/-! ### spec_l14Has: function 37 -/
def spec_l14Has.l0 : Nat → List (S48) → Int → Int → ByteArray → Int → Int → Option (Bool)
 | 0, _, _, _, _, _, _ => none
 | k + 1, x7, x8, x9, x510000, x510001, x510002 => if x9 < x8 then (if 0 ≤ x9 then (if x9 < (x7.length : Int) then ((spec_l14Same.f x510000 x510001 x510002 ((rd_T48 x7 x9).f0) ((rd_T48 x7 x9).f1) ((rd_T48 x7 x9).f2)).bind fun t512 => (if t512 = true then (some true) else (spec_l14Has.l0 k x7 x8 (wrap64 (x9 + 1)) x510000 x510001 x510002))) else (none)) else (none)) else (some false)
def spec_l14Has.f (k : Nat) (l0 : List (S48)) (a1_0 : ByteArray) (a1_1 : Int) (a1_2 : Int) : Option (Bool) := spec_l14Has.l0 k l0 (l0.length : Int) 0 a1_0 a1_1 a1_2
theorem spec_l14Has.mono_l : ∀ k, (∀ y0 y1 y2 y3 y4 y5, LeO (spec_l14Has.l0 k y0 y1 y2 y3 y4 y5) (spec_l14Has.l0 (k + 1) y0 y1 y2 y3 y4 y5))
 | 0 => fun _ _ _ _ _ _ r h => by simp [spec_l14Has.l0] at h
 | k + 1 => by
  have ih0 := spec_l14Has.mono_l k
  ·intro y0 y1 y2 y3 y4 y5
   unfold spec_l14Has.l0
   repeat' first
   | (with_reducible exact ih0 _ _ _ _ _ _)
   | (with_reducible exact LeO.refl _)
   | (with_reducible exact LeO.none _)
   | (with_reducible refine LeO.ite ?_ ?_)
   | (with_reducible refine LeO.bind ?_ (fun _ => ?_))
   | exact ih0 _ _ _ _ _ _
   | exact LeO.none _
   | refine LeO.ite ?_ ?_
   | refine LeO.bind ?_ (fun _ => ?_)
theorem spec_l14Has.mono : ∀ a0 a1 a2 a3 k, LeO (spec_l14Has.f k a0 a1 a2 a3) (spec_l14Has.f (k + 1) a0 a1 a2 a3) := by
 intro a0 a1 a2 a3 k
 have ih0 := spec_l14Has.mono_l k
 unfold spec_l14Has.f
 repeat' first
   | (with_reducible exact ih0 _ _ _ _ _ _)
   | (with_reducible exact LeO.refl _)
   | (with_reducible exact LeO.none _)
   | (with_reducible refine LeO.ite ?_ ?_)
   | (with_reducible refine LeO.bind ?_ (fun _ => ?_))
   | exact ih0 _ _ _ _ _ _
   | exact LeO.none _
   | refine LeO.ite ?_ ?_
   | refine LeO.bind ?_ (fun _ => ?_)
set_option maxHeartbeats 8000000 in
set_option maxRecDepth 100000 in
theorem spec_l14Has.calls (k : Nat) (A0 : Option Addr) (c0 : Nat) (l0 : List (S48)) (a1_0 : ByteArray) (a1_1 : Int) (a1_2 : Int) (r : Bool) (w : World) (hr0 : Kd.C k48 w A0 l0.length l0) (hc0 : l0.length ≤ c0) (h : spec_l14Has.f k l0 a1_0 a1_1 a1_2 = some r) :
  Calls Try.prog 37 #[.slice A0 l0.length c0, .agg #[.string a1_0, .int .i64 a1_1, .int .i64 a1_2]] w fun e w' => e = .returned (.bool r) ∧ Below w.heap.size w w' := by
 have hu48 := Try.underlying48
 have HR0 := Aside0.mk hr0
 have HC0 := Aside0.mk hc0
 clear hr0 hc0
 have HB := Aside0.mk (Below.refl w.heap.size w)
 have H : (spec_l14Has.l0 k l0 (l0.length : Int) 0 a1_0 a1_1 a1_2) = some r := h
 clear h
 have H' := Aside0.mk H
 clear H
 go_enter Try.func37, Try.ntmps37
 go_wp2_with (first | ((with_reducible refine gate_dst (N := 3) rfl ?_); refine box_event rfl (N := 3) rfl (cs := #[.string a1_0, .int .i64 a1_1, .int .i64 a1_2]) (t := 48) gs_ ?_; intro gb509 hg w3 hbox hb; have BK509 := Aside0.mk (hbox); have GW509 := Aside0.mk ((by rw [hg]; exact bz_ : w.heap.size ≤ gb509)); have GE509 := GW509; replace HB := Aside0.mk (below_step bl_ hb); clear hb hbox hg))
 go_loopg [9] k (fun kq v9 w' => ∃ (x9_1 : Int), v9 = .int .i64 x9_1 ∧ Aside0 (spec_l14Has.l0 kq l0 (l0.length : Int) x9_1 a1_0 a1_1 a1_2 = some r) ∧ Aside0 (kq ≤ k) ∧ Aside0 (w'.heap[gb509]? = some (.cells #[.string a1_0, .int .i64 a1_1, .int .i64 a1_2] 48 (0, 0))) ∧ Aside0 (Below w.heap.size w w'))
 case atStart => exact ⟨(0), (by first | rfl | (simp; done) | (simp [*]; done)), H', ⟨Nat.le_refl _⟩, ⟨by exact kb_ BK509.out⟩, ⟨bl_⟩⟩
 clear H'
 try clear p2
 try clear c3
 obtain ⟨x9_1, rfl, HA, HK1, BK509, HB⟩ := hrel
 cases gk with
 | zero => exact absurd HA.out (by simp [spec_l14Has.l0])
 | succ k1 => ?_
 have H := HA.out
 clear HA
 simp only [spec_l14Has.l0] at H
 by_cases c4 : x9_1 < (l0.length : Int)
 rotate_left
 ·rw [if_neg c4] at H
  have c4b0 : decide (x9_1 < (l0.length : Int)) = false := decide_eq_false c4
  clear c4
  obtain rfl := Option.some.inj H
  go_wp2
  go_ret
  exact ⟨ng_, bl_⟩
 rw [if_pos c4] at H
 have c4b0 : decide (x9_1 < (l0.length : Int)) = true := decide_eq_true c4
 clear c4
 by_cases c5 : 0 ≤ x9_1
 rotate_left
 ·rw [if_neg c5] at H
  exact absurd H (by simp)
 rw [if_pos c5] at H
 have c5b0 : decide (0 ≤ x9_1) = true := decide_eq_true c5
 clear c5
 by_cases c6 : x9_1 < (l0.length : Int)
 rotate_left
 ·rw [if_neg c6] at H
  exact absurd H (by simp)
 rw [if_pos c6] at H
 have c6b0 : decide (x9_1 < (l0.length : Int)) = true := decide_eq_true c6
 clear c6
 replace H := Option.bind_eq_some_iff.mp H
 obtain ⟨t512, A70, H⟩ := H
 replace H : (if t512 = true then (some true) else (spec_l14Has.l0 k1 l0 (l0.length : Int) (wrap64 (x9_1 + 1)) a1_0 a1_1 a1_2)) = some r := H
 have A7 := Aside0.mk A70
 clear A70
 by_cases c8 : t512 = true
 ·subst c8
  have H1 : (some true) = some r := by rw [if_pos rfl] at H; exact H
  clear H
  have H := H1
  clear H1
  obtain rfl := Option.some.inj H
  have p510 : 0 ≤ (x9_1 : Int) := of_decide_eq_true (by first | (with_reducible assumption) | assumption)
  have q510 : x9_1 < (l0.length : Int) := of_decide_eq_true (by first | (with_reducible assumption) | assumption)
  obtain ⟨ad510, e510, hx510_0, hx510_1, hx510_2⟩ := at_T48 HR0.out x9_1 p510 q510
  cases e510
  replace hx510_0 := (HB.out.cell (World.block_lt_of_cell? w _ hx510_0)).trans hx510_0
  replace hx510_1 := (HB.out.cell (World.block_lt_of_cell? w _ hx510_1)).trans hx510_1
  replace hx510_2 := (HB.out.cell (World.block_lt_of_cell? w _ hx510_2)).trans hx510_2
  replace p510 := eq_true p510
  replace q510 := eq_true q510
  go_wp2_with (first | ((with_reducible refine gate_dst (N := 6) rfl ?_); refine box_event rfl (N := 6) rfl (cs := #[.string (⟨#[]⟩ : ByteArray), .int .i64 0, .int .i64 0]) (t := 48) gs_ ?_; intro gb511 hg w9 hbox hb; have BK511 := Aside0.mk (hbox); have GW511 := Aside0.mk ((by rw [hg]; exact bz_ : w.heap.size ≤ gb511)); have GE511 := GW511; replace HB := Aside0.mk (below_step bl_ hb); have NB509_511 := nl_ hg BK509; have NB511_509 := nm_ hg BK509; replace BK509 := bb_ BK509 hb; clear hb hbox hg; have hnb10 := NB511_509.out; have hnc10 := NB509_511.out; have hcz11_0 : w9.cell? ⟨gb511, 0, none⟩ = some (.string (⟨#[]⟩ : ByteArray)) := bc_ BK511.out 0; have hcz11_1 : w9.cell? ⟨gb511, 1, none⟩ = some (.int .i64 0) := bc_ BK511.out 1; have hcz11_2 : w9.cell? ⟨gb511, 2, none⟩ = some (.int .i64 0) := bc_ BK511.out 2; have hfz11_0 := blk_frozen BK511.out 0; have hfz11_1 := blk_frozen BK511.out 1; have hfz11_2 := blk_frozen BK511.out 2; have hcz12_0 : w9.cell? ⟨gb509, 0, none⟩ = some (.string a1_0) := bc_ BK509.out 0; have hcz12_1 : w9.cell? ⟨gb509, 1, none⟩ = some (.int .i64 a1_1) := bc_ BK509.out 1; have hcz12_2 : w9.cell? ⟨gb509, 2, none⟩ = some (.int .i64 a1_2) := bc_ BK509.out 2; have hfz12_0 := blk_frozen BK509.out 0; have hfz12_1 := blk_frozen BK509.out 1; have hfz12_2 := blk_frozen BK509.out 2) | ((with_reducible refine gate_callee (f := 27) rfl ?_); refine goesL_ (some 15) rfl rfl Try.func27 (by kernel_rfl) rfl #[.agg #[.string a1_0, .int .i64 a1_1, .int .i64 a1_2], .agg #[.string ((rd_T48 l0 x9_1).f0), .int .i64 ((rd_T48 l0 x9_1).f1), .int .i64 ((rd_T48 l0 x9_1).f2)]] rfl nc_ ?_; (with_reducible refine (spec_l14Same.calls a1_0 a1_1 a1_2 ((rd_T48 l0 x9_1).f0) ((rd_T48 l0 x9_1).f1) ((rd_T48 l0 x9_1).f2) true _ A7.out).mono ?_); rintro e w13 ⟨rfl, hb⟩; refine ⟨_, rfl, ?_⟩; replace BK509 := Aside0.mk (blk_below (g := gb509) (o := .cells #[.string a1_0, .int .i64 a1_1, .int .i64 a1_2] 48 (0, 0)) kz_ hb); replace BK511 := Aside0.mk (blk_below (g := gb511) (o := .cells #[.string ((rd_T48 l0 x9_1).f0), .int .i64 ((rd_T48 l0 x9_1).f1), .int .i64 ((rd_T48 l0 x9_1).f2)] 48 (0, 0)) (by (with_reducible repeat (first | refine blk_drewN ?_ _ | refine blk_drew ?_ | refine blk_alloc ?_ _)); refine blk_put (cs := #[.string ((rd_T48 l0 x9_1).f0), .int .i64 ((rd_T48 l0 x9_1).f1), .int .i64 0]) ?_ 2 _ rfl; (with_reducible repeat (first | refine blk_drewN ?_ _ | refine blk_drew ?_ | refine blk_alloc ?_ _)); refine blk_put (cs := #[.string ((rd_T48 l0 x9_1).f0), .int .i64 0, .int .i64 0]) ?_ 1 _ rfl; (with_reducible repeat (first | refine blk_drewN ?_ _ | refine blk_drew ?_ | refine blk_alloc ?_ _)); refine blk_put (cs := #[.string (⟨#[]⟩ : ByteArray), .int .i64 0, .int .i64 0]) ?_ 0 _ rfl; exact kb_ BK511.out) hb); replace HB := Aside0.mk (below_step bl_ hb); clear hb))
  go_ret
  exact ⟨ng_, bl_⟩
 replace c8 := Bool.eq_false_iff.mpr c8
 subst c8
 have H1 : (spec_l14Has.l0 k1 l0 (l0.length : Int) (wrap64 (x9_1 + 1)) a1_0 a1_1 a1_2) = some r := by rw [if_neg (show ¬ (false = true) by decide)] at H; exact H
 clear H
 have H := H1
 clear H1
 have H' := Aside0.mk H
 clear H
 have p510 : 0 ≤ (x9_1 : Int) := of_decide_eq_true (by first | (with_reducible assumption) | assumption)
 have q510 : x9_1 < (l0.length : Int) := of_decide_eq_true (by first | (with_reducible assumption) | assumption)
 obtain ⟨ad510, e510, hx510_0, hx510_1, hx510_2⟩ := at_T48 HR0.out x9_1 p510 q510
 cases e510
 replace hx510_0 := (HB.out.cell (World.block_lt_of_cell? w _ hx510_0)).trans hx510_0
 replace hx510_1 := (HB.out.cell (World.block_lt_of_cell? w _ hx510_1)).trans hx510_1
 replace hx510_2 := (HB.out.cell (World.block_lt_of_cell? w _ hx510_2)).trans hx510_2
 replace p510 := eq_true p510
 replace q510 := eq_true q510
 go_wp2_with (first | ((with_reducible refine gate_dst (N := 6) rfl ?_); refine box_event rfl (N := 6) rfl (cs := #[.string (⟨#[]⟩ : ByteArray), .int .i64 0, .int .i64 0]) (t := 48) gs_ ?_; intro gb511 hg w14 hbox hb; have BK511 := Aside0.mk (hbox); have GW511 := Aside0.mk ((by rw [hg]; exact bz_ : w.heap.size ≤ gb511)); have GE511 := GW511; replace HB := Aside0.mk (below_step bl_ hb); have NB509_511 := nl_ hg BK509; have NB511_509 := nm_ hg BK509; replace BK509 := bb_ BK509 hb; clear hb hbox hg; have hnb15 := NB511_509.out; have hnc15 := NB509_511.out; have hcz16_0 : w14.cell? ⟨gb511, 0, none⟩ = some (.string (⟨#[]⟩ : ByteArray)) := bc_ BK511.out 0; have hcz16_1 : w14.cell? ⟨gb511, 1, none⟩ = some (.int .i64 0) := bc_ BK511.out 1; have hcz16_2 : w14.cell? ⟨gb511, 2, none⟩ = some (.int .i64 0) := bc_ BK511.out 2; have hfz16_0 := blk_frozen BK511.out 0; have hfz16_1 := blk_frozen BK511.out 1; have hfz16_2 := blk_frozen BK511.out 2; have hcz17_0 : w14.cell? ⟨gb509, 0, none⟩ = some (.string a1_0) := bc_ BK509.out 0; have hcz17_1 : w14.cell? ⟨gb509, 1, none⟩ = some (.int .i64 a1_1) := bc_ BK509.out 1; have hcz17_2 : w14.cell? ⟨gb509, 2, none⟩ = some (.int .i64 a1_2) := bc_ BK509.out 2; have hfz17_0 := blk_frozen BK509.out 0; have hfz17_1 := blk_frozen BK509.out 1; have hfz17_2 := blk_frozen BK509.out 2) | ((with_reducible refine gate_callee (f := 27) rfl ?_); refine goesL_ (some 15) rfl rfl Try.func27 (by kernel_rfl) rfl #[.agg #[.string a1_0, .int .i64 a1_1, .int .i64 a1_2], .agg #[.string ((rd_T48 l0 x9_1).f0), .int .i64 ((rd_T48 l0 x9_1).f1), .int .i64 ((rd_T48 l0 x9_1).f2)]] rfl nc_ ?_; (with_reducible refine (spec_l14Same.calls a1_0 a1_1 a1_2 ((rd_T48 l0 x9_1).f0) ((rd_T48 l0 x9_1).f1) ((rd_T48 l0 x9_1).f2) false _ A7.out).mono ?_); rintro e w18 ⟨rfl, hb⟩; refine ⟨_, rfl, ?_⟩; replace BK509 := Aside0.mk (blk_below (g := gb509) (o := .cells #[.string a1_0, .int .i64 a1_1, .int .i64 a1_2] 48 (0, 0)) kz_ hb); replace BK511 := Aside0.mk (blk_below (g := gb511) (o := .cells #[.string ((rd_T48 l0 x9_1).f0), .int .i64 ((rd_T48 l0 x9_1).f1), .int .i64 ((rd_T48 l0 x9_1).f2)] 48 (0, 0)) (by (with_reducible repeat (first | refine blk_drewN ?_ _ | refine blk_drew ?_ | refine blk_alloc ?_ _)); refine blk_put (cs := #[.string ((rd_T48 l0 x9_1).f0), .int .i64 ((rd_T48 l0 x9_1).f1), .int .i64 0]) ?_ 2 _ rfl; (with_reducible repeat (first | refine blk_drewN ?_ _ | refine blk_drew ?_ | refine blk_alloc ?_ _)); refine blk_put (cs := #[.string ((rd_T48 l0 x9_1).f0), .int .i64 0, .int .i64 0]) ?_ 1 _ rfl; (with_reducible repeat (first | refine blk_drewN ?_ _ | refine blk_drew ?_ | refine blk_alloc ?_ _)); refine blk_put (cs := #[.string (⟨#[]⟩ : ByteArray), .int .i64 0, .int .i64 0]) ?_ 0 _ rfl; exact kb_ BK511.out) hb); replace HB := Aside0.mk (below_step bl_ hb); clear hb))
 go_roundg k1
 case measure => have := HK1.out; omega
 case rel => exact ⟨(wrap64 (x9_1 + 1)), (by first | rfl | (simp; done) | (simp [*]; done)), H', ⟨by have := HK1.out; omega⟩, ⟨by exact kb_ BK509.out⟩, ⟨bl_⟩⟩

end Go.Proofs.Ytdnapgnnliibfaa.PMB
