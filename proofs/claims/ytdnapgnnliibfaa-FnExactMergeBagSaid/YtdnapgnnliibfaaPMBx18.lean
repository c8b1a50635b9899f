/- What this text proves: the machine calls of these functions return what the plain functions say. Conditions: as each theorem says. Printed by a program of this session out of the translation. -/
import Derived.Test.YtdnapgnnliibfaaPMBx0
import Derived.Test.YtdnapgnnliibfaaPMBx3
namespace Go.Proofs.Ytdnapgnnliibfaa.PMB
open Go.RowKit Go.Proofs.YtdnapgnnliibfaaW.PrintWords Go.Proofs.YtdnapgnnliibfaaW.PrintLast Go.Proofs.YtdnapgnnliibfaaW.PrintMore
attribute [local go_sem] max2_int min2_int max_two min_two max_three min_three max_four min_four   -- for this text's walks alone
set_option linter.unusedVariables false
set_option linter.unusedSimpArgs false

/-! ### laws_heldAddS: function 35 -/
def laws_heldAddS.l0 : Nat → List (S48) → Int → Int → Option (Int)
 | 0, _, _, _ => none
 | k + 1, x0, x1, x5 => if x5 < (x0.length : Int) then (if 0 ≤ x5 then ((laws_markText.f k x1).bind fun t452 => (if ((rd_T48 x0 x5).f0).toList = t452.toList then (if ((rd_T48 x0 x5).f1) = (wrap64 (x1 + 1)) then (if ((rd_T48 x0 x5).f2) = (wrap64 ((wrap64 (x1 + 1)) + 1)) then (laws_heldAddS.l0 k x0 (wrap64 ((wrap64 ((wrap64 (x1 + 1)) + 1)) + 1)) (wrap64 (x5 + 1))) else (some (-1))) else (some (-1))) else (some (-1)))) else (none)) else (some x1)
def laws_heldAddS.f (k : Nat) (l0 : List (S48)) (a1 : Int) : Option (Int) := laws_heldAddS.l0 k l0 a1 0
theorem laws_heldAddS.mono_l : ∀ k, (∀ y0 y1 y2, LeO (laws_heldAddS.l0 k y0 y1 y2) (laws_heldAddS.l0 (k + 1) y0 y1 y2))
 | 0 => fun _ _ _ r h => by simp [laws_heldAddS.l0] at h
 | k + 1 => by
  have ih0 := laws_heldAddS.mono_l k
  ·intro y0 y1 y2
   unfold laws_heldAddS.l0
   repeat' first
   | (with_reducible exact ih0 _ _ _)
   | (with_reducible exact laws_markText.mono _ _)
   | (with_reducible exact LeO.refl _)
   | (with_reducible exact LeO.none _)
   | (with_reducible refine LeO.ite ?_ ?_)
   | (with_reducible refine LeO.bind ?_ (fun _ => ?_))
   | exact ih0 _ _ _
   | exact laws_markText.mono _ _
   | exact LeO.none _
   | refine LeO.ite ?_ ?_
   | refine LeO.bind ?_ (fun _ => ?_)
theorem laws_heldAddS.mono : ∀ a0 a1 k, LeO (laws_heldAddS.f k a0 a1) (laws_heldAddS.f (k + 1) a0 a1) := by
 intro a0 a1 k
 have ih0 := laws_heldAddS.mono_l k
 unfold laws_heldAddS.f
 repeat' first
   | (with_reducible exact ih0 _ _ _)
   | (with_reducible exact laws_markText.mono _ _)
   | (with_reducible exact LeO.refl _)
   | (with_reducible exact LeO.none _)
   | (with_reducible refine LeO.ite ?_ ?_)
   | (with_reducible refine LeO.bind ?_ (fun _ => ?_))
   | exact ih0 _ _ _
   | exact laws_markText.mono _ _
   | exact LeO.none _
   | refine LeO.ite ?_ ?_
   | refine LeO.bind ?_ (fun _ => ?_)
def laws_heldAddS.T4 : Bool × List (List Nat × List Nat) := (true, [([], []), ([], []), ([0, 1], [0, 1]), ([2], [2]), ([3], [3]), ([], []), ([5], [5]), ([4, 6], [4, 6])])
def laws_heldAddS.B4 : List Nat := [0, 0, 3, 7, 15, 0, 32, 127]
theorem laws_heldAddS.tab4 : rtab .any (opsOf Try.f35 4) = laws_heldAddS.T4 := by kernel_rfl
theorem laws_heldAddS.bits4 : waitsOk laws_heldAddS.T4.2 laws_heldAddS.B4 = true := by kernel_rfl
set_option maxHeartbeats 8000000 in
set_option maxRecDepth 100000 in
theorem laws_heldAddS.calls (k : Nat) (A0 : Option Addr) (c0 : Nat) (l0 : List (S48)) (a1 : Int) (r : Int) (w : World) (hr0 : Kd.C k48 w A0 l0.length l0) (hc0 : l0.length ≤ c0) (h : laws_heldAddS.f k l0 a1 = some r) :
  Calls Try.prog 35 #[.slice A0 l0.length c0, .int .i64 a1] w fun e w' => e = .returned (.int .i64 r) ∧ Below w.heap.size w w' := by
 have HR0 := Aside0.mk hr0
 have HC0 := Aside0.mk hc0
 clear hr0 hc0
 have HB := Aside0.mk (Below.refl w.heap.size w)
 have H : (laws_heldAddS.l0 k l0 a1 0) = some r := h
 clear h
 have H' := Aside0.mk H
 clear H
 go_enter Try.func35, Try.ntmps35
 go_wp2
 go_loopg [1, 5] k (fun kq v1 v5 w' => ∃ (x1_1 : Int) (x5_1 : Int), v1 = .int .i64 x1_1 ∧ v5 = .int .i64 x5_1 ∧ Aside0 (laws_heldAddS.l0 kq l0 x1_1 x5_1 = some r) ∧ Aside0 (kq ≤ k) ∧ Aside0 (Below w.heap.size w w'))
 case atStart => exact ⟨(a1), (0), (by first | rfl | (simp; done) | (simp [*]; done)), (by first | rfl | (simp; done) | (simp [*]; done)), H', ⟨Nat.le_refl _⟩, ⟨bl_⟩⟩
 clear H'
 try clear p2
 obtain ⟨x1_1, x5_1, rfl, rfl, HA, HK1, HB⟩ := hrel
 cases gk with
 | zero => exact absurd HA.out (by simp [laws_heldAddS.l0])
 | succ k1 => ?_
 have H := HA.out
 clear HA
 simp only [laws_heldAddS.l0] at H
 by_cases c3 : x5_1 < (l0.length : Int)
 rotate_left
 ·rw [if_neg c3] at H
  have c3b0 : decide (x5_1 < (l0.length : Int)) = false := decide_eq_false c3
  clear c3
  obtain rfl := Option.some.inj H
  go_wp2
  go_ret
  exact ⟨ng_, bl_⟩
 rw [if_pos c3] at H
 have c3b0 : decide (x5_1 < (l0.length : Int)) = true := decide_eq_true c3
 clear c3
 by_cases c4 : 0 ≤ x5_1
 rotate_left
 ·rw [if_neg c4] at H
  exact absurd H (by simp)
 rw [if_pos c4] at H
 have c4b0 : decide (0 ≤ x5_1) = true := decide_eq_true c4
 clear c4
 replace H := Option.bind_eq_some_iff.mp H
 obtain ⟨t452, A50, H⟩ := H
 replace H : (if ((rd_T48 l0 x5_1).f0).toList = t452.toList then (if ((rd_T48 l0 x5_1).f1) = (wrap64 (x1_1 + 1)) then (if ((rd_T48 l0 x5_1).f2) = (wrap64 ((wrap64 (x1_1 + 1)) + 1)) then (laws_heldAddS.l0 k1 l0 (wrap64 ((wrap64 ((wrap64 (x1_1 + 1)) + 1)) + 1)) (wrap64 (x5_1 + 1))) else (some (-1))) else (some (-1))) else (some (-1))) = some r := H
 have A5 := Aside0.mk A50
 clear A50
 by_cases c6 : ((rd_T48 l0 x5_1).f0).toList = t452.toList
 rotate_left
 ·rw [if_neg c6] at H
  have c6b0 : (((rd_T48 l0 x5_1).f0).toList == t452.toList) = false := beq_eq_false_iff_ne.mpr c6
  have c6b1 : (((rd_T48 l0 x5_1).f0).toList != t452.toList) = true := bne_iff_ne.mpr c6
  obtain rfl := Option.some.inj H
  try go_wp2
  replace HB := Aside0.mk (below_drew1 HB.out)
  have p451 : 0 ≤ (x5_1 : Int) := of_decide_eq_true (by first | (with_reducible assumption) | assumption)
  have q451 : x5_1 < (l0.length : Int) := of_decide_eq_true (by first | (with_reducible assumption) | assumption)
  obtain ⟨ad451, e451, hx451_0, hx451_1, hx451_2⟩ := at_T48 HR0.out x5_1 p451 q451
  have hw451_2 := hx451_2
  have hw451_1 := hx451_1
  have hw451_0 := hx451_0
  cases e451
  replace hx451_0 := (HB.out.cell (World.block_lt_of_cell? w _ hx451_0)).trans hx451_0
  replace hx451_1 := (HB.out.cell (World.block_lt_of_cell? w _ hx451_1)).trans hx451_1
  replace hx451_2 := (HB.out.cell (World.block_lt_of_cell? w _ hx451_2)).trans hx451_2
  replace p451 := eq_true p451
  replace q451 := eq_true q451
  refine start_ (n := 8) (S := fun w' => w'.cell? (ad451.add ((x5_1).toNat * 3)) = some (.string ((rd_T48 l0 x5_1).f0)) ∧ w'.cell? ⟨(ad451.add ((x5_1).toNat * 3)).block, (ad451.add ((x5_1).toNat * 3)).off + 1, none⟩ = some (.int .i64 ((rd_T48 l0 x5_1).f1)) ∧ w'.cell? ⟨(ad451.add ((x5_1).toNat * 3)).block, (ad451.add ((x5_1).toNat * 3)).off + 2, none⟩ = some (.int .i64 ((rd_T48 l0 x5_1).f2))) (ds := []) #[false, false, false, false, false, false, false, false] (by kernel_rfl) rfl rfl ⟨((HB.out.cell (World.block_lt_of_cell? w _ hw451_0)).trans hw451_0), ((HB.out.cell (World.block_lt_of_cell? w _ hw451_1)).trans hw451_1), ((HB.out.cell (World.block_lt_of_cell? w _ hw451_2)).trans hw451_2)⟩ (fun hHeld => ?_); refine with_tabW laws_heldAddS.tab4 laws_heldAddS.bits4 (fun HT_ HW_ => ?_)
  generalize wr.drew = w15 at HB hx451_0 hx451_1 hx451_2 hHeld ⊢
  refine pu_ 0 (some 12) (h := ?_)
  refine pu_ 1 (some 13) (h := ?_)
  refine pu_ 2 (some 14) (h := ?_)
  refine pu_ 3 (some 15) (h := ?_)
  refine pu_ 5 (some 17) (h := ?_)
  refine tk3_ 4 (some 16) (h := ?_)
  refine on_ 6 (some 18) (h := fun K hK => ?_)
  refine goes_ Try.func47 (by kernel_rfl) rfl #[.int .i64 x1_1] (by rfl) rfl rfl nc_ ?_
  with_reducible refine (laws_markText.calls k1 x1_1 t452 _ A5.out).mono ?_
  rintro e w16 ⟨rfl, hb⟩
  refine ⟨_, rfl, ?_⟩
  replace HB := Aside0.mk (below_step bl_ hb)
  clear hb
  refine hK.out _ _ ⟨((HB.out.cell (World.block_lt_of_cell? w _ hw451_0)).trans hw451_0), ((HB.out.cell (World.block_lt_of_cell? w _ hw451_1)).trans hw451_1), ((HB.out.cell (World.block_lt_of_cell? w _ hw451_2)).trans hw451_2)⟩ (fun hHeld => ?_)
  clear hK K
  refine norm_ nn_ ?_
  refine pu_ 7 (some 19) (h := ?_)
  refine done_ (done_of HT_.out (by kernel_rfl)) ?_
  try go_wp2
  go_ret
  exact ⟨ng_, bl_⟩
 rw [if_pos c6] at H
 have c6b0 : (((rd_T48 l0 x5_1).f0).toList == t452.toList) = true := beq_iff_eq.mpr c6
 have c6b1 : (((rd_T48 l0 x5_1).f0).toList != t452.toList) = false := bne_eq_false_iff_eq.mpr c6
 clear c6
 by_cases c7 : ((rd_T48 l0 x5_1).f1) = (wrap64 (x1_1 + 1))
 rotate_left
 ·rw [if_neg c7] at H
  have c7b0 : (((rd_T48 l0 x5_1).f1) == (wrap64 (x1_1 + 1))) = false := beq_eq_false_iff_ne.mpr c7
  have c7b1 : (((rd_T48 l0 x5_1).f1) != (wrap64 (x1_1 + 1))) = true := bne_iff_ne.mpr c7
  obtain rfl := Option.some.inj H
  try go_wp2
  replace HB := Aside0.mk (below_drew1 HB.out)
  have p451 : 0 ≤ (x5_1 : Int) := of_decide_eq_true (by first | (with_reducible assumption) | assumption)
  have q451 : x5_1 < (l0.length : Int) := of_decide_eq_true (by first | (with_reducible assumption) | assumption)
  obtain ⟨ad451, e451, hx451_0, hx451_1, hx451_2⟩ := at_T48 HR0.out x5_1 p451 q451
  have hw451_2 := hx451_2
  have hw451_1 := hx451_1
  have hw451_0 := hx451_0
  cases e451
  replace hx451_0 := (HB.out.cell (World.block_lt_of_cell? w _ hx451_0)).trans hx451_0
  replace hx451_1 := (HB.out.cell (World.block_lt_of_cell? w _ hx451_1)).trans hx451_1
  replace hx451_2 := (HB.out.cell (World.block_lt_of_cell? w _ hx451_2)).trans hx451_2
  replace p451 := eq_true p451
  replace q451 := eq_true q451
  refine start_ (n := 8) (S := fun w' => w'.cell? (ad451.add ((x5_1).toNat * 3)) = some (.string ((rd_T48 l0 x5_1).f0)) ∧ w'.cell? ⟨(ad451.add ((x5_1).toNat * 3)).block, (ad451.add ((x5_1).toNat * 3)).off + 1, none⟩ = some (.int .i64 ((rd_T48 l0 x5_1).f1)) ∧ w'.cell? ⟨(ad451.add ((x5_1).toNat * 3)).block, (ad451.add ((x5_1).toNat * 3)).off + 2, none⟩ = some (.int .i64 ((rd_T48 l0 x5_1).f2))) (ds := []) #[false, false, false, false, false, false, false, false] (by kernel_rfl) rfl rfl ⟨((HB.out.cell (World.block_lt_of_cell? w _ hw451_0)).trans hw451_0), ((HB.out.cell (World.block_lt_of_cell? w _ hw451_1)).trans hw451_1), ((HB.out.cell (World.block_lt_of_cell? w _ hw451_2)).trans hw451_2)⟩ (fun hHeld => ?_); refine with_tabW laws_heldAddS.tab4 laws_heldAddS.bits4 (fun HT_ HW_ => ?_)
  generalize wr.drew = w13 at HB hx451_0 hx451_1 hx451_2 hHeld ⊢
  refine pu_ 0 (some 12) (h := ?_)
  refine pu_ 1 (some 13) (h := ?_)
  refine pu_ 2 (some 14) (h := ?_)
  refine pu_ 3 (some 15) (h := ?_)
  refine pu_ 5 (some 17) (h := ?_)
  refine tk3_ 4 (some 16) (h := ?_)
  refine on_ 6 (some 18) (h := fun K hK => ?_)
  refine goes_ Try.func47 (by kernel_rfl) rfl #[.int .i64 x1_1] (by rfl) rfl rfl nc_ ?_
  with_reducible refine (laws_markText.calls k1 x1_1 t452 _ A5.out).mono ?_
  rintro e w14 ⟨rfl, hb⟩
  refine ⟨_, rfl, ?_⟩
  replace HB := Aside0.mk (below_step bl_ hb)
  clear hb
  refine hK.out _ _ ⟨((HB.out.cell (World.block_lt_of_cell? w _ hw451_0)).trans hw451_0), ((HB.out.cell (World.block_lt_of_cell? w _ hw451_1)).trans hw451_1), ((HB.out.cell (World.block_lt_of_cell? w _ hw451_2)).trans hw451_2)⟩ (fun hHeld => ?_)
  clear hK K
  refine norm_ nn_ ?_
  refine pu_ 7 (some 19) (h := ?_)
  refine done_ (done_of HT_.out (by kernel_rfl)) ?_
  have p453 : 0 ≤ (x5_1 : Int) := of_decide_eq_true (by first | (with_reducible assumption) | assumption)
  have q453 : x5_1 < (l0.length : Int) := of_decide_eq_true (by first | (with_reducible assumption) | assumption)
  obtain ⟨ad453, e453, hx453_0, hx453_1, hx453_2⟩ := at_T48 HR0.out x5_1 p453 q453
  obtain rfl : ad451 = ad453 := (by injection e453)
  replace hx453_0 := (HB.out.cell (World.block_lt_of_cell? w _ hx453_0)).trans hx453_0
  replace hx453_1 := (HB.out.cell (World.block_lt_of_cell? w _ hx453_1)).trans hx453_1
  replace hx453_2 := (HB.out.cell (World.block_lt_of_cell? w _ hx453_2)).trans hx453_2
  replace p453 := eq_true p453
  replace q453 := eq_true q453
  try go_wp2
  go_ret
  exact ⟨ng_, bl_⟩
 rw [if_pos c7] at H
 have c7b0 : (((rd_T48 l0 x5_1).f1) == (wrap64 (x1_1 + 1))) = true := beq_iff_eq.mpr c7
 have c7b1 : (((rd_T48 l0 x5_1).f1) != (wrap64 (x1_1 + 1))) = false := bne_eq_false_iff_eq.mpr c7
 clear c7
 by_cases c8 : ((rd_T48 l0 x5_1).f2) = (wrap64 ((wrap64 (x1_1 + 1)) + 1))
 rotate_left
 ·rw [if_neg c8] at H
  have c8b0 : (((rd_T48 l0 x5_1).f2) == (wrap64 ((wrap64 (x1_1 + 1)) + 1))) = false := beq_eq_false_iff_ne.mpr c8
  have c8b1 : (((rd_T48 l0 x5_1).f2) != (wrap64 ((wrap64 (x1_1 + 1)) + 1))) = true := bne_iff_ne.mpr c8
  obtain rfl := Option.some.inj H
  try go_wp2
  replace HB := Aside0.mk (below_drew1 HB.out)
  have p451 : 0 ≤ (x5_1 : Int) := of_decide_eq_true (by first | (with_reducible assumption) | assumption)
  have q451 : x5_1 < (l0.length : Int) := of_decide_eq_true (by first | (with_reducible assumption) | assumption)
  obtain ⟨ad451, e451, hx451_0, hx451_1, hx451_2⟩ := at_T48 HR0.out x5_1 p451 q451
  have hw451_2 := hx451_2
  have hw451_1 := hx451_1
  have hw451_0 := hx451_0
  cases e451
  replace hx451_0 := (HB.out.cell (World.block_lt_of_cell? w _ hx451_0)).trans hx451_0
  replace hx451_1 := (HB.out.cell (World.block_lt_of_cell? w _ hx451_1)).trans hx451_1
  replace hx451_2 := (HB.out.cell (World.block_lt_of_cell? w _ hx451_2)).trans hx451_2
  replace p451 := eq_true p451
  replace q451 := eq_true q451
  refine start_ (n := 8) (S := fun w' => w'.cell? (ad451.add ((x5_1).toNat * 3)) = some (.string ((rd_T48 l0 x5_1).f0)) ∧ w'.cell? ⟨(ad451.add ((x5_1).toNat * 3)).block, (ad451.add ((x5_1).toNat * 3)).off + 1, none⟩ = some (.int .i64 ((rd_T48 l0 x5_1).f1)) ∧ w'.cell? ⟨(ad451.add ((x5_1).toNat * 3)).block, (ad451.add ((x5_1).toNat * 3)).off + 2, none⟩ = some (.int .i64 ((rd_T48 l0 x5_1).f2))) (ds := []) #[false, false, false, false, false, false, false, false] (by kernel_rfl) rfl rfl ⟨((HB.out.cell (World.block_lt_of_cell? w _ hw451_0)).trans hw451_0), ((HB.out.cell (World.block_lt_of_cell? w _ hw451_1)).trans hw451_1), ((HB.out.cell (World.block_lt_of_cell? w _ hw451_2)).trans hw451_2)⟩ (fun hHeld => ?_); refine with_tabW laws_heldAddS.tab4 laws_heldAddS.bits4 (fun HT_ HW_ => ?_)
  generalize wr.drew = w11 at HB hx451_0 hx451_1 hx451_2 hHeld ⊢
  refine pu_ 0 (some 12) (h := ?_)
  refine pu_ 1 (some 13) (h := ?_)
  refine pu_ 2 (some 14) (h := ?_)
  refine pu_ 3 (some 15) (h := ?_)
  refine pu_ 5 (some 17) (h := ?_)
  refine tk3_ 4 (some 16) (h := ?_)
  refine on_ 6 (some 18) (h := fun K hK => ?_)
  refine goes_ Try.func47 (by kernel_rfl) rfl #[.int .i64 x1_1] (by rfl) rfl rfl nc_ ?_
  with_reducible refine (laws_markText.calls k1 x1_1 t452 _ A5.out).mono ?_
  rintro e w12 ⟨rfl, hb⟩
  refine ⟨_, rfl, ?_⟩
  replace HB := Aside0.mk (below_step bl_ hb)
  clear hb
  refine hK.out _ _ ⟨((HB.out.cell (World.block_lt_of_cell? w _ hw451_0)).trans hw451_0), ((HB.out.cell (World.block_lt_of_cell? w _ hw451_1)).trans hw451_1), ((HB.out.cell (World.block_lt_of_cell? w _ hw451_2)).trans hw451_2)⟩ (fun hHeld => ?_)
  clear hK K
  refine norm_ nn_ ?_
  refine pu_ 7 (some 19) (h := ?_)
  refine done_ (done_of HT_.out (by kernel_rfl)) ?_
  have p453 : 0 ≤ (x5_1 : Int) := of_decide_eq_true (by first | (with_reducible assumption) | assumption)
  have q453 : x5_1 < (l0.length : Int) := of_decide_eq_true (by first | (with_reducible assumption) | assumption)
  obtain ⟨ad453, e453, hx453_0, hx453_1, hx453_2⟩ := at_T48 HR0.out x5_1 p453 q453
  obtain rfl : ad451 = ad453 := (by injection e453)
  replace hx453_0 := (HB.out.cell (World.block_lt_of_cell? w _ hx453_0)).trans hx453_0
  replace hx453_1 := (HB.out.cell (World.block_lt_of_cell? w _ hx453_1)).trans hx453_1
  replace hx453_2 := (HB.out.cell (World.block_lt_of_cell? w _ hx453_2)).trans hx453_2
  replace p453 := eq_true p453
  replace q453 := eq_true q453
  have p454 : 0 ≤ (x5_1 : Int) := of_decide_eq_true (by first | (with_reducible assumption) | assumption)
  have q454 : x5_1 < (l0.length : Int) := of_decide_eq_true (by first | (with_reducible assumption) | assumption)
  obtain ⟨ad454, e454, hx454_0, hx454_1, hx454_2⟩ := at_T48 HR0.out x5_1 p454 q454
  obtain rfl : ad451 = ad454 := (by injection e454)
  replace hx454_0 := (HB.out.cell (World.block_lt_of_cell? w _ hx454_0)).trans hx454_0
  replace hx454_1 := (HB.out.cell (World.block_lt_of_cell? w _ hx454_1)).trans hx454_1
  replace hx454_2 := (HB.out.cell (World.block_lt_of_cell? w _ hx454_2)).trans hx454_2
  replace p454 := eq_true p454
  replace q454 := eq_true q454
  try go_wp2
  go_ret
  exact ⟨ng_, bl_⟩
 rw [if_pos c8] at H
 have c8b0 : (((rd_T48 l0 x5_1).f2) == (wrap64 ((wrap64 (x1_1 + 1)) + 1))) = true := beq_iff_eq.mpr c8
 have c8b1 : (((rd_T48 l0 x5_1).f2) != (wrap64 ((wrap64 (x1_1 + 1)) + 1))) = false := bne_eq_false_iff_eq.mpr c8
 clear c8
 have H' := Aside0.mk H
 clear H
 try go_wp2
 replace HB := Aside0.mk (below_drew1 HB.out)
 have p451 : 0 ≤ (x5_1 : Int) := of_decide_eq_true (by first | (with_reducible assumption) | assumption)
 have q451 : x5_1 < (l0.length : Int) := of_decide_eq_true (by first | (with_reducible assumption) | assumption)
 obtain ⟨ad451, e451, hx451_0, hx451_1, hx451_2⟩ := at_T48 HR0.out x5_1 p451 q451
 have hw451_2 := hx451_2
 have hw451_1 := hx451_1
 have hw451_0 := hx451_0
 cases e451
 replace hx451_0 := (HB.out.cell (World.block_lt_of_cell? w _ hx451_0)).trans hx451_0
 replace hx451_1 := (HB.out.cell (World.block_lt_of_cell? w _ hx451_1)).trans hx451_1
 replace hx451_2 := (HB.out.cell (World.block_lt_of_cell? w _ hx451_2)).trans hx451_2
 replace p451 := eq_true p451
 replace q451 := eq_true q451
 refine start_ (n := 8) (S := fun w' => w'.cell? (ad451.add ((x5_1).toNat * 3)) = some (.string ((rd_T48 l0 x5_1).f0)) ∧ w'.cell? ⟨(ad451.add ((x5_1).toNat * 3)).block, (ad451.add ((x5_1).toNat * 3)).off + 1, none⟩ = some (.int .i64 ((rd_T48 l0 x5_1).f1)) ∧ w'.cell? ⟨(ad451.add ((x5_1).toNat * 3)).block, (ad451.add ((x5_1).toNat * 3)).off + 2, none⟩ = some (.int .i64 ((rd_T48 l0 x5_1).f2))) (ds := []) #[false, false, false, false, false, false, false, false] (by kernel_rfl) rfl rfl ⟨((HB.out.cell (World.block_lt_of_cell? w _ hw451_0)).trans hw451_0), ((HB.out.cell (World.block_lt_of_cell? w _ hw451_1)).trans hw451_1), ((HB.out.cell (World.block_lt_of_cell? w _ hw451_2)).trans hw451_2)⟩ (fun hHeld => ?_); refine with_tabW laws_heldAddS.tab4 laws_heldAddS.bits4 (fun HT_ HW_ => ?_)
 generalize wr.drew = w9 at HB hx451_0 hx451_1 hx451_2 hHeld ⊢
 refine pu_ 0 (some 12) (h := ?_)
 refine pu_ 1 (some 13) (h := ?_)
 refine pu_ 2 (some 14) (h := ?_)
 refine pu_ 3 (some 15) (h := ?_)
 refine pu_ 5 (some 17) (h := ?_)
 refine tk3_ 4 (some 16) (h := ?_)
 refine on_ 6 (some 18) (h := fun K hK => ?_)
 refine goes_ Try.func47 (by kernel_rfl) rfl #[.int .i64 x1_1] (by rfl) rfl rfl nc_ ?_
 with_reducible refine (laws_markText.calls k1 x1_1 t452 _ A5.out).mono ?_
 rintro e w10 ⟨rfl, hb⟩
 refine ⟨_, rfl, ?_⟩
 replace HB := Aside0.mk (below_step bl_ hb)
 clear hb
 refine hK.out _ _ ⟨((HB.out.cell (World.block_lt_of_cell? w _ hw451_0)).trans hw451_0), ((HB.out.cell (World.block_lt_of_cell? w _ hw451_1)).trans hw451_1), ((HB.out.cell (World.block_lt_of_cell? w _ hw451_2)).trans hw451_2)⟩ (fun hHeld => ?_)
 clear hK K
 refine norm_ nn_ ?_
 refine pu_ 7 (some 19) (h := ?_)
 refine done_ (done_of HT_.out (by kernel_rfl)) ?_
 have p453 : 0 ≤ (x5_1 : Int) := of_decide_eq_true (by first | (with_reducible assumption) | assumption)
 have q453 : x5_1 < (l0.length : Int) := of_decide_eq_true (by first | (with_reducible assumption) | assumption)
 obtain ⟨ad453, e453, hx453_0, hx453_1, hx453_2⟩ := at_T48 HR0.out x5_1 p453 q453
 obtain rfl : ad451 = ad453 := (by injection e453)
 replace hx453_0 := (HB.out.cell (World.block_lt_of_cell? w _ hx453_0)).trans hx453_0
 replace hx453_1 := (HB.out.cell (World.block_lt_of_cell? w _ hx453_1)).trans hx453_1
 replace hx453_2 := (HB.out.cell (World.block_lt_of_cell? w _ hx453_2)).trans hx453_2
 replace p453 := eq_true p453
 replace q453 := eq_true q453
 have p454 : 0 ≤ (x5_1 : Int) := of_decide_eq_true (by first | (with_reducible assumption) | assumption)
 have q454 : x5_1 < (l0.length : Int) := of_decide_eq_true (by first | (with_reducible assumption) | assumption)
 obtain ⟨ad454, e454, hx454_0, hx454_1, hx454_2⟩ := at_T48 HR0.out x5_1 p454 q454
 obtain rfl : ad451 = ad454 := (by injection e454)
 replace hx454_0 := (HB.out.cell (World.block_lt_of_cell? w _ hx454_0)).trans hx454_0
 replace hx454_1 := (HB.out.cell (World.block_lt_of_cell? w _ hx454_1)).trans hx454_1
 replace hx454_2 := (HB.out.cell (World.block_lt_of_cell? w _ hx454_2)).trans hx454_2
 replace p454 := eq_true p454
 replace q454 := eq_true q454
 try go_wp2
 go_roundg k1
 case measure => have := HK1.out; omega
 case rel => exact ⟨(wrap64 ((wrap64 ((wrap64 (x1_1 + 1)) + 1)) + 1)), (wrap64 (x5_1 + 1)), (by first | rfl | (simp; done) | (simp [*]; done)), (by first | rfl | (simp; done) | (simp [*]; done)), H', ⟨by have := HK1.out; omega⟩, ⟨bl_⟩⟩

/-! ### laws_heldBag: function 16 -/
def laws_heldBag.f (k : Nat) (l0_0 : List (S48)) (l0_1 : List (S48)) (a1 : Int) : Option (Int) := (laws_heldAddS.f k l0_0 a1).bind fun t456 => (if t456 < 0 then (some (-1)) else ((laws_heldAddS.f k l0_1 t456).bind fun t457 => (if t457 < 0 then (some (-1)) else (some t457))))
theorem laws_heldBag.mono : ∀ a0 a1 a2 k, LeO (laws_heldBag.f k a0 a1 a2) (laws_heldBag.f (k + 1) a0 a1 a2) := by
 intro a0 a1 a2 k
 unfold laws_heldBag.f
 repeat' first
   | (with_reducible exact laws_heldAddS.mono _ _ _)
   | (with_reducible exact LeO.refl _)
   | (with_reducible exact LeO.none _)
   | (with_reducible refine LeO.ite ?_ ?_)
   | (with_reducible refine LeO.bind ?_ (fun _ => ?_))
   | exact laws_heldAddS.mono _ _ _
   | exact LeO.none _
   | refine LeO.ite ?_ ?_
   | refine LeO.bind ?_ (fun _ => ?_)
set_option maxHeartbeats 8000000 in
set_option maxRecDepth 100000 in
theorem laws_heldBag.calls (k : Nat) (A0_0 : Option Addr) (c0_0 : Nat) (l0_0 : List (S48)) (A0_1 : Option Addr) (c0_1 : Nat) (l0_1 : List (S48)) (a1 : Int) (r : Int) (w : World) (hr0_0 : Kd.C k48 w A0_0 l0_0.length l0_0) (hc0_0 : l0_0.length ≤ c0_0) (hr0_1 : Kd.C k48 w A0_1 l0_1.length l0_1) (hc0_1 : l0_1.length ≤ c0_1) (h : laws_heldBag.f k l0_0 l0_1 a1 = some r) :
  Calls Try.prog 16 #[.agg #[.slice A0_0 l0_0.length c0_0, .slice A0_1 l0_1.length c0_1], .int .i64 a1] w fun e w' => e = .returned (.int .i64 r) ∧ Below w.heap.size w w' := by
 have hu29 := Try.underlying29
 have HR0_0 := Aside0.mk hr0_0
 have HC0_0 := Aside0.mk hc0_0
 clear hr0_0 hc0_0
 have HR0_1 := Aside0.mk hr0_1
 have HC0_1 := Aside0.mk hc0_1
 clear hr0_1 hc0_1
 have HB := Aside0.mk (Below.refl w.heap.size w)
 have H : ((laws_heldAddS.f k l0_0 a1).bind fun t456 => (if t456 < 0 then (some (-1)) else ((laws_heldAddS.f k l0_1 t456).bind fun t457 => (if t457 < 0 then (some (-1)) else (some t457))))) = some r := h
 clear h
 replace H := Option.bind_eq_some_iff.mp H
 obtain ⟨t456, A30, H⟩ := H
 replace H : (if t456 < 0 then (some (-1)) else ((laws_heldAddS.f k l0_1 t456).bind fun t457 => (if t457 < 0 then (some (-1)) else (some t457)))) = some r := H
 have A3 := Aside0.mk A30
 clear A30
 by_cases c4 : t456 < 0
 ·rw [if_pos c4] at H
  have c4b0 : decide (t456 < 0) = true := decide_eq_true c4
  clear c4
  obtain rfl := Option.some.inj H
  go_enter Try.func16, Try.ntmps16
  go_wp2_with (first | ((with_reducible refine gate_dst (N := 2) rfl ?_); refine box_event rfl (N := 2) rfl (cs := #[.slice A0_0 l0_0.length c0_0, .slice A0_1 l0_1.length c0_1]) (t := 29) gs_ ?_; intro gb455 hg w5 hbox hb; have BK455 := Aside0.mk (hbox); have GW455 := Aside0.mk ((by rw [hg]; exact bz_ : w.heap.size ≤ gb455)); have GE455 := GW455; replace HB := Aside0.mk (below_step bl_ hb); clear hb hbox hg; have hcz6_0 : w5.cell? ⟨gb455, 0, none⟩ = some (.slice A0_0 l0_0.length c0_0) := bc_ BK455.out 0; have hcz6_1 : w5.cell? ⟨gb455, 1, none⟩ = some (.slice A0_1 l0_1.length c0_1) := bc_ BK455.out 1; have hfz6_0 := blk_frozen BK455.out 0; have hfz6_1 := blk_frozen BK455.out 1) | ((with_reducible refine gate_callee (f := 35) rfl ?_); refine goesL_ (some 8) rfl rfl Try.func35 (by kernel_rfl) rfl #[.slice A0_0 l0_0.length c0_0, .int .i64 a1] rfl nc_ ?_; (with_reducible refine (laws_heldAddS.calls k _ _ l0_0 a1 t456 _ ?side1 ?side2 A3.out).mono ?_); (case side1 => exact kc_ (Kd.C_below HR0_0.out HB.out)); (case side2 => exact HC0_0.out); rintro e w7 ⟨rfl, hb⟩; refine ⟨_, rfl, ?_⟩; replace BK455 := bb_ BK455 hb; replace HB := Aside0.mk (below_step bl_ hb); clear hb))
  go_ret
  exact ⟨ng_, bl_⟩
 rw [if_neg c4] at H
 have c4b0 : decide (t456 < 0) = false := decide_eq_false c4
 clear c4
 replace H := Option.bind_eq_some_iff.mp H
 obtain ⟨t457, A80, H⟩ := H
 replace H : (if t457 < 0 then (some (-1)) else (some t457)) = some r := H
 have A8 := Aside0.mk A80
 clear A80
 by_cases c9 : t457 < 0
 ·rw [if_pos c9] at H
  have c9b0 : decide (t457 < 0) = true := decide_eq_true c9
  clear c9
  obtain rfl := Option.some.inj H
  go_enter Try.func16, Try.ntmps16
  go_wp2_with (first | ((with_reducible refine gate_dst (N := 2) rfl ?_); refine box_event rfl (N := 2) rfl (cs := #[.slice A0_0 l0_0.length c0_0, .slice A0_1 l0_1.length c0_1]) (t := 29) gs_ ?_; intro gb455 hg w10 hbox hb; have BK455 := Aside0.mk (hbox); have GW455 := Aside0.mk ((by rw [hg]; exact bz_ : w.heap.size ≤ gb455)); have GE455 := GW455; replace HB := Aside0.mk (below_step bl_ hb); clear hb hbox hg; have hcz11_0 : w10.cell? ⟨gb455, 0, none⟩ = some (.slice A0_0 l0_0.length c0_0) := bc_ BK455.out 0; have hcz11_1 : w10.cell? ⟨gb455, 1, none⟩ = some (.slice A0_1 l0_1.length c0_1) := bc_ BK455.out 1; have hfz11_0 := blk_frozen BK455.out 0; have hfz11_1 := blk_frozen BK455.out 1) | ((with_reducible refine gate_callee (f := 35) rfl ?_); refine goesL_ (some 8) rfl rfl Try.func35 (by kernel_rfl) rfl #[.slice A0_0 l0_0.length c0_0, .int .i64 a1] rfl nc_ ?_; (with_reducible refine (laws_heldAddS.calls k _ _ l0_0 a1 t456 _ ?side1 ?side2 A3.out).mono ?_); (case side1 => exact kc_ (Kd.C_below HR0_0.out HB.out)); (case side2 => exact HC0_0.out); rintro e w12 ⟨rfl, hb⟩; refine ⟨_, rfl, ?_⟩; replace BK455 := bb_ BK455 hb; replace HB := Aside0.mk (below_step bl_ hb); clear hb; have hcz13_0 : w12.cell? ⟨gb455, 0, none⟩ = some (.slice A0_0 l0_0.length c0_0) := bc_ BK455.out 0; have hcz13_1 : w12.cell? ⟨gb455, 1, none⟩ = some (.slice A0_1 l0_1.length c0_1) := bc_ BK455.out 1; have hfz13_0 := blk_frozen BK455.out 0; have hfz13_1 := blk_frozen BK455.out 1) | ((with_reducible refine gate_callee (f := 35) rfl ?_); refine goesL_ (some 14) rfl rfl Try.func35 (by kernel_rfl) rfl #[.slice A0_1 l0_1.length c0_1, .int .i64 t456] rfl nc_ ?_; (with_reducible refine (laws_heldAddS.calls k _ _ l0_1 t456 t457 _ ?side1 ?side2 A8.out).mono ?_); (case side1 => exact kc_ (Kd.C_below HR0_1.out HB.out)); (case side2 => exact HC0_1.out); rintro e w14 ⟨rfl, hb⟩; refine ⟨_, rfl, ?_⟩; replace BK455 := bb_ BK455 hb; replace HB := Aside0.mk (below_step bl_ hb); clear hb))
  go_ret
  exact ⟨ng_, bl_⟩
 rw [if_neg c9] at H
 have c9b0 : decide (t457 < 0) = false := decide_eq_false c9
 clear c9
 obtain rfl := Option.some.inj H
 go_enter Try.func16, Try.ntmps16
 go_wp2_with (first | ((with_reducible refine gate_dst (N := 2) rfl ?_); refine box_event rfl (N := 2) rfl (cs := #[.slice A0_0 l0_0.length c0_0, .slice A0_1 l0_1.length c0_1]) (t := 29) gs_ ?_; intro gb455 hg w15 hbox hb; have BK455 := Aside0.mk (hbox); have GW455 := Aside0.mk ((by rw [hg]; exact bz_ : w.heap.size ≤ gb455)); have GE455 := GW455; replace HB := Aside0.mk (below_step bl_ hb); clear hb hbox hg; have hcz16_0 : w15.cell? ⟨gb455, 0, none⟩ = some (.slice A0_0 l0_0.length c0_0) := bc_ BK455.out 0; have hcz16_1 : w15.cell? ⟨gb455, 1, none⟩ = some (.slice A0_1 l0_1.length c0_1) := bc_ BK455.out 1; have hfz16_0 := blk_frozen BK455.out 0; have hfz16_1 := blk_frozen BK455.out 1) | ((with_reducible refine gate_callee (f := 35) rfl ?_); refine goesL_ (some 8) rfl rfl Try.func35 (by kernel_rfl) rfl #[.slice A0_0 l0_0.length c0_0, .int .i64 a1] rfl nc_ ?_; (with_reducible refine (laws_heldAddS.calls k _ _ l0_0 a1 t456 _ ?side1 ?side2 A3.out).mono ?_); (case side1 => exact kc_ (Kd.C_below HR0_0.out HB.out)); (case side2 => exact HC0_0.out); rintro e w17 ⟨rfl, hb⟩; refine ⟨_, rfl, ?_⟩; replace BK455 := bb_ BK455 hb; replace HB := Aside0.mk (below_step bl_ hb); clear hb; have hcz18_0 : w17.cell? ⟨gb455, 0, none⟩ = some (.slice A0_0 l0_0.length c0_0) := bc_ BK455.out 0; have hcz18_1 : w17.cell? ⟨gb455, 1, none⟩ = some (.slice A0_1 l0_1.length c0_1) := bc_ BK455.out 1; have hfz18_0 := blk_frozen BK455.out 0; have hfz18_1 := blk_frozen BK455.out 1) | ((with_reducible refine gate_callee (f := 35) rfl ?_); refine goesL_ (some 14) rfl rfl Try.func35 (by kernel_rfl) rfl #[.slice A0_1 l0_1.length c0_1, .int .i64 t456] rfl nc_ ?_; (with_reducible refine (laws_heldAddS.calls k _ _ l0_1 t456 t457 _ ?side1 ?side2 A8.out).mono ?_); (case side1 => exact kc_ (Kd.C_below HR0_1.out HB.out)); (case side2 => exact HC0_1.out); rintro e w19 ⟨rfl, hb⟩; refine ⟨_, rfl, ?_⟩; replace BK455 := bb_ BK455 hb; replace HB := Aside0.mk (below_step bl_ hb); clear hb))
 go_ret
 exact ⟨ng_, bl_⟩

end Go.Proofs.Ytdnapgnnliibfaa.PMB
