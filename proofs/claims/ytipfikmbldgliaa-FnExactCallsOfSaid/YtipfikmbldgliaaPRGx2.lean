/- What this text proves: the machine calls of these functions return what the plain functions say. Conditions: as each theorem says. Printed by a program of this session out of the translation. -/
import Derived.Test.YtipfikmbldgliaaPRGx0
import Derived.Test.YtipfikmbldgliaaPRGx1
namespace Go.Proofs.Ytipfikmbldgliaa.PRG
open Go.RowKit Go.Proofs.YtipfikmbldgliaaW.PrintWords Go.Proofs.YtipfikmbldgliaaW.PrintLast Go.Proofs.YtipfikmbldgliaaW.PrintMore
attribute [local go_sem] max2_int min2_int max_two min_two max_three min_three max_four min_four   -- for this text's walks alone
set_option linter.unusedVariables false
set_option linter.unusedSimpArgs false

/-! ### laws_eqRegOpS: function 47 -/
def laws_eqRegOpS.l0 : Nat → List (S83) → List (S83) → Int → Option (Bool)
 | 0, _, _, _ => none
 | k + 1, x0, x1, x5 => if x5 < (x0.length : Int) then (if 0 ≤ x5 then (if x5 < (x1.length : Int) then ((laws_eqRegOp.f k ((rd_T83 x0 x5).f0) ((rd_T83 x0 x5).f1) ((rd_T83 x0 x5).f2) ((rd_T83 x0 x5).f3) ((rd_T83 x0 x5).f4) ((rd_T83 x0 x5).f5.f0) ((rd_T83 x0 x5).f5.f1) ((rd_T83 x0 x5).f5.f2) ((rd_T83 x0 x5).f6) ((rd_T83 x0 x5).f7) ((rd_T83 x1 x5).f0) ((rd_T83 x1 x5).f1) ((rd_T83 x1 x5).f2) ((rd_T83 x1 x5).f3) ((rd_T83 x1 x5).f4) ((rd_T83 x1 x5).f5.f0) ((rd_T83 x1 x5).f5.f1) ((rd_T83 x1 x5).f5.f2) ((rd_T83 x1 x5).f6) ((rd_T83 x1 x5).f7)).bind fun t114 => (if t114 = true then (laws_eqRegOpS.l0 k x0 x1 (wrap64 (x5 + 1))) else (some false))) else (none)) else (none)) else (some true)
def laws_eqRegOpS.f (k : Nat) (l0 : List (S83)) (l1 : List (S83)) : Option (Bool) := if (l0.length : Int) = (l1.length : Int) then (laws_eqRegOpS.l0 k l0 l1 0) else (some false)
theorem laws_eqRegOpS.mono_l : ∀ k, (∀ y0 y1 y2, LeO (laws_eqRegOpS.l0 k y0 y1 y2) (laws_eqRegOpS.l0 (k + 1) y0 y1 y2))
 | 0 => fun _ _ _ r h => by simp [laws_eqRegOpS.l0] at h
 | k + 1 => by
  have ih0 := laws_eqRegOpS.mono_l k
  ·intro y0 y1 y2
   unfold laws_eqRegOpS.l0
   repeat' first
   | (with_reducible exact ih0 _ _ _)
   | (with_reducible exact laws_eqRegOp.mono _ _ _ _ _ _ _ _ _ _ _ _ _ _ _ _ _ _ _ _ _)
   | (with_reducible exact LeO.refl _)
   | (with_reducible exact LeO.none _)
   | (with_reducible refine LeO.ite ?_ ?_)
   | (with_reducible refine LeO.bind ?_ (fun _ => ?_))
   | exact ih0 _ _ _
   | exact laws_eqRegOp.mono _ _ _ _ _ _ _ _ _ _ _ _ _ _ _ _ _ _ _ _ _
   | exact LeO.none _
   | refine LeO.ite ?_ ?_
   | refine LeO.bind ?_ (fun _ => ?_)
theorem laws_eqRegOpS.mono : ∀ a0 a1 k, LeO (laws_eqRegOpS.f k a0 a1) (laws_eqRegOpS.f (k + 1) a0 a1) := by
 intro a0 a1 k
 have ih0 := laws_eqRegOpS.mono_l k
 unfold laws_eqRegOpS.f
 repeat' first
   | (with_reducible exact ih0 _ _ _)
   | (with_reducible exact laws_eqRegOp.mono _ _ _ _ _ _ _ _ _ _ _ _ _ _ _ _ _ _ _ _ _)
   | (with_reducible exact LeO.refl _)
   | (with_reducible exact LeO.none _)
   | (with_reducible refine LeO.ite ?_ ?_)
   | (with_reducible refine LeO.bind ?_ (fun _ => ?_))
   | exact ih0 _ _ _
   | exact laws_eqRegOp.mono _ _ _ _ _ _ _ _ _ _ _ _ _ _ _ _ _ _ _ _ _
   | exact LeO.none _
   | refine LeO.ite ?_ ?_
   | refine LeO.bind ?_ (fun _ => ?_)
def laws_eqRegOpS.T6 : Bool × List (List Nat × List Nat) := (true, [([], []), ([], []), ([0, 1], [0, 1]), ([2], [2]), ([], []), ([], []), ([4, 5], [4, 5]), ([6], [6]), ([3, 7], [3, 7]), ([8], [8])])
def laws_eqRegOpS.B6 : List Nat := [0, 0, 3, 7, 0, 0, 48, 112, 255, 511]
theorem laws_eqRegOpS.tab6 : rtab .any (opsOf Try.f47 6) = laws_eqRegOpS.T6 := by kernel_rfl
theorem laws_eqRegOpS.bits6 : waitsOk laws_eqRegOpS.T6.2 laws_eqRegOpS.B6 = true := by kernel_rfl
set_option maxHeartbeats 8000000 in
set_option maxRecDepth 100000 in
theorem laws_eqRegOpS.calls (k : Nat) (A0 : Option Addr) (c0 : Nat) (l0 : List (S83)) (A1 : Option Addr) (c1 : Nat) (l1 : List (S83)) (r : Bool) (w : World) (hr0 : Kd.C k83 w A0 l0.length l0) (hc0 : l0.length ≤ c0) (hr1 : Kd.C k83 w A1 l1.length l1) (hc1 : l1.length ≤ c1) (h : laws_eqRegOpS.f k l0 l1 = some r) :
  Calls Try.prog 47 #[.slice A0 l0.length c0, .slice A1 l1.length c1] w fun e w' => e = .returned (.bool r) ∧ Below w.heap.size w w' := by
 have hu83 := Try.underlying83
 have HR0 := Aside0.mk hr0
 have HC0 := Aside0.mk hc0
 clear hr0 hc0
 have HR1 := Aside0.mk hr1
 have HC1 := Aside0.mk hc1
 clear hr1 hc1
 have HB := Aside0.mk (Below.refl w.heap.size w)
 have H : (if (l0.length : Int) = (l1.length : Int) then (laws_eqRegOpS.l0 k l0 l1 0) else (some false)) = some r := h
 clear h
 by_cases c3 : (l0.length : Int) = (l1.length : Int)
 rotate_left
 ·rw [if_neg c3] at H
  have c3b0 : ((l0.length : Int) == (l1.length : Int)) = false := beq_eq_false_iff_ne.mpr c3
  have c3b1 : ((l0.length : Int) != (l1.length : Int)) = true := bne_iff_ne.mpr c3
  have c3b2 : (l0.length == l1.length) = false := by first | simpa using c3 | (simp at c3 ⊢; omega)
  obtain rfl := Option.some.inj H
  go_enter Try.func47, Try.ntmps47
  go_wp2
  go_ret
  exact ⟨ng_, bl_⟩
 rw [if_pos c3] at H
 have c3b0 : ((l0.length : Int) == (l1.length : Int)) = true := beq_iff_eq.mpr c3
 have c3b1 : ((l0.length : Int) != (l1.length : Int)) = false := bne_eq_false_iff_eq.mpr c3
 have c3b2 : (l0.length == l1.length) = true := by first | simpa using c3 | (simp at c3 ⊢; omega)
 clear c3
 have H' := Aside0.mk H
 clear H
 go_enter Try.func47, Try.ntmps47
 go_wp2
 go_loopg [5] k (fun kq v5 w' => ∃ (x5_1 : Int), v5 = .int .i64 x5_1 ∧ Aside0 (laws_eqRegOpS.l0 kq l0 l1 x5_1 = some r) ∧ Aside0 (kq ≤ k) ∧ Aside0 (Below w.heap.size w w'))
 case atStart => exact ⟨(0), (by first | rfl | (simp; done) | (simp [*]; done)), H', ⟨Nat.le_refl _⟩, ⟨bl_⟩⟩
 clear H'
 try clear c1
 try clear p2
 try clear c3
 try clear c3b0
 try clear c3b1
 try clear c3b2
 obtain ⟨x5_1, rfl, HA, HK1, HB⟩ := hrel
 cases gk with
 | zero => exact absurd HA.out (by simp [laws_eqRegOpS.l0])
 | succ k1 => ?_
 have H := HA.out
 clear HA
 simp only [laws_eqRegOpS.l0] at H
 by_cases c4 : x5_1 < (l0.length : Int)
 rotate_left
 ·rw [if_neg c4] at H
  have c4b0 : decide (x5_1 < (l0.length : Int)) = false := decide_eq_false c4
  clear c4
  obtain rfl := Option.some.inj H
  go_wp2
  go_ret
  exact ⟨ng_, bl_⟩
 rw [if_pos c4] at H
 have c4b0 : decide (x5_1 < (l0.length : Int)) = true := decide_eq_true c4
 clear c4
 by_cases c5 : 0 ≤ x5_1
 rotate_left
 ·rw [if_neg c5] at H
  exact absurd H (by simp)
 rw [if_pos c5] at H
 have c5b0 : decide (0 ≤ x5_1) = true := decide_eq_true c5
 clear c5
 by_cases c6 : x5_1 < (l1.length : Int)
 rotate_left
 ·rw [if_neg c6] at H
  exact absurd H (by simp)
 rw [if_pos c6] at H
 have c6b0 : decide (x5_1 < (l1.length : Int)) = true := decide_eq_true c6
 clear c6
 replace H := Option.bind_eq_some_iff.mp H
 obtain ⟨t114, A70, H⟩ := H
 replace H : (if t114 = true then (laws_eqRegOpS.l0 k1 l0 l1 (wrap64 (x5_1 + 1))) else (some false)) = some r := H
 have A7 := Aside0.mk A70
 clear A70
 by_cases c8 : t114 = true
 rotate_left
 ·replace c8 := Bool.eq_false_iff.mpr c8
  subst c8
  have H1 : (some false) = some r := by rw [if_neg (show ¬ (false = true) by decide)] at H; exact H
  clear H
  have H := H1
  clear H1
  obtain rfl := Option.some.inj H
  try go_wp2
  replace HB := Aside0.mk (below_drew1 HB.out)
  have p112 : 0 ≤ (x5_1 : Int) := of_decide_eq_true (by first | (with_reducible assumption) | assumption)
  have q112 : x5_1 < (l0.length : Int) := of_decide_eq_true (by first | (with_reducible assumption) | assumption)
  obtain ⟨ad112, A112_4, c112_4, e112, hx112_0, hx112_1, hx112_2, hx112_3, hx112_4, hx112_5, hx112_6, hx112_7, hx112_8, hx112_9, hl112_4, hi112_4⟩ := at_T83 HR0.out x5_1 p112 q112
  have hw112_9 := hx112_9
  have hw112_8 := hx112_8
  have hw112_7 := hx112_7
  have hw112_6 := hx112_6
  have hw112_5 := hx112_5
  have hw112_4 := hx112_4
  have hw112_3 := hx112_3
  have hw112_2 := hx112_2
  have hw112_1 := hx112_1
  have hw112_0 := hx112_0
  cases e112
  replace hx112_0 := (HB.out.cell (World.block_lt_of_cell? w _ hx112_0)).trans hx112_0
  replace hx112_1 := (HB.out.cell (World.block_lt_of_cell? w _ hx112_1)).trans hx112_1
  replace hx112_2 := (HB.out.cell (World.block_lt_of_cell? w _ hx112_2)).trans hx112_2
  replace hx112_3 := (HB.out.cell (World.block_lt_of_cell? w _ hx112_3)).trans hx112_3
  replace hx112_4 := (HB.out.cell (World.block_lt_of_cell? w _ hx112_4)).trans hx112_4
  replace hx112_5 := (HB.out.cell (World.block_lt_of_cell? w _ hx112_5)).trans hx112_5
  replace hx112_6 := (HB.out.cell (World.block_lt_of_cell? w _ hx112_6)).trans hx112_6
  replace hx112_7 := (HB.out.cell (World.block_lt_of_cell? w _ hx112_7)).trans hx112_7
  replace hx112_8 := (HB.out.cell (World.block_lt_of_cell? w _ hx112_8)).trans hx112_8
  replace hx112_9 := (HB.out.cell (World.block_lt_of_cell? w _ hx112_9)).trans hx112_9
  have HR112_4 := Aside0.mk hi112_4
  have HC112_4 := Aside0.mk hl112_4
  clear hi112_4 hl112_4
  replace p112 := eq_true p112
  replace q112 := eq_true q112
  have p113 : 0 ≤ (x5_1 : Int) := of_decide_eq_true (by first | (with_reducible assumption) | assumption)
  have q113 : x5_1 < (l1.length : Int) := of_decide_eq_true (by first | (with_reducible assumption) | assumption)
  obtain ⟨ad113, A113_4, c113_4, e113, hx113_0, hx113_1, hx113_2, hx113_3, hx113_4, hx113_5, hx113_6, hx113_7, hx113_8, hx113_9, hl113_4, hi113_4⟩ := at_T83 HR1.out x5_1 p113 q113
  have hw113_9 := hx113_9
  have hw113_8 := hx113_8
  have hw113_7 := hx113_7
  have hw113_6 := hx113_6
  have hw113_5 := hx113_5
  have hw113_4 := hx113_4
  have hw113_3 := hx113_3
  have hw113_2 := hx113_2
  have hw113_1 := hx113_1
  have hw113_0 := hx113_0
  cases e113
  replace hx113_0 := (HB.out.cell (World.block_lt_of_cell? w _ hx113_0)).trans hx113_0
  replace hx113_1 := (HB.out.cell (World.block_lt_of_cell? w _ hx113_1)).trans hx113_1
  replace hx113_2 := (HB.out.cell (World.block_lt_of_cell? w _ hx113_2)).trans hx113_2
  replace hx113_3 := (HB.out.cell (World.block_lt_of_cell? w _ hx113_3)).trans hx113_3
  replace hx113_4 := (HB.out.cell (World.block_lt_of_cell? w _ hx113_4)).trans hx113_4
  replace hx113_5 := (HB.out.cell (World.block_lt_of_cell? w _ hx113_5)).trans hx113_5
  replace hx113_6 := (HB.out.cell (World.block_lt_of_cell? w _ hx113_6)).trans hx113_6
  replace hx113_7 := (HB.out.cell (World.block_lt_of_cell? w _ hx113_7)).trans hx113_7
  replace hx113_8 := (HB.out.cell (World.block_lt_of_cell? w _ hx113_8)).trans hx113_8
  replace hx113_9 := (HB.out.cell (World.block_lt_of_cell? w _ hx113_9)).trans hx113_9
  have HR113_4 := Aside0.mk hi113_4
  have HC113_4 := Aside0.mk hl113_4
  clear hi113_4 hl113_4
  replace p113 := eq_true p113
  replace q113 := eq_true q113
  refine start_ (n := 10) (S := fun w' => w'.cell? (ad112.add ((x5_1).toNat * 10)) = some (.int .i64 ((rd_T83 l0 x5_1).f0)) ∧ w'.cell? ⟨(ad112.add ((x5_1).toNat * 10)).block, (ad112.add ((x5_1).toNat * 10)).off + 1, none⟩ = some (.bool ((rd_T83 l0 x5_1).f1)) ∧ w'.cell? ⟨(ad112.add ((x5_1).toNat * 10)).block, (ad112.add ((x5_1).toNat * 10)).off + 2, none⟩ = some (.string ((rd_T83 l0 x5_1).f2)) ∧ w'.cell? ⟨(ad112.add ((x5_1).toNat * 10)).block, (ad112.add ((x5_1).toNat * 10)).off + 3, none⟩ = some (.int .i64 ((rd_T83 l0 x5_1).f3)) ∧ w'.cell? ⟨(ad112.add ((x5_1).toNat * 10)).block, (ad112.add ((x5_1).toNat * 10)).off + 4, none⟩ = some (.slice A112_4 ((rd_T83 l0 x5_1).f4).length c112_4) ∧ w'.cell? ⟨(ad112.add ((x5_1).toNat * 10)).block, (ad112.add ((x5_1).toNat * 10)).off + 5, none⟩ = some (.int .i64 ((rd_T83 l0 x5_1).f5.f0)) ∧ w'.cell? ⟨(ad112.add ((x5_1).toNat * 10)).block, (ad112.add ((x5_1).toNat * 10)).off + 6, none⟩ = some (.int .i64 ((rd_T83 l0 x5_1).f5.f1)) ∧ w'.cell? ⟨(ad112.add ((x5_1).toNat * 10)).block, (ad112.add ((x5_1).toNat * 10)).off + 7, none⟩ = some (.string ((rd_T83 l0 x5_1).f5.f2)) ∧ w'.cell? ⟨(ad112.add ((x5_1).toNat * 10)).block, (ad112.add ((x5_1).toNat * 10)).off + 8, none⟩ = some (.int .i64 ((rd_T83 l0 x5_1).f6)) ∧ w'.cell? ⟨(ad112.add ((x5_1).toNat * 10)).block, (ad112.add ((x5_1).toNat * 10)).off + 9, none⟩ = some (.int .i64 ((rd_T83 l0 x5_1).f7)) ∧ w'.cell? (ad113.add ((x5_1).toNat * 10)) = some (.int .i64 ((rd_T83 l1 x5_1).f0)) ∧ w'.cell? ⟨(ad113.add ((x5_1).toNat * 10)).block, (ad113.add ((x5_1).toNat * 10)).off + 1, none⟩ = some (.bool ((rd_T83 l1 x5_1).f1)) ∧ w'.cell? ⟨(ad113.add ((x5_1).toNat * 10)).block, (ad113.add ((x5_1).toNat * 10)).off + 2, none⟩ = some (.string ((rd_T83 l1 x5_1).f2)) ∧ w'.cell? ⟨(ad113.add ((x5_1).toNat * 10)).block, (ad113.add ((x5_1).toNat * 10)).off + 3, none⟩ = some (.int .i64 ((rd_T83 l1 x5_1).f3)) ∧ w'.cell? ⟨(ad113.add ((x5_1).toNat * 10)).block, (ad113.add ((x5_1).toNat * 10)).off + 4, none⟩ = some (.slice A113_4 ((rd_T83 l1 x5_1).f4).length c113_4) ∧ w'.cell? ⟨(ad113.add ((x5_1).toNat * 10)).block, (ad113.add ((x5_1).toNat * 10)).off + 5, none⟩ = some (.int .i64 ((rd_T83 l1 x5_1).f5.f0)) ∧ w'.cell? ⟨(ad113.add ((x5_1).toNat * 10)).block, (ad113.add ((x5_1).toNat * 10)).off + 6, none⟩ = some (.int .i64 ((rd_T83 l1 x5_1).f5.f1)) ∧ w'.cell? ⟨(ad113.add ((x5_1).toNat * 10)).block, (ad113.add ((x5_1).toNat * 10)).off + 7, none⟩ = some (.string ((rd_T83 l1 x5_1).f5.f2)) ∧ w'.cell? ⟨(ad113.add ((x5_1).toNat * 10)).block, (ad113.add ((x5_1).toNat * 10)).off + 8, none⟩ = some (.int .i64 ((rd_T83 l1 x5_1).f6)) ∧ w'.cell? ⟨(ad113.add ((x5_1).toNat * 10)).block, (ad113.add ((x5_1).toNat * 10)).off + 9, none⟩ = some (.int .i64 ((rd_T83 l1 x5_1).f7))) (ds := []) #[false, false, false, false, false, false, false, false, false, false] (by kernel_rfl) rfl rfl ⟨((HB.out.cell (World.block_lt_of_cell? w _ hw112_0)).trans hw112_0), ((HB.out.cell (World.block_lt_of_cell? w _ hw112_1)).trans hw112_1), ((HB.out.cell (World.block_lt_of_cell? w _ hw112_2)).trans hw112_2), ((HB.out.cell (World.block_lt_of_cell? w _ hw112_3)).trans hw112_3), ((HB.out.cell (World.block_lt_of_cell? w _ hw112_4)).trans hw112_4), ((HB.out.cell (World.block_lt_of_cell? w _ hw112_5)).trans hw112_5), ((HB.out.cell (World.block_lt_of_cell? w _ hw112_6)).trans hw112_6), ((HB.out.cell (World.block_lt_of_cell? w _ hw112_7)).trans hw112_7), ((HB.out.cell (World.block_lt_of_cell? w _ hw112_8)).trans hw112_8), ((HB.out.cell (World.block_lt_of_cell? w _ hw112_9)).trans hw112_9), ((HB.out.cell (World.block_lt_of_cell? w _ hw113_0)).trans hw113_0), ((HB.out.cell (World.block_lt_of_cell? w _ hw113_1)).trans hw113_1), ((HB.out.cell (World.block_lt_of_cell? w _ hw113_2)).trans hw113_2), ((HB.out.cell (World.block_lt_of_cell? w _ hw113_3)).trans hw113_3), ((HB.out.cell (World.block_lt_of_cell? w _ hw113_4)).trans hw113_4), ((HB.out.cell (World.block_lt_of_cell? w _ hw113_5)).trans hw113_5), ((HB.out.cell (World.block_lt_of_cell? w _ hw113_6)).trans hw113_6), ((HB.out.cell (World.block_lt_of_cell? w _ hw113_7)).trans hw113_7), ((HB.out.cell (World.block_lt_of_cell? w _ hw113_8)).trans hw113_8), ((HB.out.cell (World.block_lt_of_cell? w _ hw113_9)).trans hw113_9)⟩ (fun hHeld => ?_); refine with_tabW laws_eqRegOpS.tab6 laws_eqRegOpS.bits6 (fun HT_ HW_ => ?_)
  generalize wr.drew = w11 at HB HR112_4 HR113_4 hx112_0 hx112_1 hx112_2 hx112_3 hx112_4 hx112_5 hx112_6 hx112_7 hx112_8 hx112_9 hx113_0 hx113_1 hx113_2 hx113_3 hx113_4 hx113_5 hx113_6 hx113_7 hx113_8 hx113_9 hHeld ⊢
  refine pu_ 0 (some 17) (h := ?_)
  refine pu_ 1 (some 18) (h := ?_)
  refine pu_ 2 (some 19) (h := ?_)
  refine pu_ 4 (some 21) (h := ?_)
  refine pu_ 5 (some 22) (h := ?_)
  refine pu_ 6 (some 23) (h := ?_)
  refine tk20_ 3 (some 20) (h := ?_)
  refine tk20_ 7 (some 24) (h := ?_)
  refine on_ 8 (some 25) (h := fun K hK => ?_)
  refine goes_ Try.func79 (by kernel_rfl) rfl #[.agg #[.int .i64 ((rd_T83 l0 x5_1).f0), .bool ((rd_T83 l0 x5_1).f1), .string ((rd_T83 l0 x5_1).f2), .int .i64 ((rd_T83 l0 x5_1).f3), .slice A112_4 ((rd_T83 l0 x5_1).f4).length c112_4, .int .i64 ((rd_T83 l0 x5_1).f5.f0), .int .i64 ((rd_T83 l0 x5_1).f5.f1), .string ((rd_T83 l0 x5_1).f5.f2), .int .i64 ((rd_T83 l0 x5_1).f6), .int .i64 ((rd_T83 l0 x5_1).f7)], .agg #[.int .i64 ((rd_T83 l1 x5_1).f0), .bool ((rd_T83 l1 x5_1).f1), .string ((rd_T83 l1 x5_1).f2), .int .i64 ((rd_T83 l1 x5_1).f3), .slice A113_4 ((rd_T83 l1 x5_1).f4).length c113_4, .int .i64 ((rd_T83 l1 x5_1).f5.f0), .int .i64 ((rd_T83 l1 x5_1).f5.f1), .string ((rd_T83 l1 x5_1).f5.f2), .int .i64 ((rd_T83 l1 x5_1).f6), .int .i64 ((rd_T83 l1 x5_1).f7)]] (by rfl) rfl rfl nc_ ?_
  with_reducible refine (laws_eqRegOp.calls k1 ((rd_T83 l0 x5_1).f0) ((rd_T83 l0 x5_1).f1) ((rd_T83 l0 x5_1).f2) ((rd_T83 l0 x5_1).f3) _ _ ((rd_T83 l0 x5_1).f4) ((rd_T83 l0 x5_1).f5.f0) ((rd_T83 l0 x5_1).f5.f1) ((rd_T83 l0 x5_1).f5.f2) ((rd_T83 l0 x5_1).f6) ((rd_T83 l0 x5_1).f7) ((rd_T83 l1 x5_1).f0) ((rd_T83 l1 x5_1).f1) ((rd_T83 l1 x5_1).f2) ((rd_T83 l1 x5_1).f3) _ _ ((rd_T83 l1 x5_1).f4) ((rd_T83 l1 x5_1).f5.f0) ((rd_T83 l1 x5_1).f5.f1) ((rd_T83 l1 x5_1).f5.f2) ((rd_T83 l1 x5_1).f6) ((rd_T83 l1 x5_1).f7) false _ ?side1 ?side2 ?side3 ?side4 A7.out).mono ?_
  (case side1 => exact kc_ (Kd.C_below HR112_4.out HB.out))
  (case side2 => exact HC112_4.out)
  (case side3 => exact kc_ (Kd.C_below HR113_4.out HB.out))
  (case side4 => exact HC113_4.out)
  rintro e w12 ⟨rfl, hb⟩
  refine ⟨_, rfl, ?_⟩
  replace HB := Aside0.mk (below_step bl_ hb)
  clear hb
  refine hK.out _ _ ⟨((HB.out.cell (World.block_lt_of_cell? w _ hw112_0)).trans hw112_0), ((HB.out.cell (World.block_lt_of_cell? w _ hw112_1)).trans hw112_1), ((HB.out.cell (World.block_lt_of_cell? w _ hw112_2)).trans hw112_2), ((HB.out.cell (World.block_lt_of_cell? w _ hw112_3)).trans hw112_3), ((HB.out.cell (World.block_lt_of_cell? w _ hw112_4)).trans hw112_4), ((HB.out.cell (World.block_lt_of_cell? w _ hw112_5)).trans hw112_5), ((HB.out.cell (World.block_lt_of_cell? w _ hw112_6)).trans hw112_6), ((HB.out.cell (World.block_lt_of_cell? w _ hw112_7)).trans hw112_7), ((HB.out.cell (World.block_lt_of_cell? w _ hw112_8)).trans hw112_8), ((HB.out.cell (World.block_lt_of_cell? w _ hw112_9)).trans hw112_9), ((HB.out.cell (World.block_lt_of_cell? w _ hw113_0)).trans hw113_0), ((HB.out.cell (World.block_lt_of_cell? w _ hw113_1)).trans hw113_1), ((HB.out.cell (World.block_lt_of_cell? w _ hw113_2)).trans hw113_2), ((HB.out.cell (World.block_lt_of_cell? w _ hw113_3)).trans hw113_3), ((HB.out.cell (World.block_lt_of_cell? w _ hw113_4)).trans hw113_4), ((HB.out.cell (World.block_lt_of_cell? w _ hw113_5)).trans hw113_5), ((HB.out.cell (World.block_lt_of_cell? w _ hw113_6)).trans hw113_6), ((HB.out.cell (World.block_lt_of_cell? w _ hw113_7)).trans hw113_7), ((HB.out.cell (World.block_lt_of_cell? w _ hw113_8)).trans hw113_8), ((HB.out.cell (World.block_lt_of_cell? w _ hw113_9)).trans hw113_9)⟩ (fun hHeld => ?_)
  clear hK K
  refine norm_ nn_ ?_
  refine pu_ 9 (some 26) (h := ?_)
  refine done_ (done_of HT_.out (by kernel_rfl)) ?_
  try go_wp2
  go_ret
  exact ⟨ng_, bl_⟩
 subst c8
 have H1 : (laws_eqRegOpS.l0 k1 l0 l1 (wrap64 (x5_1 + 1))) = some r := by rw [if_pos rfl] at H; exact H
 clear H
 have H := H1
 clear H1
 have H' := Aside0.mk H
 clear H
 try go_wp2
 replace HB := Aside0.mk (below_drew1 HB.out)
 have p112 : 0 ≤ (x5_1 : Int) := of_decide_eq_true (by first | (with_reducible assumption) | assumption)
 have q112 : x5_1 < (l0.length : Int) := of_decide_eq_true (by first | (with_reducible assumption) | assumption)
 obtain ⟨ad112, A112_4, c112_4, e112, hx112_0, hx112_1, hx112_2, hx112_3, hx112_4, hx112_5, hx112_6, hx112_7, hx112_8, hx112_9, hl112_4, hi112_4⟩ := at_T83 HR0.out x5_1 p112 q112
 have hw112_9 := hx112_9
 have hw112_8 := hx112_8
 have hw112_7 := hx112_7
 have hw112_6 := hx112_6
 have hw112_5 := hx112_5
 have hw112_4 := hx112_4
 have hw112_3 := hx112_3
 have hw112_2 := hx112_2
 have hw112_1 := hx112_1
 have hw112_0 := hx112_0
 cases e112
 replace hx112_0 := (HB.out.cell (World.block_lt_of_cell? w _ hx112_0)).trans hx112_0
 replace hx112_1 := (HB.out.cell (World.block_lt_of_cell? w _ hx112_1)).trans hx112_1
 replace hx112_2 := (HB.out.cell (World.block_lt_of_cell? w _ hx112_2)).trans hx112_2
 replace hx112_3 := (HB.out.cell (World.block_lt_of_cell? w _ hx112_3)).trans hx112_3
 replace hx112_4 := (HB.out.cell (World.block_lt_of_cell? w _ hx112_4)).trans hx112_4
 replace hx112_5 := (HB.out.cell (World.block_lt_of_cell? w _ hx112_5)).trans hx112_5
 replace hx112_6 := (HB.out.cell (World.block_lt_of_cell? w _ hx112_6)).trans hx112_6
 replace hx112_7 := (HB.out.cell (World.block_lt_of_cell? w _ hx112_7)).trans hx112_7
 replace hx112_8 := (HB.out.cell (World.block_lt_of_cell? w _ hx112_8)).trans hx112_8
 replace hx112_9 := (HB.out.cell (World.block_lt_of_cell? w _ hx112_9)).trans hx112_9
 have HR112_4 := Aside0.mk hi112_4
 have HC112_4 := Aside0.mk hl112_4
 clear hi112_4 hl112_4
 replace p112 := eq_true p112
 replace q112 := eq_true q112
 have p113 : 0 ≤ (x5_1 : Int) := of_decide_eq_true (by first | (with_reducible assumption) | assumption)
 have q113 : x5_1 < (l1.length : Int) := of_decide_eq_true (by first | (with_reducible assumption) | assumption)
 obtain ⟨ad113, A113_4, c113_4, e113, hx113_0, hx113_1, hx113_2, hx113_3, hx113_4, hx113_5, hx113_6, hx113_7, hx113_8, hx113_9, hl113_4, hi113_4⟩ := at_T83 HR1.out x5_1 p113 q113
 have hw113_9 := hx113_9
 have hw113_8 := hx113_8
 have hw113_7 := hx113_7
 have hw113_6 := hx113_6
 have hw113_5 := hx113_5
 have hw113_4 := hx113_4
 have hw113_3 := hx113_3
 have hw113_2 := hx113_2
 have hw113_1 := hx113_1
 have hw113_0 := hx113_0
 cases e113
 replace hx113_0 := (HB.out.cell (World.block_lt_of_cell? w _ hx113_0)).trans hx113_0
 replace hx113_1 := (HB.out.cell (World.block_lt_of_cell? w _ hx113_1)).trans hx113_1
 replace hx113_2 := (HB.out.cell (World.block_lt_of_cell? w _ hx113_2)).trans hx113_2
 replace hx113_3 := (HB.out.cell (World.block_lt_of_cell? w _ hx113_3)).trans hx113_3
 replace hx113_4 := (HB.out.cell (World.block_lt_of_cell? w _ hx113_4)).trans hx113_4
 replace hx113_5 := (HB.out.cell (World.block_lt_of_cell? w _ hx113_5)).trans hx113_5
 replace hx113_6 := (HB.out.cell (World.block_lt_of_cell? w _ hx113_6)).trans hx113_6
 replace hx113_7 := (HB.out.cell (World.block_lt_of_cell? w _ hx113_7)).trans hx113_7
 replace hx113_8 := (HB.out.cell (World.block_lt_of_cell? w _ hx113_8)).trans hx113_8
 replace hx113_9 := (HB.out.cell (World.block_lt_of_cell? w _ hx113_9)).trans hx113_9
 have HR113_4 := Aside0.mk hi113_4
 have HC113_4 := Aside0.mk hl113_4
 clear hi113_4 hl113_4
 replace p113 := eq_true p113
 replace q113 := eq_true q113
 refine start_ (n := 10) (S := fun w' => w'.cell? (ad112.add ((x5_1).toNat * 10)) = some (.int .i64 ((rd_T83 l0 x5_1).f0)) ∧ w'.cell? ⟨(ad112.add ((x5_1).toNat * 10)).block, (ad112.add ((x5_1).toNat * 10)).off + 1, none⟩ = some (.bool ((rd_T83 l0 x5_1).f1)) ∧ w'.cell? ⟨(ad112.add ((x5_1).toNat * 10)).block, (ad112.add ((x5_1).toNat * 10)).off + 2, none⟩ = some (.string ((rd_T83 l0 x5_1).f2)) ∧ w'.cell? ⟨(ad112.add ((x5_1).toNat * 10)).block, (ad112.add ((x5_1).toNat * 10)).off + 3, none⟩ = some (.int .i64 ((rd_T83 l0 x5_1).f3)) ∧ w'.cell? ⟨(ad112.add ((x5_1).toNat * 10)).block, (ad112.add ((x5_1).toNat * 10)).off + 4, none⟩ = some (.slice A112_4 ((rd_T83 l0 x5_1).f4).length c112_4) ∧ w'.cell? ⟨(ad112.add ((x5_1).toNat * 10)).block, (ad112.add ((x5_1).toNat * 10)).off + 5, none⟩ = some (.int .i64 ((rd_T83 l0 x5_1).f5.f0)) ∧ w'.cell? ⟨(ad112.add ((x5_1).toNat * 10)).block, (ad112.add ((x5_1).toNat * 10)).off + 6, none⟩ = some (.int .i64 ((rd_T83 l0 x5_1).f5.f1)) ∧ w'.cell? ⟨(ad112.add ((x5_1).toNat * 10)).block, (ad112.add ((x5_1).toNat * 10)).off + 7, none⟩ = some (.string ((rd_T83 l0 x5_1).f5.f2)) ∧ w'.cell? ⟨(ad112.add ((x5_1).toNat * 10)).block, (ad112.add ((x5_1).toNat * 10)).off + 8, none⟩ = some (.int .i64 ((rd_T83 l0 x5_1).f6)) ∧ w'.cell? ⟨(ad112.add ((x5_1).toNat * 10)).block, (ad112.add ((x5_1).toNat * 10)).off + 9, none⟩ = some (.int .i64 ((rd_T83 l0 x5_1).f7)) ∧ w'.cell? (ad113.add ((x5_1).toNat * 10)) = some (.int .i64 ((rd_T83 l1 x5_1).f0)) ∧ w'.cell? ⟨(ad113.add ((x5_1).toNat * 10)).block, (ad113.add ((x5_1).toNat * 10)).off + 1, none⟩ = some (.bool ((rd_T83 l1 x5_1).f1)) ∧ w'.cell? ⟨(ad113.add ((x5_1).toNat * 10)).block, (ad113.add ((x5_1).toNat * 10)).off + 2, none⟩ = some (.string ((rd_T83 l1 x5_1).f2)) ∧ w'.cell? ⟨(ad113.add ((x5_1).toNat * 10)).block, (ad113.add ((x5_1).toNat * 10)).off + 3, none⟩ = some (.int .i64 ((rd_T83 l1 x5_1).f3)) ∧ w'.cell? ⟨(ad113.add ((x5_1).toNat * 10)).block, (ad113.add ((x5_1).toNat * 10)).off + 4, none⟩ = some (.slice A113_4 ((rd_T83 l1 x5_1).f4).length c113_4) ∧ w'.cell? ⟨(ad113.add ((x5_1).toNat * 10)).block, (ad113.add ((x5_1).toNat * 10)).off + 5, none⟩ = some (.int .i64 ((rd_T83 l1 x5_1).f5.f0)) ∧ w'.cell? ⟨(ad113.add ((x5_1).toNat * 10)).block, (ad113.add ((x5_1).toNat * 10)).off + 6, none⟩ = some (.int .i64 ((rd_T83 l1 x5_1).f5.f1)) ∧ w'.cell? ⟨(ad113.add ((x5_1).toNat * 10)).block, (ad113.add ((x5_1).toNat * 10)).off + 7, none⟩ = some (.string ((rd_T83 l1 x5_1).f5.f2)) ∧ w'.cell? ⟨(ad113.add ((x5_1).toNat * 10)).block, (ad113.add ((x5_1).toNat * 10)).off + 8, none⟩ = some (.int .i64 ((rd_T83 l1 x5_1).f6)) ∧ w'.cell? ⟨(ad113.add ((x5_1).toNat * 10)).block, (ad113.add ((x5_1).toNat * 10)).off + 9, none⟩ = some (.int .i64 ((rd_T83 l1 x5_1).f7))) (ds := []) #[false, false, false, false, false, false, false, false, false, false] (by kernel_rfl) rfl rfl ⟨((HB.out.cell (World.block_lt_of_cell? w _ hw112_0)).trans hw112_0), ((HB.out.cell (World.block_lt_of_cell? w _ hw112_1)).trans hw112_1), ((HB.out.cell (World.block_lt_of_cell? w _ hw112_2)).trans hw112_2), ((HB.out.cell (World.block_lt_of_cell? w _ hw112_3)).trans hw112_3), ((HB.out.cell (World.block_lt_of_cell? w _ hw112_4)).trans hw112_4), ((HB.out.cell (World.block_lt_of_cell? w _ hw112_5)).trans hw112_5), ((HB.out.cell (World.block_lt_of_cell? w _ hw112_6)).trans hw112_6), ((HB.out.cell (World.block_lt_of_cell? w _ hw112_7)).trans hw112_7), ((HB.out.cell (World.block_lt_of_cell? w _ hw112_8)).trans hw112_8), ((HB.out.cell (World.block_lt_of_cell? w _ hw112_9)).trans hw112_9), ((HB.out.cell (World.block_lt_of_cell? w _ hw113_0)).trans hw113_0), ((HB.out.cell (World.block_lt_of_cell? w _ hw113_1)).trans hw113_1), ((HB.out.cell (World.block_lt_of_cell? w _ hw113_2)).trans hw113_2), ((HB.out.cell (World.block_lt_of_cell? w _ hw113_3)).trans hw113_3), ((HB.out.cell (World.block_lt_of_cell? w _ hw113_4)).trans hw113_4), ((HB.out.cell (World.block_lt_of_cell? w _ hw113_5)).trans hw113_5), ((HB.out.cell (World.block_lt_of_cell? w _ hw113_6)).trans hw113_6), ((HB.out.cell (World.block_lt_of_cell? w _ hw113_7)).trans hw113_7), ((HB.out.cell (World.block_lt_of_cell? w _ hw113_8)).trans hw113_8), ((HB.out.cell (World.block_lt_of_cell? w _ hw113_9)).trans hw113_9)⟩ (fun hHeld => ?_); refine with_tabW laws_eqRegOpS.tab6 laws_eqRegOpS.bits6 (fun HT_ HW_ => ?_)
 generalize wr.drew = w9 at HB HR112_4 HR113_4 hx112_0 hx112_1 hx112_2 hx112_3 hx112_4 hx112_5 hx112_6 hx112_7 hx112_8 hx112_9 hx113_0 hx113_1 hx113_2 hx113_3 hx113_4 hx113_5 hx113_6 hx113_7 hx113_8 hx113_9 hHeld ⊢
 refine pu_ 0 (some 17) (h := ?_)
 refine pu_ 1 (some 18) (h := ?_)
 refine pu_ 2 (some 19) (h := ?_)
 refine pu_ 4 (some 21) (h := ?_)
 refine pu_ 5 (some 22) (h := ?_)
 refine pu_ 6 (some 23) (h := ?_)
 refine tk20_ 3 (some 20) (h := ?_)
 refine tk20_ 7 (some 24) (h := ?_)
 refine on_ 8 (some 25) (h := fun K hK => ?_)
 refine goes_ Try.func79 (by kernel_rfl) rfl #[.agg #[.int .i64 ((rd_T83 l0 x5_1).f0), .bool ((rd_T83 l0 x5_1).f1), .string ((rd_T83 l0 x5_1).f2), .int .i64 ((rd_T83 l0 x5_1).f3), .slice A112_4 ((rd_T83 l0 x5_1).f4).length c112_4, .int .i64 ((rd_T83 l0 x5_1).f5.f0), .int .i64 ((rd_T83 l0 x5_1).f5.f1), .string ((rd_T83 l0 x5_1).f5.f2), .int .i64 ((rd_T83 l0 x5_1).f6), .int .i64 ((rd_T83 l0 x5_1).f7)], .agg #[.int .i64 ((rd_T83 l1 x5_1).f0), .bool ((rd_T83 l1 x5_1).f1), .string ((rd_T83 l1 x5_1).f2), .int .i64 ((rd_T83 l1 x5_1).f3), .slice A113_4 ((rd_T83 l1 x5_1).f4).length c113_4, .int .i64 ((rd_T83 l1 x5_1).f5.f0), .int .i64 ((rd_T83 l1 x5_1).f5.f1), .string ((rd_T83 l1 x5_1).f5.f2), .int .i64 ((rd_T83 l1 x5_1).f6), .int .i64 ((rd_T83 l1 x5_1).f7)]] (by rfl) rfl rfl nc_ ?_
 with_reducible refine (laws_eqRegOp.calls k1 ((rd_T83 l0 x5_1).f0) ((rd_T83 l0 x5_1).f1) ((rd_T83 l0 x5_1).f2) ((rd_T83 l0 x5_1).f3) _ _ ((rd_T83 l0 x5_1).f4) ((rd_T83 l0 x5_1).f5.f0) ((rd_T83 l0 x5_1).f5.f1) ((rd_T83 l0 x5_1).f5.f2) ((rd_T83 l0 x5_1).f6) ((rd_T83 l0 x5_1).f7) ((rd_T83 l1 x5_1).f0) ((rd_T83 l1 x5_1).f1) ((rd_T83 l1 x5_1).f2) ((rd_T83 l1 x5_1).f3) _ _ ((rd_T83 l1 x5_1).f4) ((rd_T83 l1 x5_1).f5.f0) ((rd_T83 l1 x5_1).f5.f1) ((rd_T83 l1 x5_1).f5.f2) ((rd_T83 l1 x5_1).f6) ((rd_T83 l1 x5_1).f7) true _ ?side1 ?side2 ?side3 ?side4 A7.out).mono ?_
 (case side1 => exact kc_ (Kd.C_below HR112_4.out HB.out))
 (case side2 => exact HC112_4.out)
 (case side3 => exact kc_ (Kd.C_below HR113_4.out HB.out))
 (case side4 => exact HC113_4.out)
 rintro e w10 ⟨rfl, hb⟩
 refine ⟨_, rfl, ?_⟩
 replace HB := Aside0.mk (below_step bl_ hb)
 clear hb
 refine hK.out _ _ ⟨((HB.out.cell (World.block_lt_of_cell? w _ hw112_0)).trans hw112_0), ((HB.out.cell (World.block_lt_of_cell? w _ hw112_1)).trans hw112_1), ((HB.out.cell (World.block_lt_of_cell? w _ hw112_2)).trans hw112_2), ((HB.out.cell (World.block_lt_of_cell? w _ hw112_3)).trans hw112_3), ((HB.out.cell (World.block_lt_of_cell? w _ hw112_4)).trans hw112_4), ((HB.out.cell (World.block_lt_of_cell? w _ hw112_5)).trans hw112_5), ((HB.out.cell (World.block_lt_of_cell? w _ hw112_6)).trans hw112_6), ((HB.out.cell (World.block_lt_of_cell? w _ hw112_7)).trans hw112_7), ((HB.out.cell (World.block_lt_of_cell? w _ hw112_8)).trans hw112_8), ((HB.out.cell (World.block_lt_of_cell? w _ hw112_9)).trans hw112_9), ((HB.out.cell (World.block_lt_of_cell? w _ hw113_0)).trans hw113_0), ((HB.out.cell (World.block_lt_of_cell? w _ hw113_1)).trans hw113_1), ((HB.out.cell (World.block_lt_of_cell? w _ hw113_2)).trans hw113_2), ((HB.out.cell (World.block_lt_of_cell? w _ hw113_3)).trans hw113_3), ((HB.out.cell (World.block_lt_of_cell? w _ hw113_4)).trans hw113_4), ((HB.out.cell (World.block_lt_of_cell? w _ hw113_5)).trans hw113_5), ((HB.out.cell (World.block_lt_of_cell? w _ hw113_6)).trans hw113_6), ((HB.out.cell (World.block_lt_of_cell? w _ hw113_7)).trans hw113_7), ((HB.out.cell (World.block_lt_of_cell? w _ hw113_8)).trans hw113_8), ((HB.out.cell (World.block_lt_of_cell? w _ hw113_9)).trans hw113_9)⟩ (fun hHeld => ?_)
 clear hK K
 refine norm_ nn_ ?_
 refine pu_ 9 (some 26) (h := ?_)
 refine done_ (done_of HT_.out (by kernel_rfl)) ?_
 try go_wp2
 go_roundg k1
 case measure => have := HK1.out; omega
 case rel => exact ⟨(wrap64 (x5_1 + 1)), (by first | rfl | (simp; done) | (simp [*]; done)), H', ⟨by have := HK1.out; omega⟩, ⟨bl_⟩⟩

/-! ### laws_eqRegister: function 13 -/
def laws_eqRegister.f (k : Nat) (a0_0 : Int) (l0_1 : List (S40)) (l0_2 : List (S83)) (a1_0 : Int) (l1_1 : List (S40)) (l1_2 : List (S83)) : Option (Bool) := if a0_0 = a1_0 then ((laws_eqCopyS.f k l0_1 l1_1).bind fun t117 => (if t117 = true then ((laws_eqRegOpS.f k l0_2 l1_2).bind fun t118 => (if t118 = true then (some true) else (some false))) else (some false))) else (some false)
theorem laws_eqRegister.mono : ∀ a0 a1 a2 a3 a4 a5 k, LeO (laws_eqRegister.f k a0 a1 a2 a3 a4 a5) (laws_eqRegister.f (k + 1) a0 a1 a2 a3 a4 a5) := by
 intro a0 a1 a2 a3 a4 a5 k
 unfold laws_eqRegister.f
 repeat' first
   | (with_reducible exact laws_eqCopyS.mono _ _ _)
   | (with_reducible exact laws_eqRegOpS.mono _ _ _)
   | (with_reducible exact LeO.refl _)
   | (with_reducible exact LeO.none _)
   | (with_reducible refine LeO.ite ?_ ?_)
   | (with_reducible refine LeO.bind ?_ (fun _ => ?_))
   | exact laws_eqCopyS.mono _ _ _
   | exact laws_eqRegOpS.mono _ _ _
   | exact LeO.none _
   | refine LeO.ite ?_ ?_
   | refine LeO.bind ?_ (fun _ => ?_)
set_option maxHeartbeats 8000000 in
set_option maxRecDepth 100000 in
theorem laws_eqRegister.calls (k : Nat) (a0_0 : Int) (A0_1 : Option Addr) (c0_1 : Nat) (l0_1 : List (S40)) (A0_2 : Option Addr) (c0_2 : Nat) (l0_2 : List (S83)) (a1_0 : Int) (A1_1 : Option Addr) (c1_1 : Nat) (l1_1 : List (S40)) (A1_2 : Option Addr) (c1_2 : Nat) (l1_2 : List (S83)) (r : Bool) (w : World) (hr0_1 : Kd.C k40 w A0_1 l0_1.length l0_1) (hc0_1 : l0_1.length ≤ c0_1) (hr0_2 : Kd.C k83 w A0_2 l0_2.length l0_2) (hc0_2 : l0_2.length ≤ c0_2) (hr1_1 : Kd.C k40 w A1_1 l1_1.length l1_1) (hc1_1 : l1_1.length ≤ c1_1) (hr1_2 : Kd.C k83 w A1_2 l1_2.length l1_2) (hc1_2 : l1_2.length ≤ c1_2) (h : laws_eqRegister.f k a0_0 l0_1 l0_2 a1_0 l1_1 l1_2 = some r) :
  Calls Try.prog 13 #[.agg #[.int .i64 a0_0, .slice A0_1 l0_1.length c0_1, .slice A0_2 l0_2.length c0_2], .agg #[.int .i64 a1_0, .slice A1_1 l1_1.length c1_1, .slice A1_2 l1_2.length c1_2]] w fun e w' => e = .returned (.bool r) ∧ Below w.heap.size w w' := by
 have hu25 := Try.underlying25
 have HR0_1 := Aside0.mk hr0_1
 have HC0_1 := Aside0.mk hc0_1
 clear hr0_1 hc0_1
 have HR0_2 := Aside0.mk hr0_2
 have HC0_2 := Aside0.mk hc0_2
 clear hr0_2 hc0_2
 have HR1_1 := Aside0.mk hr1_1
 have HC1_1 := Aside0.mk hc1_1
 clear hr1_1 hc1_1
 have HR1_2 := Aside0.mk hr1_2
 have HC1_2 := Aside0.mk hc1_2
 clear hr1_2 hc1_2
 have HB := Aside0.mk (Below.refl w.heap.size w)
 have H : (if a0_0 = a1_0 then ((laws_eqCopyS.f k l0_1 l1_1).bind fun t117 => (if t117 = true then ((laws_eqRegOpS.f k l0_2 l1_2).bind fun t118 => (if t118 = true then (some true) else (some false))) else (some false))) else (some false)) = some r := h
 clear h
 by_cases c3 : a0_0 = a1_0
 rotate_left
 ·rw [if_neg c3] at H
  have c3b0 : (a0_0 == a1_0) = false := beq_eq_false_iff_ne.mpr c3
  have c3b1 : (a0_0 != a1_0) = true := bne_iff_ne.mpr c3
  obtain rfl := Option.some.inj H
  go_enter Try.func13, Try.ntmps13
  go_wp2_with (first | ((with_reducible refine gate_dst (N := 2) rfl ?_); refine box_event rfl (N := 2) rfl (cs := #[.int .i64 a0_0, .slice A0_1 l0_1.length c0_1, .slice A0_2 l0_2.length c0_2]) (t := 25) gs_ ?_; intro gb115 hg w32 hbox hb; have BK115 := Aside0.mk (hbox); have GW115 := Aside0.mk ((by rw [hg]; exact bz_ : w.heap.size ≤ gb115)); have GE115 := GW115; replace HB := Aside0.mk (below_step bl_ hb); clear hb hbox hg) | ((with_reducible refine gate_dst (N := 3) rfl ?_); refine box_event rfl (N := 3) rfl (cs := #[.int .i64 a1_0, .slice A1_1 l1_1.length c1_1, .slice A1_2 l1_2.length c1_2]) (t := 25) gs_ ?_; intro gb116 hg w33 hbox hb; have BK116 := Aside0.mk (hbox); have GW116 := Aside0.mk ((by rw [hg]; exact bz_ : w.heap.size ≤ gb116)); have GE116 := GW116; replace HB := Aside0.mk (below_step bl_ hb); have NB115_116 := nl_ hg BK115; have NB116_115 := nm_ hg BK115; replace BK115 := bb_ BK115 hb; clear hb hbox hg; have hnb34 := NB115_116.out; have hnc34 := NB116_115.out; have hcz35_0 : w33.cell? ⟨gb115, 0, none⟩ = some (.int .i64 a0_0) := bc_ BK115.out 0; have hcz35_1 : w33.cell? ⟨gb115, 1, none⟩ = some (.slice A0_1 l0_1.length c0_1) := bc_ BK115.out 1; have hcz35_2 : w33.cell? ⟨gb115, 2, none⟩ = some (.slice A0_2 l0_2.length c0_2) := bc_ BK115.out 2; have hfz35_0 := blk_frozen BK115.out 0; have hfz35_1 := blk_frozen BK115.out 1; have hfz35_2 := blk_frozen BK115.out 2; have hcz36_0 : w33.cell? ⟨gb116, 0, none⟩ = some (.int .i64 a1_0) := bc_ BK116.out 0; have hcz36_1 : w33.cell? ⟨gb116, 1, none⟩ = some (.slice A1_1 l1_1.length c1_1) := bc_ BK116.out 1; have hcz36_2 : w33.cell? ⟨gb116, 2, none⟩ = some (.slice A1_2 l1_2.length c1_2) := bc_ BK116.out 2; have hfz36_0 := blk_frozen BK116.out 0; have hfz36_1 := blk_frozen BK116.out 1; have hfz36_2 := blk_frozen BK116.out 2))
  go_ret
  exact ⟨ng_, bl_⟩
 rw [if_pos c3] at H
 have c3b0 : (a0_0 == a1_0) = true := beq_iff_eq.mpr c3
 have c3b1 : (a0_0 != a1_0) = false := bne_eq_false_iff_eq.mpr c3
 clear c3
 replace H := Option.bind_eq_some_iff.mp H
 obtain ⟨t117, A40, H⟩ := H
 replace H : (if t117 = true then ((laws_eqRegOpS.f k l0_2 l1_2).bind fun t118 => (if t118 = true then (some true) else (some false))) else (some false)) = some r := H
 have A4 := Aside0.mk A40
 clear A40
 by_cases c5 : t117 = true
 rotate_left
 ·replace c5 := Bool.eq_false_iff.mpr c5
  subst c5
  have H1 : (some false) = some r := by rw [if_neg (show ¬ (false = true) by decide)] at H; exact H
  clear H
  have H := H1
  clear H1
  obtain rfl := Option.some.inj H
  go_enter Try.func13, Try.ntmps13
  go_wp2_with (first | ((with_reducible refine gate_dst (N := 2) rfl ?_); refine box_event rfl (N := 2) rfl (cs := #[.int .i64 a0_0, .slice A0_1 l0_1.length c0_1, .slice A0_2 l0_2.length c0_2]) (t := 25) gs_ ?_; intro gb115 hg w26 hbox hb; have BK115 := Aside0.mk (hbox); have GW115 := Aside0.mk ((by rw [hg]; exact bz_ : w.heap.size ≤ gb115)); have GE115 := GW115; replace HB := Aside0.mk (below_step bl_ hb); clear hb hbox hg) | ((with_reducible refine gate_dst (N := 3) rfl ?_); refine box_event rfl (N := 3) rfl (cs := #[.int .i64 a1_0, .slice A1_1 l1_1.length c1_1, .slice A1_2 l1_2.length c1_2]) (t := 25) gs_ ?_; intro gb116 hg w27 hbox hb; have BK116 := Aside0.mk (hbox); have GW116 := Aside0.mk ((by rw [hg]; exact bz_ : w.heap.size ≤ gb116)); have GE116 := GW116; replace HB := Aside0.mk (below_step bl_ hb); have NB115_116 := nl_ hg BK115; have NB116_115 := nm_ hg BK115; replace BK115 := bb_ BK115 hb; clear hb hbox hg; have hnb28 := NB115_116.out; have hnc28 := NB116_115.out; have hcz29_0 : w27.cell? ⟨gb115, 0, none⟩ = some (.int .i64 a0_0) := bc_ BK115.out 0; have hcz29_1 : w27.cell? ⟨gb115, 1, none⟩ = some (.slice A0_1 l0_1.length c0_1) := bc_ BK115.out 1; have hcz29_2 : w27.cell? ⟨gb115, 2, none⟩ = some (.slice A0_2 l0_2.length c0_2) := bc_ BK115.out 2; have hfz29_0 := blk_frozen BK115.out 0; have hfz29_1 := blk_frozen BK115.out 1; have hfz29_2 := blk_frozen BK115.out 2; have hcz30_0 : w27.cell? ⟨gb116, 0, none⟩ = some (.int .i64 a1_0) := bc_ BK116.out 0; have hcz30_1 : w27.cell? ⟨gb116, 1, none⟩ = some (.slice A1_1 l1_1.length c1_1) := bc_ BK116.out 1; have hcz30_2 : w27.cell? ⟨gb116, 2, none⟩ = some (.slice A1_2 l1_2.length c1_2) := bc_ BK116.out 2; have hfz30_0 := blk_frozen BK116.out 0; have hfz30_1 := blk_frozen BK116.out 1; have hfz30_2 := blk_frozen BK116.out 2) | ((with_reducible refine gate_callee (f := 46) rfl ?_); refine goesL_ (some 14) rfl rfl Try.func46 (by kernel_rfl) rfl #[.slice A0_1 l0_1.length c0_1, .slice A1_1 l1_1.length c1_1] rfl nc_ ?_; (with_reducible refine (laws_eqCopyS.calls k _ _ l0_1 _ _ l1_1 false _ ?side1 ?side2 ?side3 ?side4 A4.out).mono ?_); (case side1 => exact kc_ (Kd.C_below HR0_1.out HB.out)); (case side2 => exact HC0_1.out); (case side3 => exact kc_ (Kd.C_below HR1_1.out HB.out)); (case side4 => exact HC1_1.out); rintro e w31 ⟨rfl, hb⟩; refine ⟨_, rfl, ?_⟩; replace BK115 := bb_ BK115 hb; replace BK116 := bb_ BK116 hb; replace HB := Aside0.mk (below_step bl_ hb); clear hb))
  go_ret
  exact ⟨ng_, bl_⟩
 subst c5
 have H1 : ((laws_eqRegOpS.f k l0_2 l1_2).bind fun t118 => (if t118 = true then (some true) else (some false))) = some r := by rw [if_pos rfl] at H; exact H
 clear H
 have H := H1
 clear H1
 replace H := Option.bind_eq_some_iff.mp H
 obtain ⟨t118, A60, H⟩ := H
 replace H : (if t118 = true then (some true) else (some false)) = some r := H
 have A6 := Aside0.mk A60
 clear A60
 by_cases c7 : t118 = true
 ·subst c7
  have H1 : (some true) = some r := by rw [if_pos rfl] at H; exact H
  clear H
  have H := H1
  clear H1
  obtain rfl := Option.some.inj H
  go_enter Try.func13, Try.ntmps13
  go_wp2_with (first | ((with_reducible refine gate_dst (N := 2) rfl ?_); refine box_event rfl (N := 2) rfl (cs := #[.int .i64 a0_0, .slice A0_1 l0_1.length c0_1, .slice A0_2 l0_2.length c0_2]) (t := 25) gs_ ?_; intro gb115 hg w8 hbox hb; have BK115 := Aside0.mk (hbox); have GW115 := Aside0.mk ((by rw [hg]; exact bz_ : w.heap.size ≤ gb115)); have GE115 := GW115; replace HB := Aside0.mk (below_step bl_ hb); clear hb hbox hg) | ((with_reducible refine gate_dst (N := 3) rfl ?_); refine box_event rfl (N := 3) rfl (cs := #[.int .i64 a1_0, .slice A1_1 l1_1.length c1_1, .slice A1_2 l1_2.length c1_2]) (t := 25) gs_ ?_; intro gb116 hg w9 hbox hb; have BK116 := Aside0.mk (hbox); have GW116 := Aside0.mk ((by rw [hg]; exact bz_ : w.heap.size ≤ gb116)); have GE116 := GW116; replace HB := Aside0.mk (below_step bl_ hb); have NB115_116 := nl_ hg BK115; have NB116_115 := nm_ hg BK115; replace BK115 := bb_ BK115 hb; clear hb hbox hg; have hnb10 := NB115_116.out; have hnc10 := NB116_115.out; have hcz11_0 : w9.cell? ⟨gb115, 0, none⟩ = some (.int .i64 a0_0) := bc_ BK115.out 0; have hcz11_1 : w9.cell? ⟨gb115, 1, none⟩ = some (.slice A0_1 l0_1.length c0_1) := bc_ BK115.out 1; have hcz11_2 : w9.cell? ⟨gb115, 2, none⟩ = some (.slice A0_2 l0_2.length c0_2) := bc_ BK115.out 2; have hfz11_0 := blk_frozen BK115.out 0; have hfz11_1 := blk_frozen BK115.out 1; have hfz11_2 := blk_frozen BK115.out 2; have hcz12_0 : w9.cell? ⟨gb116, 0, none⟩ = some (.int .i64 a1_0) := bc_ BK116.out 0; have hcz12_1 : w9.cell? ⟨gb116, 1, none⟩ = some (.slice A1_1 l1_1.length c1_1) := bc_ BK116.out 1; have hcz12_2 : w9.cell? ⟨gb116, 2, none⟩ = some (.slice A1_2 l1_2.length c1_2) := bc_ BK116.out 2; have hfz12_0 := blk_frozen BK116.out 0; have hfz12_1 := blk_frozen BK116.out 1; have hfz12_2 := blk_frozen BK116.out 2) | ((with_reducible refine gate_callee (f := 46) rfl ?_); refine goesL_ (some 14) rfl rfl Try.func46 (by kernel_rfl) rfl #[.slice A0_1 l0_1.length c0_1, .slice A1_1 l1_1.length c1_1] rfl nc_ ?_; (with_reducible refine (laws_eqCopyS.calls k _ _ l0_1 _ _ l1_1 true _ ?side1 ?side2 ?side3 ?side4 A4.out).mono ?_); (case side1 => exact kc_ (Kd.C_below HR0_1.out HB.out)); (case side2 => exact HC0_1.out); (case side3 => exact kc_ (Kd.C_below HR1_1.out HB.out)); (case side4 => exact HC1_1.out); rintro e w13 ⟨rfl, hb⟩; refine ⟨_, rfl, ?_⟩; replace BK115 := bb_ BK115 hb; replace BK116 := bb_ BK116 hb; replace HB := Aside0.mk (below_step bl_ hb); clear hb; have hcz14_0 : w13.cell? ⟨gb115, 0, none⟩ = some (.int .i64 a0_0) := bc_ BK115.out 0; have hcz14_1 : w13.cell? ⟨gb115, 1, none⟩ = some (.slice A0_1 l0_1.length c0_1) := bc_ BK115.out 1; have hcz14_2 : w13.cell? ⟨gb115, 2, none⟩ = some (.slice A0_2 l0_2.length c0_2) := bc_ BK115.out 2; have hfz14_0 := blk_frozen BK115.out 0; have hfz14_1 := blk_frozen BK115.out 1; have hfz14_2 := blk_frozen BK115.out 2; have hcz15_0 : w13.cell? ⟨gb116, 0, none⟩ = some (.int .i64 a1_0) := bc_ BK116.out 0; have hcz15_1 : w13.cell? ⟨gb116, 1, none⟩ = some (.slice A1_1 l1_1.length c1_1) := bc_ BK116.out 1; have hcz15_2 : w13.cell? ⟨gb116, 2, none⟩ = some (.slice A1_2 l1_2.length c1_2) := bc_ BK116.out 2; have hfz15_0 := blk_frozen BK116.out 0; have hfz15_1 := blk_frozen BK116.out 1; have hfz15_2 := blk_frozen BK116.out 2) | ((with_reducible refine gate_callee (f := 47) rfl ?_); refine goesL_ (some 20) rfl rfl Try.func47 (by kernel_rfl) rfl #[.slice A0_2 l0_2.length c0_2, .slice A1_2 l1_2.length c1_2] rfl nc_ ?_; (with_reducible refine (laws_eqRegOpS.calls k _ _ l0_2 _ _ l1_2 true _ ?side1 ?side2 ?side3 ?side4 A6.out).mono ?_); (case side1 => exact kc_ (Kd.C_below HR0_2.out HB.out)); (case side2 => exact HC0_2.out); (case side3 => exact kc_ (Kd.C_below HR1_2.out HB.out)); (case side4 => exact HC1_2.out); rintro e w16 ⟨rfl, hb⟩; refine ⟨_, rfl, ?_⟩; replace BK115 := bb_ BK115 hb; replace BK116 := bb_ BK116 hb; replace HB := Aside0.mk (below_step bl_ hb); clear hb))
  go_ret
  exact ⟨ng_, bl_⟩
 replace c7 := Bool.eq_false_iff.mpr c7
 subst c7
 have H1 : (some false) = some r := by rw [if_neg (show ¬ (false = true) by decide)] at H; exact H
 clear H
 have H := H1
 clear H1
 obtain rfl := Option.some.inj H
 go_enter Try.func13, Try.ntmps13
 go_wp2_with (first | ((with_reducible refine gate_dst (N := 2) rfl ?_); refine box_event rfl (N := 2) rfl (cs := #[.int .i64 a0_0, .slice A0_1 l0_1.length c0_1, .slice A0_2 l0_2.length c0_2]) (t := 25) gs_ ?_; intro gb115 hg w17 hbox hb; have BK115 := Aside0.mk (hbox); have GW115 := Aside0.mk ((by rw [hg]; exact bz_ : w.heap.size ≤ gb115)); have GE115 := GW115; replace HB := Aside0.mk (below_step bl_ hb); clear hb hbox hg) | ((with_reducible refine gate_dst (N := 3) rfl ?_); refine box_event rfl (N := 3) rfl (cs := #[.int .i64 a1_0, .slice A1_1 l1_1.length c1_1, .slice A1_2 l1_2.length c1_2]) (t := 25) gs_ ?_; intro gb116 hg w18 hbox hb; have BK116 := Aside0.mk (hbox); have GW116 := Aside0.mk ((by rw [hg]; exact bz_ : w.heap.size ≤ gb116)); have GE116 := GW116; replace HB := Aside0.mk (below_step bl_ hb); have NB115_116 := nl_ hg BK115; have NB116_115 := nm_ hg BK115; replace BK115 := bb_ BK115 hb; clear hb hbox hg; have hnb19 := NB115_116.out; have hnc19 := NB116_115.out; have hcz20_0 : w18.cell? ⟨gb115, 0, none⟩ = some (.int .i64 a0_0) := bc_ BK115.out 0; have hcz20_1 : w18.cell? ⟨gb115, 1, none⟩ = some (.slice A0_1 l0_1.length c0_1) := bc_ BK115.out 1; have hcz20_2 : w18.cell? ⟨gb115, 2, none⟩ = some (.slice A0_2 l0_2.length c0_2) := bc_ BK115.out 2; have hfz20_0 := blk_frozen BK115.out 0; have hfz20_1 := blk_frozen BK115.out 1; have hfz20_2 := blk_frozen BK115.out 2; have hcz21_0 : w18.cell? ⟨gb116, 0, none⟩ = some (.int .i64 a1_0) := bc_ BK116.out 0; have hcz21_1 : w18.cell? ⟨gb116, 1, none⟩ = some (.slice A1_1 l1_1.length c1_1) := bc_ BK116.out 1; have hcz21_2 : w18.cell? ⟨gb116, 2, none⟩ = some (.slice A1_2 l1_2.length c1_2) := bc_ BK116.out 2; have hfz21_0 := blk_frozen BK116.out 0; have hfz21_1 := blk_frozen BK116.out 1; have hfz21_2 := blk_frozen BK116.out 2) | ((with_reducible refine gate_callee (f := 46) rfl ?_); refine goesL_ (some 14) rfl rfl Try.func46 (by kernel_rfl) rfl #[.slice A0_1 l0_1.length c0_1, .slice A1_1 l1_1.length c1_1] rfl nc_ ?_; (with_reducible refine (laws_eqCopyS.calls k _ _ l0_1 _ _ l1_1 true _ ?side1 ?side2 ?side3 ?side4 A4.out).mono ?_); (case side1 => exact kc_ (Kd.C_below HR0_1.out HB.out)); (case side2 => exact HC0_1.out); (case side3 => exact kc_ (Kd.C_below HR1_1.out HB.out)); (case side4 => exact HC1_1.out); rintro e w22 ⟨rfl, hb⟩; refine ⟨_, rfl, ?_⟩; replace BK115 := bb_ BK115 hb; replace BK116 := bb_ BK116 hb; replace HB := Aside0.mk (below_step bl_ hb); clear hb; have hcz23_0 : w22.cell? ⟨gb115, 0, none⟩ = some (.int .i64 a0_0) := bc_ BK115.out 0; have hcz23_1 : w22.cell? ⟨gb115, 1, none⟩ = some (.slice A0_1 l0_1.length c0_1) := bc_ BK115.out 1; have hcz23_2 : w22.cell? ⟨gb115, 2, none⟩ = some (.slice A0_2 l0_2.length c0_2) := bc_ BK115.out 2; have hfz23_0 := blk_frozen BK115.out 0; have hfz23_1 := blk_frozen BK115.out 1; have hfz23_2 := blk_frozen BK115.out 2; have hcz24_0 : w22.cell? ⟨gb116, 0, none⟩ = some (.int .i64 a1_0) := bc_ BK116.out 0; have hcz24_1 : w22.cell? ⟨gb116, 1, none⟩ = some (.slice A1_1 l1_1.length c1_1) := bc_ BK116.out 1; have hcz24_2 : w22.cell? ⟨gb116, 2, none⟩ = some (.slice A1_2 l1_2.length c1_2) := bc_ BK116.out 2; have hfz24_0 := blk_frozen BK116.out 0; have hfz24_1 := blk_frozen BK116.out 1; have hfz24_2 := blk_frozen BK116.out 2) | ((with_reducible refine gate_callee (f := 47) rfl ?_); refine goesL_ (some 20) rfl rfl Try.func47 (by kernel_rfl) rfl #[.slice A0_2 l0_2.length c0_2, .slice A1_2 l1_2.length c1_2] rfl nc_ ?_; (with_reducible refine (laws_eqRegOpS.calls k _ _ l0_2 _ _ l1_2 false _ ?side1 ?side2 ?side3 ?side4 A6.out).mono ?_); (case side1 => exact kc_ (Kd.C_below HR0_2.out HB.out)); (case side2 => exact HC0_2.out); (case side3 => exact kc_ (Kd.C_below HR1_2.out HB.out)); (case side4 => exact HC1_2.out); rintro e w25 ⟨rfl, hb⟩; refine ⟨_, rfl, ?_⟩; replace BK115 := bb_ BK115 hb; replace BK116 := bb_ BK116 hb; replace HB := Aside0.mk (below_step bl_ hb); clear hb))
 go_ret
 exact ⟨ng_, bl_⟩

/-! ### laws_szCopy: function 81 -/
def laws_szCopy.f (a0_0 : Int) (a0_1 : Int) (a0_2 : ByteArray) (a1 : Int) : Option (Int) := if (wrap64 (a1 - (a0_2.size : Int))) < 0 then (some (-1)) else (some (wrap64 (a1 - (a0_2.size : Int))))
set_option maxHeartbeats 8000000 in
set_option maxRecDepth 100000 in
theorem laws_szCopy.calls (a0_0 : Int) (a0_1 : Int) (a0_2 : ByteArray) (a1 : Int) (r : Int) (w : World) (h : laws_szCopy.f a0_0 a0_1 a0_2 a1 = some r) :
  Calls Try.prog 81 #[.agg #[.int .i64 a0_0, .int .i64 a0_1, .string a0_2], .int .i64 a1] w fun e w' => e = .returned (.int .i64 r) ∧ Below w.heap.size w w' := by
 have hu109 := Try.underlying109
 have HB := Aside0.mk (Below.refl w.heap.size w)
 have H : (if (wrap64 (a1 - (a0_2.size : Int))) < 0 then (some (-1)) else (some (wrap64 (a1 - (a0_2.size : Int))))) = some r := h
 clear h
 by_cases c3 : (wrap64 (a1 - (a0_2.size : Int))) < 0
 ·rw [if_pos c3] at H
  have c3b0 : decide ((wrap64 (a1 - (a0_2.size : Int))) < 0) = true := decide_eq_true c3
  clear c3
  obtain rfl := Option.some.inj H
  go_enter Try.func81, Try.ntmps81
  go_wp2_with (first | ((with_reducible refine gate_dst (N := 2) rfl ?_); refine box_event rfl (N := 2) rfl (cs := #[.int .i64 a0_0, .int .i64 a0_1, .string a0_2]) (t := 109) gs_ ?_; intro gb119 hg w4 hbox hb; have BK119 := Aside0.mk (hbox); have GW119 := Aside0.mk ((by rw [hg]; exact bz_ : w.heap.size ≤ gb119)); have GE119 := GW119; replace HB := Aside0.mk (below_step bl_ hb); clear hb hbox hg; have hcz5_0 : w4.cell? ⟨gb119, 0, none⟩ = some (.int .i64 a0_0) := bc_ BK119.out 0; have hcz5_1 : w4.cell? ⟨gb119, 1, none⟩ = some (.int .i64 a0_1) := bc_ BK119.out 1; have hcz5_2 : w4.cell? ⟨gb119, 2, none⟩ = some (.string a0_2) := bc_ BK119.out 2; have hfz5_0 := blk_frozen BK119.out 0; have hfz5_1 := blk_frozen BK119.out 1; have hfz5_2 := blk_frozen BK119.out 2))
  go_ret
  exact ⟨ng_, bl_⟩
 rw [if_neg c3] at H
 have c3b0 : decide ((wrap64 (a1 - (a0_2.size : Int))) < 0) = false := decide_eq_false c3
 clear c3
 obtain rfl := Option.some.inj H
 go_enter Try.func81, Try.ntmps81
 go_wp2_with (first | ((with_reducible refine gate_dst (N := 2) rfl ?_); refine box_event rfl (N := 2) rfl (cs := #[.int .i64 a0_0, .int .i64 a0_1, .string a0_2]) (t := 109) gs_ ?_; intro gb119 hg w6 hbox hb; have BK119 := Aside0.mk (hbox); have GW119 := Aside0.mk ((by rw [hg]; exact bz_ : w.heap.size ≤ gb119)); have GE119 := GW119; replace HB := Aside0.mk (below_step bl_ hb); clear hb hbox hg; have hcz7_0 : w6.cell? ⟨gb119, 0, none⟩ = some (.int .i64 a0_0) := bc_ BK119.out 0; have hcz7_1 : w6.cell? ⟨gb119, 1, none⟩ = some (.int .i64 a0_1) := bc_ BK119.out 1; have hcz7_2 : w6.cell? ⟨gb119, 2, none⟩ = some (.string a0_2) := bc_ BK119.out 2; have hfz7_0 := blk_frozen BK119.out 0; have hfz7_1 := blk_frozen BK119.out 1; have hfz7_2 := blk_frozen BK119.out 2))
 go_ret
 exact ⟨ng_, bl_⟩

/-! ### laws_szCopyS: function 52 -/
def laws_szCopyS.l0 : Nat → List (S109) → Int → Int → Option (Int)
 | 0, _, _, _ => none
 | k + 1, x0, x1, x5 => if x5 < (x0.length : Int) then (if 0 ≤ x5 then ((laws_szCopy.f ((rd_T109 x0 x5).f0) ((rd_T109 x0 x5).f1) ((rd_T109 x0 x5).f2) x1).bind fun t121 => (if t121 < 0 then (some (-1)) else (laws_szCopyS.l0 k x0 t121 (wrap64 (x5 + 1))))) else (none)) else (some x1)
def laws_szCopyS.f (k : Nat) (l0 : List (S109)) (a1 : Int) : Option (Int) := if (wrap64 (a1 - (l0.length : Int))) < 0 then (some (-1)) else (laws_szCopyS.l0 k l0 (wrap64 (a1 - (l0.length : Int))) 0)
theorem laws_szCopyS.mono_l : ∀ k, (∀ y0 y1 y2, LeO (laws_szCopyS.l0 k y0 y1 y2) (laws_szCopyS.l0 (k + 1) y0 y1 y2))
 | 0 => fun _ _ _ r h => by simp [laws_szCopyS.l0] at h
 | k + 1 => by
  have ih0 := laws_szCopyS.mono_l k
  ·intro y0 y1 y2
   unfold laws_szCopyS.l0
   repeat' first
   | (with_reducible exact ih0 _ _ _)
   | (with_reducible exact LeO.refl _)
   | (with_reducible exact LeO.none _)
   | (with_reducible refine LeO.ite ?_ ?_)
   | (with_reducible refine LeO.bind ?_ (fun _ => ?_))
   | exact ih0 _ _ _
   | exact LeO.none _
   | refine LeO.ite ?_ ?_
   | refine LeO.bind ?_ (fun _ => ?_)
theorem laws_szCopyS.mono : ∀ a0 a1 k, LeO (laws_szCopyS.f k a0 a1) (laws_szCopyS.f (k + 1) a0 a1) := by
 intro a0 a1 k
 have ih0 := laws_szCopyS.mono_l k
 unfold laws_szCopyS.f
 repeat' first
   | (with_reducible exact ih0 _ _ _)
   | (with_reducible exact LeO.refl _)
   | (with_reducible exact LeO.none _)
   | (with_reducible refine LeO.ite ?_ ?_)
   | (with_reducible refine LeO.bind ?_ (fun _ => ?_))
   | exact ih0 _ _ _
   | exact LeO.none _
   | refine LeO.ite ?_ ?_
   | refine LeO.bind ?_ (fun _ => ?_)
set_option maxHeartbeats 8000000 in
set_option maxRecDepth 100000 in
theorem laws_szCopyS.calls (k : Nat) (A0 : Option Addr) (c0 : Nat) (l0 : List (S109)) (a1 : Int) (r : Int) (w : World) (hr0 : Kd.C k109 w A0 l0.length l0) (hc0 : l0.length ≤ c0) (h : laws_szCopyS.f k l0 a1 = some r) :
  Calls Try.prog 52 #[.slice A0 l0.length c0, .int .i64 a1] w fun e w' => e = .returned (.int .i64 r) ∧ Below w.heap.size w w' := by
 have hu109 := Try.underlying109
 have HR0 := Aside0.mk hr0
 have HC0 := Aside0.mk hc0
 clear hr0 hc0
 have HB := Aside0.mk (Below.refl w.heap.size w)
 have H : (if (wrap64 (a1 - (l0.length : Int))) < 0 then (some (-1)) else (laws_szCopyS.l0 k l0 (wrap64 (a1 - (l0.length : Int))) 0)) = some r := h
 clear h
 by_cases c3 : (wrap64 (a1 - (l0.length : Int))) < 0
 ·rw [if_pos c3] at H
  have c3b0 : decide ((wrap64 (a1 - (l0.length : Int))) < 0) = true := decide_eq_true c3
  clear c3
  obtain rfl := Option.some.inj H
  go_enter Try.func52, Try.ntmps52
  go_wp2
  go_ret
  exact ⟨ng_, bl_⟩
 rw [if_neg c3] at H
 have c3b0 : decide ((wrap64 (a1 - (l0.length : Int))) < 0) = false := decide_eq_false c3
 clear c3
 have H' := Aside0.mk H
 clear H
 go_enter Try.func52, Try.ntmps52
 go_wp2
 go_loopg [1, 5] k (fun kq v1 v5 w' => ∃ (x1_1 : Int) (x5_1 : Int), v1 = .int .i64 x1_1 ∧ v5 = .int .i64 x5_1 ∧ Aside0 (laws_szCopyS.l0 kq l0 x1_1 x5_1 = some r) ∧ Aside0 (kq ≤ k) ∧ Aside0 (Below w.heap.size w w'))
 case atStart => exact ⟨(wrap64 (a1 - (l0.length : Int))), (0), (by first | rfl | (simp; done) | (simp [*]; done)), (by first | rfl | (simp; done) | (simp [*]; done)), H', ⟨Nat.le_refl _⟩, ⟨bl_⟩⟩
 clear H'
 try clear p2
 try clear c3
 try clear c3b0
 obtain ⟨x1_1, x5_1, rfl, rfl, HA, HK1, HB⟩ := hrel
 cases gk with
 | zero => exact absurd HA.out (by simp [laws_szCopyS.l0])
 | succ k1 => ?_
 have H := HA.out
 clear HA
 simp only [laws_szCopyS.l0] at H
 by_cases c4 : x5_1 < (l0.length : Int)
 rotate_left
 ·rw [if_neg c4] at H
  have c4b0 : decide (x5_1 < (l0.length : Int)) = false := decide_eq_false c4
  clear c4
  obtain rfl := Option.some.inj H
  go_wp2
  go_ret
  exact ⟨ng_, bl_⟩
 rw [if_pos c4] at H
 have c4b0 : decide (x5_1 < (l0.length : Int)) = true := decide_eq_true c4
 clear c4
 by_cases c5 : 0 ≤ x5_1
 rotate_left
 ·rw [if_neg c5] at H
  exact absurd H (by simp)
 rw [if_pos c5] at H
 have c5b0 : decide (0 ≤ x5_1) = true := decide_eq_true c5
 clear c5
 replace H := Option.bind_eq_some_iff.mp H
 obtain ⟨t121, A60, H⟩ := H
 replace H : (if t121 < 0 then (some (-1)) else (laws_szCopyS.l0 k1 l0 t121 (wrap64 (x5_1 + 1)))) = some r := H
 have A6 := Aside0.mk A60
 clear A60
 by_cases c7 : t121 < 0
 ·rw [if_pos c7] at H
  have c7b0 : decide (t121 < 0) = true := decide_eq_true c7
  clear c7
  obtain rfl := Option.some.inj H
  have p120 : 0 ≤ (x5_1 : Int) := of_decide_eq_true (by first | (with_reducible assumption) | assumption)
  have q120 : x5_1 < (l0.length : Int) := of_decide_eq_true (by first | (with_reducible assumption) | assumption)
  obtain ⟨ad120, e120, hx120_0, hx120_1, hx120_2⟩ := at_T109 HR0.out x5_1 p120 q120
  cases e120
  replace hx120_0 := (HB.out.cell (World.block_lt_of_cell? w _ hx120_0)).trans hx120_0
  replace hx120_1 := (HB.out.cell (World.block_lt_of_cell? w _ hx120_1)).trans hx120_1
  replace hx120_2 := (HB.out.cell (World.block_lt_of_cell? w _ hx120_2)).trans hx120_2
  replace p120 := eq_true p120
  replace q120 := eq_true q120
  go_wp2_with (first | ((with_reducible refine gate_callee (f := 81) rfl ?_); refine goesL_ (some 23) rfl rfl Try.func81 (by kernel_rfl) rfl #[.agg #[.int .i64 ((rd_T109 l0 x5_1).f0), .int .i64 ((rd_T109 l0 x5_1).f1), .string ((rd_T109 l0 x5_1).f2)], .int .i64 x1_1] rfl nc_ ?_; (with_reducible refine (laws_szCopy.calls ((rd_T109 l0 x5_1).f0) ((rd_T109 l0 x5_1).f1) ((rd_T109 l0 x5_1).f2) x1_1 t121 _ A6.out).mono ?_); rintro e w8 ⟨rfl, hb⟩; refine ⟨_, rfl, ?_⟩; replace HB := Aside0.mk (below_step bl_ hb); clear hb))
  go_ret
  exact ⟨ng_, bl_⟩
 rw [if_neg c7] at H
 have c7b0 : decide (t121 < 0) = false := decide_eq_false c7
 clear c7
 have H' := Aside0.mk H
 clear H
 have p120 : 0 ≤ (x5_1 : Int) := of_decide_eq_true (by first | (with_reducible assumption) | assumption)
 have q120 : x5_1 < (l0.length : Int) := of_decide_eq_true (by first | (with_reducible assumption) | assumption)
 obtain ⟨ad120, e120, hx120_0, hx120_1, hx120_2⟩ := at_T109 HR0.out x5_1 p120 q120
 cases e120
 replace hx120_0 := (HB.out.cell (World.block_lt_of_cell? w _ hx120_0)).trans hx120_0
 replace hx120_1 := (HB.out.cell (World.block_lt_of_cell? w _ hx120_1)).trans hx120_1
 replace hx120_2 := (HB.out.cell (World.block_lt_of_cell? w _ hx120_2)).trans hx120_2
 replace p120 := eq_true p120
 replace q120 := eq_true q120
 go_wp2_with (first | ((with_reducible refine gate_callee (f := 81) rfl ?_); refine goesL_ (some 23) rfl rfl Try.func81 (by kernel_rfl) rfl #[.agg #[.int .i64 ((rd_T109 l0 x5_1).f0), .int .i64 ((rd_T109 l0 x5_1).f1), .string ((rd_T109 l0 x5_1).f2)], .int .i64 x1_1] rfl nc_ ?_; (with_reducible refine (laws_szCopy.calls ((rd_T109 l0 x5_1).f0) ((rd_T109 l0 x5_1).f1) ((rd_T109 l0 x5_1).f2) x1_1 t121 _ A6.out).mono ?_); rintro e w9 ⟨rfl, hb⟩; refine ⟨_, rfl, ?_⟩; replace HB := Aside0.mk (below_step bl_ hb); clear hb))
 go_roundg k1
 case measure => have := HK1.out; omega
 case rel => exact ⟨(t121), (wrap64 (x5_1 + 1)), (by first | rfl | (simp; done) | (simp [*]; done)), (by first | rfl | (simp; done) | (simp [*]; done)), H', ⟨by have := HK1.out; omega⟩, ⟨bl_⟩⟩

/-! ### laws_szIntS: function 102 -/
def laws_szIntS.f (l0 : List Int) (a1 : Int) : Option (Int) := if (wrap64 (a1 - (l0.length : Int))) < 0 then (some (-1)) else (some (wrap64 (a1 - (l0.length : Int))))
set_option maxHeartbeats 8000000 in
set_option maxRecDepth 100000 in
theorem laws_szIntS.calls (A0 : Option Addr) (c0 : Nat) (l0 : List Int) (a1 : Int) (r : Int) (w : World) (hr0 : Kd.C (Kd.int .i64) w A0 l0.length l0) (hc0 : l0.length ≤ c0) (h : laws_szIntS.f l0 a1 = some r) :
  Calls Try.prog 102 #[.slice A0 l0.length c0, .int .i64 a1] w fun e w' => e = .returned (.int .i64 r) ∧ Drawn0 w w' := by
 have HR0 := Aside0.mk hr0
 have HC0 := Aside0.mk hc0
 clear hr0 hc0
 have H : (if (wrap64 (a1 - (l0.length : Int))) < 0 then (some (-1)) else (some (wrap64 (a1 - (l0.length : Int))))) = some r := h
 clear h
 by_cases c3 : (wrap64 (a1 - (l0.length : Int))) < 0
 ·rw [if_pos c3] at H
  have c3b0 : decide ((wrap64 (a1 - (l0.length : Int))) < 0) = true := decide_eq_true c3
  clear c3
  obtain rfl := Option.some.inj H
  go_enter Try.func102, Try.ntmps102
  go_wp2
  go_ret
  exact ⟨by first | rfl | (simp; done) | (simp [*]; done), by repeat (first | exact Drawn0.refl _ | apply Drawn0.step)⟩
 rw [if_neg c3] at H
 have c3b0 : decide ((wrap64 (a1 - (l0.length : Int))) < 0) = false := decide_eq_false c3
 clear c3
 obtain rfl := Option.some.inj H
 go_enter Try.func102, Try.ntmps102
 go_wp2
 go_ret
 exact ⟨by first | rfl | (simp; done) | (simp [*]; done), by repeat (first | exact Drawn0.refl _ | apply Drawn0.step)⟩

/-! ### laws_szRegOp: function 82 -/
def laws_szRegOp.f (a0_0 : Int) (a0_1 : Bool) (a0_2 : ByteArray) (a0_3 : Int) (l0_4 : List Int) (a0_5 : Int) (a0_6 : Int) (a0_7 : ByteArray) (a0_8 : Int) (a0_9 : Int) (a1 : Int) : Option (Int) := if (wrap64 (a1 - (a0_2.size : Int))) < 0 then (some (-1)) else ((laws_szIntS.f l0_4 (wrap64 (a1 - (a0_2.size : Int)))).bind fun t123 => (if t123 < 0 then (some (-1)) else ((laws_szCopy.f a0_5 a0_6 a0_7 t123).bind fun t124 => (if t124 < 0 then (some (-1)) else (some t124)))))
set_option maxHeartbeats 8000000 in
set_option maxRecDepth 100000 in
theorem laws_szRegOp.calls (a0_0 : Int) (a0_1 : Bool) (a0_2 : ByteArray) (a0_3 : Int) (A0_4 : Option Addr) (c0_4 : Nat) (l0_4 : List Int) (a0_5 : Int) (a0_6 : Int) (a0_7 : ByteArray) (a0_8 : Int) (a0_9 : Int) (a1 : Int) (r : Int) (w : World) (hr0_4 : Kd.C (Kd.int .i64) w A0_4 l0_4.length l0_4) (hc0_4 : l0_4.length ≤ c0_4) (h : laws_szRegOp.f a0_0 a0_1 a0_2 a0_3 l0_4 a0_5 a0_6 a0_7 a0_8 a0_9 a1 = some r) :
  Calls Try.prog 82 #[.agg #[.int .i64 a0_0, .bool a0_1, .string a0_2, .int .i64 a0_3, .slice A0_4 l0_4.length c0_4, .int .i64 a0_5, .int .i64 a0_6, .string a0_7, .int .i64 a0_8, .int .i64 a0_9], .int .i64 a1] w fun e w' => e = .returned (.int .i64 r) ∧ Below w.heap.size w w' := by
 have hu112 := Try.underlying112
 have hu109 := Try.underlying109
 have HR0_4 := Aside0.mk hr0_4
 have HC0_4 := Aside0.mk hc0_4
 clear hr0_4 hc0_4
 have HB := Aside0.mk (Below.refl w.heap.size w)
 have H : (if (wrap64 (a1 - (a0_2.size : Int))) < 0 then (some (-1)) else ((laws_szIntS.f l0_4 (wrap64 (a1 - (a0_2.size : Int)))).bind fun t123 => (if t123 < 0 then (some (-1)) else ((laws_szCopy.f a0_5 a0_6 a0_7 t123).bind fun t124 => (if t124 < 0 then (some (-1)) else (some t124)))))) = some r := h
 clear h
 by_cases c3 : (wrap64 (a1 - (a0_2.size : Int))) < 0
 ·rw [if_pos c3] at H
  have c3b0 : decide ((wrap64 (a1 - (a0_2.size : Int))) < 0) = true := decide_eq_true c3
  clear c3
  obtain rfl := Option.some.inj H
  go_enter Try.func82, Try.ntmps82
  go_wp2_with (first | ((with_reducible refine gate_dst (N := 2) rfl ?_); refine box_event rfl (N := 2) rfl (cs := #[.int .i64 a0_0, .bool a0_1, .string a0_2, .int .i64 a0_3, .slice A0_4 l0_4.length c0_4, .int .i64 a0_5, .int .i64 a0_6, .string a0_7, .int .i64 a0_8, .int .i64 a0_9]) (t := 112) gs_ ?_; intro gb122 hg w4 hbox hb; have BK122 := Aside0.mk (hbox); have GW122 := Aside0.mk ((by rw [hg]; exact bz_ : w.heap.size ≤ gb122)); have GE122 := GW122; replace HB := Aside0.mk (below_step bl_ hb); clear hb hbox hg; have hcz5_0 : w4.cell? ⟨gb122, 0, none⟩ = some (.int .i64 a0_0) := bc_ BK122.out 0; have hcz5_1 : w4.cell? ⟨gb122, 1, none⟩ = some (.bool a0_1) := bc_ BK122.out 1; have hcz5_2 : w4.cell? ⟨gb122, 2, none⟩ = some (.string a0_2) := bc_ BK122.out 2; have hcz5_3 : w4.cell? ⟨gb122, 3, none⟩ = some (.int .i64 a0_3) := bc_ BK122.out 3; have hcz5_4 : w4.cell? ⟨gb122, 4, none⟩ = some (.slice A0_4 l0_4.length c0_4) := bc_ BK122.out 4; have hcz5_5 : w4.cell? ⟨gb122, 5, none⟩ = some (.int .i64 a0_5) := bc_ BK122.out 5; have hcz5_6 : w4.cell? ⟨gb122, 6, none⟩ = some (.int .i64 a0_6) := bc_ BK122.out 6; have hcz5_7 : w4.cell? ⟨gb122, 7, none⟩ = some (.string a0_7) := bc_ BK122.out 7; have hcz5_8 : w4.cell? ⟨gb122, 8, none⟩ = some (.int .i64 a0_8) := bc_ BK122.out 8; have hcz5_9 : w4.cell? ⟨gb122, 9, none⟩ = some (.int .i64 a0_9) := bc_ BK122.out 9; have hfz5_0 := blk_frozen BK122.out 0; have hfz5_1 := blk_frozen BK122.out 1; have hfz5_2 := blk_frozen BK122.out 2; have hfz5_3 := blk_frozen BK122.out 3; have hfz5_4 := blk_frozen BK122.out 4; have hfz5_5 := blk_frozen BK122.out 5; have hfz5_6 := blk_frozen BK122.out 6; have hfz5_7 := blk_frozen BK122.out 7; have hfz5_8 := blk_frozen BK122.out 8; have hfz5_9 := blk_frozen BK122.out 9))
  go_ret
  exact ⟨ng_, bl_⟩
 rw [if_neg c3] at H
 have c3b0 : decide ((wrap64 (a1 - (a0_2.size : Int))) < 0) = false := decide_eq_false c3
 clear c3
 replace H := Option.bind_eq_some_iff.mp H
 obtain ⟨t123, A60, H⟩ := H
 replace H : (if t123 < 0 then (some (-1)) else ((laws_szCopy.f a0_5 a0_6 a0_7 t123).bind fun t124 => (if t124 < 0 then (some (-1)) else (some t124)))) = some r := H
 have A6 := Aside0.mk A60
 clear A60
 by_cases c7 : t123 < 0
 ·rw [if_pos c7] at H
  have c7b0 : decide (t123 < 0) = true := decide_eq_true c7
  clear c7
  obtain rfl := Option.some.inj H
  go_enter Try.func82, Try.ntmps82
  go_wp2_with (first | ((with_reducible refine gate_dst (N := 2) rfl ?_); refine box_event rfl (N := 2) rfl (cs := #[.int .i64 a0_0, .bool a0_1, .string a0_2, .int .i64 a0_3, .slice A0_4 l0_4.length c0_4, .int .i64 a0_5, .int .i64 a0_6, .string a0_7, .int .i64 a0_8, .int .i64 a0_9]) (t := 112) gs_ ?_; intro gb122 hg w8 hbox hb; have BK122 := Aside0.mk (hbox); have GW122 := Aside0.mk ((by rw [hg]; exact bz_ : w.heap.size ≤ gb122)); have GE122 := GW122; replace HB := Aside0.mk (below_step bl_ hb); clear hb hbox hg; have hcz9_0 : w8.cell? ⟨gb122, 0, none⟩ = some (.int .i64 a0_0) := bc_ BK122.out 0; have hcz9_1 : w8.cell? ⟨gb122, 1, none⟩ = some (.bool a0_1) := bc_ BK122.out 1; have hcz9_2 : w8.cell? ⟨gb122, 2, none⟩ = some (.string a0_2) := bc_ BK122.out 2; have hcz9_3 : w8.cell? ⟨gb122, 3, none⟩ = some (.int .i64 a0_3) := bc_ BK122.out 3; have hcz9_4 : w8.cell? ⟨gb122, 4, none⟩ = some (.slice A0_4 l0_4.length c0_4) := bc_ BK122.out 4; have hcz9_5 : w8.cell? ⟨gb122, 5, none⟩ = some (.int .i64 a0_5) := bc_ BK122.out 5; have hcz9_6 : w8.cell? ⟨gb122, 6, none⟩ = some (.int .i64 a0_6) := bc_ BK122.out 6; have hcz9_7 : w8.cell? ⟨gb122, 7, none⟩ = some (.string a0_7) := bc_ BK122.out 7; have hcz9_8 : w8.cell? ⟨gb122, 8, none⟩ = some (.int .i64 a0_8) := bc_ BK122.out 8; have hcz9_9 : w8.cell? ⟨gb122, 9, none⟩ = some (.int .i64 a0_9) := bc_ BK122.out 9; have hfz9_0 := blk_frozen BK122.out 0; have hfz9_1 := blk_frozen BK122.out 1; have hfz9_2 := blk_frozen BK122.out 2; have hfz9_3 := blk_frozen BK122.out 3; have hfz9_4 := blk_frozen BK122.out 4; have hfz9_5 := blk_frozen BK122.out 5; have hfz9_6 := blk_frozen BK122.out 6; have hfz9_7 := blk_frozen BK122.out 7; have hfz9_8 := blk_frozen BK122.out 8; have hfz9_9 := blk_frozen BK122.out 9) | ((with_reducible refine gate_callee (f := 102) rfl ?_); refine goesL_ (some 15) rfl rfl Try.func102 (by kernel_rfl) rfl #[.slice A0_4 l0_4.length c0_4, .int .i64 (wrap64 (a1 - (a0_2.size : Int)))] rfl nc_ ?_; (with_reducible refine (laws_szIntS.calls _ _ l0_4 (wrap64 (a1 - (a0_2.size : Int))) t123 _ ?side1 ?side2 A6.out).mono ?_); (case side1 => exact kc_ (Kd.C_below HR0_4.out HB.out)); (case side2 => exact HC0_4.out); rintro e w' ⟨rfl, ⟨nd, rfl⟩⟩; refine ⟨_, rfl, ?_⟩))
  go_ret
  exact ⟨ng_, bl_⟩
 rw [if_neg c7] at H
 have c7b0 : decide (t123 < 0) = false := decide_eq_false c7
 clear c7
 replace H := Option.bind_eq_some_iff.mp H
 obtain ⟨t124, A100, H⟩ := H
 replace H : (if t124 < 0 then (some (-1)) else (some t124)) = some r := H
 have A10 := Aside0.mk A100
 clear A100
 by_cases c11 : t124 < 0
 ·rw [if_pos c11] at H
  have c11b0 : decide (t124 < 0) = true := decide_eq_true c11
  clear c11
  obtain rfl := Option.some.inj H
  go_enter Try.func82, Try.ntmps82
  go_wp2_with (first | ((with_reducible refine gate_dst (N := 2) rfl ?_); refine box_event rfl (N := 2) rfl (cs := #[.int .i64 a0_0, .bool a0_1, .string a0_2, .int .i64 a0_3, .slice A0_4 l0_4.length c0_4, .int .i64 a0_5, .int .i64 a0_6, .string a0_7, .int .i64 a0_8, .int .i64 a0_9]) (t := 112) gs_ ?_; intro gb122 hg w12 hbox hb; have BK122 := Aside0.mk (hbox); have GW122 := Aside0.mk ((by rw [hg]; exact bz_ : w.heap.size ≤ gb122)); have GE122 := GW122; replace HB := Aside0.mk (below_step bl_ hb); clear hb hbox hg; have hcz13_0 : w12.cell? ⟨gb122, 0, none⟩ = some (.int .i64 a0_0) := bc_ BK122.out 0; have hcz13_1 : w12.cell? ⟨gb122, 1, none⟩ = some (.bool a0_1) := bc_ BK122.out 1; have hcz13_2 : w12.cell? ⟨gb122, 2, none⟩ = some (.string a0_2) := bc_ BK122.out 2; have hcz13_3 : w12.cell? ⟨gb122, 3, none⟩ = some (.int .i64 a0_3) := bc_ BK122.out 3; have hcz13_4 : w12.cell? ⟨gb122, 4, none⟩ = some (.slice A0_4 l0_4.length c0_4) := bc_ BK122.out 4; have hcz13_5 : w12.cell? ⟨gb122, 5, none⟩ = some (.int .i64 a0_5) := bc_ BK122.out 5; have hcz13_6 : w12.cell? ⟨gb122, 6, none⟩ = some (.int .i64 a0_6) := bc_ BK122.out 6; have hcz13_7 : w12.cell? ⟨gb122, 7, none⟩ = some (.string a0_7) := bc_ BK122.out 7; have hcz13_8 : w12.cell? ⟨gb122, 8, none⟩ = some (.int .i64 a0_8) := bc_ BK122.out 8; have hcz13_9 : w12.cell? ⟨gb122, 9, none⟩ = some (.int .i64 a0_9) := bc_ BK122.out 9; have hfz13_0 := blk_frozen BK122.out 0; have hfz13_1 := blk_frozen BK122.out 1; have hfz13_2 := blk_frozen BK122.out 2; have hfz13_3 := blk_frozen BK122.out 3; have hfz13_4 := blk_frozen BK122.out 4; have hfz13_5 := blk_frozen BK122.out 5; have hfz13_6 := blk_frozen BK122.out 6; have hfz13_7 := blk_frozen BK122.out 7; have hfz13_8 := blk_frozen BK122.out 8; have hfz13_9 := blk_frozen BK122.out 9) | ((with_reducible refine gate_callee (f := 102) rfl ?_); refine goesL_ (some 15) rfl rfl Try.func102 (by kernel_rfl) rfl #[.slice A0_4 l0_4.length c0_4, .int .i64 (wrap64 (a1 - (a0_2.size : Int)))] rfl nc_ ?_; (with_reducible refine (laws_szIntS.calls _ _ l0_4 (wrap64 (a1 - (a0_2.size : Int))) t123 _ ?side1 ?side2 A6.out).mono ?_); (case side1 => exact kc_ (Kd.C_below HR0_4.out HB.out)); (case side2 => exact HC0_4.out); rintro e w' ⟨rfl, ⟨nd, rfl⟩⟩; refine ⟨_, rfl, ?_⟩) | ((with_reducible refine gate_callee (f := 81) rfl ?_); refine goesL_ (some 21) rfl rfl Try.func81 (by kernel_rfl) rfl #[.agg #[.int .i64 a0_5, .int .i64 a0_6, .string a0_7], .int .i64 t123] rfl nc_ ?_; (with_reducible refine (laws_szCopy.calls a0_5 a0_6 a0_7 t123 t124 _ A10.out).mono ?_); rintro e w14 ⟨rfl, hb⟩; refine ⟨_, rfl, ?_⟩; replace BK122 := bb_ BK122 hb; replace HB := Aside0.mk (below_step bl_ hb); clear hb))
  go_ret
  exact ⟨ng_, bl_⟩
 rw [if_neg c11] at H
 have c11b0 : decide (t124 < 0) = false := decide_eq_false c11
 clear c11
 obtain rfl := Option.some.inj H
 go_enter Try.func82, Try.ntmps82
 go_wp2_with (first | ((with_reducible refine gate_dst (N := 2) rfl ?_); refine box_event rfl (N := 2) rfl (cs := #[.int .i64 a0_0, .bool a0_1, .string a0_2, .int .i64 a0_3, .slice A0_4 l0_4.length c0_4, .int .i64 a0_5, .int .i64 a0_6, .string a0_7, .int .i64 a0_8, .int .i64 a0_9]) (t := 112) gs_ ?_; intro gb122 hg w15 hbox hb; have BK122 := Aside0.mk (hbox); have GW122 := Aside0.mk ((by rw [hg]; exact bz_ : w.heap.size ≤ gb122)); have GE122 := GW122; replace HB := Aside0.mk (below_step bl_ hb); clear hb hbox hg; have hcz16_0 : w15.cell? ⟨gb122, 0, none⟩ = some (.int .i64 a0_0) := bc_ BK122.out 0; have hcz16_1 : w15.cell? ⟨gb122, 1, none⟩ = some (.bool a0_1) := bc_ BK122.out 1; have hcz16_2 : w15.cell? ⟨gb122, 2, none⟩ = some (.string a0_2) := bc_ BK122.out 2; have hcz16_3 : w15.cell? ⟨gb122, 3, none⟩ = some (.int .i64 a0_3) := bc_ BK122.out 3; have hcz16_4 : w15.cell? ⟨gb122, 4, none⟩ = some (.slice A0_4 l0_4.length c0_4) := bc_ BK122.out 4; have hcz16_5 : w15.cell? ⟨gb122, 5, none⟩ = some (.int .i64 a0_5) := bc_ BK122.out 5; have hcz16_6 : w15.cell? ⟨gb122, 6, none⟩ = some (.int .i64 a0_6) := bc_ BK122.out 6; have hcz16_7 : w15.cell? ⟨gb122, 7, none⟩ = some (.string a0_7) := bc_ BK122.out 7; have hcz16_8 : w15.cell? ⟨gb122, 8, none⟩ = some (.int .i64 a0_8) := bc_ BK122.out 8; have hcz16_9 : w15.cell? ⟨gb122, 9, none⟩ = some (.int .i64 a0_9) := bc_ BK122.out 9; have hfz16_0 := blk_frozen BK122.out 0; have hfz16_1 := blk_frozen BK122.out 1; have hfz16_2 := blk_frozen BK122.out 2; have hfz16_3 := blk_frozen BK122.out 3; have hfz16_4 := blk_frozen BK122.out 4; have hfz16_5 := blk_frozen BK122.out 5; have hfz16_6 := blk_frozen BK122.out 6; have hfz16_7 := blk_frozen BK122.out 7; have hfz16_8 := blk_frozen BK122.out 8; have hfz16_9 := blk_frozen BK122.out 9) | ((with_reducible refine gate_callee (f := 102) rfl ?_); refine goesL_ (some 15) rfl rfl Try.func102 (by kernel_rfl) rfl #[.slice A0_4 l0_4.length c0_4, .int .i64 (wrap64 (a1 - (a0_2.size : Int)))] rfl nc_ ?_; (with_reducible refine (laws_szIntS.calls _ _ l0_4 (wrap64 (a1 - (a0_2.size : Int))) t123 _ ?side1 ?side2 A6.out).mono ?_); (case side1 => exact kc_ (Kd.C_below HR0_4.out HB.out)); (case side2 => exact HC0_4.out); rintro e w' ⟨rfl, ⟨nd, rfl⟩⟩; refine ⟨_, rfl, ?_⟩) | ((with_reducible refine gate_callee (f := 81) rfl ?_); refine goesL_ (some 21) rfl rfl Try.func81 (by kernel_rfl) rfl #[.agg #[.int .i64 a0_5, .int .i64 a0_6, .string a0_7], .int .i64 t123] rfl nc_ ?_; (with_reducible refine (laws_szCopy.calls a0_5 a0_6 a0_7 t123 t124 _ A10.out).mono ?_); rintro e w17 ⟨rfl, hb⟩; refine ⟨_, rfl, ?_⟩; replace BK122 := bb_ BK122 hb; replace HB := Aside0.mk (below_step bl_ hb); clear hb))
 go_ret
 exact ⟨ng_, bl_⟩

end Go.Proofs.Ytipfikmbldgliaa.PRG
