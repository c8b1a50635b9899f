/- What this text proves: the machine calls of these functions return what the plain functions say. Conditions: as each theorem says. Printed by a program of this session out of the translation. -/
import Derived.Test.YthbollaceiffpaaPMOx0
import Derived.Test.YthbollaceiffpaaPMOx2
namespace Go.Proofs.Ythbollaceiffpaa.PMO
open Go.RowKit Go.Proofs.YthbollaceiffpaaW.PrintWords Go.Proofs.YthbollaceiffpaaW.PrintLast Go.Proofs.YthbollaceiffpaaW.PrintMore
attribute [local go_sem] max2_int min2_int max_two min_two max_three min_three max_four min_four   -- for this text's walks alone
set_option linter.unusedVariables false
set_option linter.unusedSimpArgs false

/-! ### spec_GoodGroup: function 46 -/
def spec_GoodGroup.l0 : Nat → Int → List Int → Int → Int → List Int → Option (Bool)
 | 0, _, _, _, _, _ => none
 | k + 1, x1, x8, x9, x10, x144000 => if x10 < x9 then (if 0 ≤ x10 then (if x10 < (x8.length : Int) then ((spec_l1In.f (rd x8 x10) 0 (wrap64 (x1 - 1))).bind fun t145 => (if t145 = true then (if x10 > 0 then (if 0 ≤ (wrap64 (x10 - 1)) then (if (wrap64 (x10 - 1)) < (x144000.length : Int) then (if (rd x144000 (wrap64 (x10 - 1))) ≥ (rd x8 x10) then (some false) else (spec_GoodGroup.l0 k x1 x8 x9 (wrap64 (x10 + 1)) x144000)) else (none)) else (none)) else (spec_GoodGroup.l0 k x1 x8 x9 (wrap64 (x10 + 1)) x144000)) else (some false))) else (none)) else (none)) else ((spec_l8Nodes.f x1).bind fun t147 => (some t147))
def spec_GoodGroup.f (k : Nat) (l0_0 : List Int) (a1 : Int) : Option (Bool) := spec_GoodGroup.l0 k a1 l0_0 (l0_0.length : Int) 0 l0_0
theorem spec_GoodGroup.mono_l : ∀ k, (∀ y0 y1 y2 y3 y4, LeO (spec_GoodGroup.l0 k y0 y1 y2 y3 y4) (spec_GoodGroup.l0 (k + 1) y0 y1 y2 y3 y4))
 | 0 => fun _ _ _ _ _ r h => by simp [spec_GoodGroup.l0] at h
 | k + 1 => by
  have ih0 := spec_GoodGroup.mono_l k
  ·intro y0 y1 y2 y3 y4
   unfold spec_GoodGroup.l0
   repeat' first
   | (with_reducible exact ih0 _ _ _ _ _)
   | (with_reducible exact LeO.refl _)
   | (with_reducible exact LeO.none _)
   | (with_reducible refine LeO.ite ?_ ?_)
   | (with_reducible refine LeO.bind ?_ (fun _ => ?_))
   | exact ih0 _ _ _ _ _
   | exact LeO.none _
   | refine LeO.ite ?_ ?_
   | refine LeO.bind ?_ (fun _ => ?_)
theorem spec_GoodGroup.mono : ∀ a0 a1 k, LeO (spec_GoodGroup.f k a0 a1) (spec_GoodGroup.f (k + 1) a0 a1) := by
 intro a0 a1 k
 have ih0 := spec_GoodGroup.mono_l k
 unfold spec_GoodGroup.f
 repeat' first
   | (with_reducible exact ih0 _ _ _ _ _)
   | (with_reducible exact LeO.refl _)
   | (with_reducible exact LeO.none _)
   | (with_reducible refine LeO.ite ?_ ?_)
   | (with_reducible refine LeO.bind ?_ (fun _ => ?_))
   | exact ih0 _ _ _ _ _
   | exact LeO.none _
   | refine LeO.ite ?_ ?_
   | refine LeO.bind ?_ (fun _ => ?_)
set_option maxHeartbeats 8000000 in
set_option maxRecDepth 100000 in
theorem spec_GoodGroup.calls (k : Nat) (A0_0 : Option Addr) (c0_0 : Nat) (l0_0 : List Int) (a1 : Int) (r : Bool) (w : World) (hr0_0 : Kd.C (Kd.int .i64) w A0_0 l0_0.length l0_0) (hc0_0 : l0_0.length ≤ c0_0) (h : spec_GoodGroup.f k l0_0 a1 = some r) :
  Calls Try.prog 46 #[.agg #[.slice A0_0 l0_0.length c0_0], .int .i64 a1] w fun e w' => e = .returned (.bool r) ∧ Below w.heap.size w w' := by
 have hu28 := Try.underlying28
 have HR0_0 := Aside0.mk hr0_0
 have HC0_0 := Aside0.mk hc0_0
 clear hr0_0 hc0_0
 have HB := Aside0.mk (Below.refl w.heap.size w)
 have H : (spec_GoodGroup.l0 k a1 l0_0 (l0_0.length : Int) 0 l0_0) = some r := h
 clear h
 have H' := Aside0.mk H
 clear H
 go_enter Try.func46, Try.ntmps46
 go_wp2_with (first | ((with_reducible refine gate_dst (N := 2) rfl ?_); refine box_event rfl (N := 2) rfl (cs := #[.slice A0_0 l0_0.length c0_0]) (t := 28) gs_ ?_; intro gb143 hg w3 hbox hb; have BK143 := Aside0.mk (hbox); have GW143 := Aside0.mk ((by rw [hg]; exact bz_ : w.heap.size ≤ gb143)); have GE143 := GW143; replace HB := Aside0.mk (below_step bl_ hb); clear hb hbox hg; have hcz4_0 : w3.cell? ⟨gb143, 0, none⟩ = some (.slice A0_0 l0_0.length c0_0) := bc_ BK143.out 0; have hfz4_0 := blk_frozen BK143.out 0))
 go_loopg [10] k (fun kq v10 w' => ∃ (x10_1 : Int), v10 = .int .i64 x10_1 ∧ Aside0 (spec_GoodGroup.l0 kq a1 l0_0 (l0_0.length : Int) x10_1 l0_0 = some r) ∧ Aside0 (kq ≤ k) ∧ Aside0 (w'.heap[gb143]? = some (.cells #[(.slice A0_0 l0_0.length c0_0)] 28 (0, 0))) ∧ Aside0 (Below w.heap.size w w'))
 case atStart => exact ⟨(0), (by first | rfl | (simp; done) | (simp [*]; done)), H', ⟨Nat.le_refl _⟩, ⟨by exact kb_ BK143.out⟩, ⟨bl_⟩⟩
 clear H'
 try clear p2
 try clear c4
 try clear hcz4_0
 try clear hfz4_0
 obtain ⟨x10_1, rfl, HA, HK1, BK143, HB⟩ := hrel
 cases gk with
 | zero => exact absurd HA.out (by simp [spec_GoodGroup.l0])
 | succ k1 => ?_
 have H := HA.out
 clear HA
 simp only [spec_GoodGroup.l0] at H
 by_cases c5 : x10_1 < (l0_0.length : Int)
 rotate_left
 ·rw [if_neg c5] at H
  have c5b0 : decide (x10_1 < (l0_0.length : Int)) = false := decide_eq_false c5
  clear c5
  replace H := Option.bind_eq_some_iff.mp H
  obtain ⟨t147, A170, H⟩ := H
  replace H : (some t147) = some r := H
  have A17 := Aside0.mk A170
  clear A170
  obtain rfl := Option.some.inj H
  go_wp2_with (first | ((with_reducible refine gate_callee (f := 69) rfl ?_); refine goesL_ (some 36) rfl rfl Try.func69 (by kernel_rfl) rfl #[.int .i64 a1] rfl nc_ ?_; (with_reducible refine (spec_l8Nodes.calls a1 t147 _ A17.out).mono ?_); rintro e w' ⟨rfl, ⟨nd, rfl⟩⟩; refine ⟨_, rfl, ?_⟩))
  go_ret
  exact ⟨ng_, bl_⟩
 rw [if_pos c5] at H
 have c5b0 : decide (x10_1 < (l0_0.length : Int)) = true := decide_eq_true c5
 clear c5
 by_cases c6 : 0 ≤ x10_1
 rotate_left
 ·rw [if_neg c6] at H
  exact absurd H (by simp)
 rw [if_pos c6] at H
 have c6b0 : decide (0 ≤ x10_1) = true := decide_eq_true c6
 clear c6
 by_cases c7 : x10_1 < (l0_0.length : Int)
 rotate_left
 ·rw [if_neg c7] at H
  exact absurd H (by simp)
 rw [if_pos c7] at H
 have c7b0 : decide (x10_1 < (l0_0.length : Int)) = true := decide_eq_true c7
 clear c7
 replace H := Option.bind_eq_some_iff.mp H
 obtain ⟨t145, A80, H⟩ := H
 replace H : (if t145 = true then (if x10_1 > 0 then (if 0 ≤ (wrap64 (x10_1 - 1)) then (if (wrap64 (x10_1 - 1)) < (l0_0.length : Int) then (if (rd l0_0 (wrap64 (x10_1 - 1))) ≥ (rd l0_0 x10_1) then (some false) else (spec_GoodGroup.l0 k1 a1 l0_0 (l0_0.length : Int) (wrap64 (x10_1 + 1)) l0_0)) else (none)) else (none)) else (spec_GoodGroup.l0 k1 a1 l0_0 (l0_0.length : Int) (wrap64 (x10_1 + 1)) l0_0)) else (some false)) = some r := H
 have A8 := Aside0.mk A80
 clear A80
 by_cases c9 : t145 = true
 rotate_left
 ·replace c9 := Bool.eq_false_iff.mpr c9
  subst c9
  have H1 : (some false) = some r := by rw [if_neg (show ¬ (false = true) by decide)] at H; exact H
  clear H
  have H := H1
  clear H1
  obtain rfl := Option.some.inj H
  have p144 : 0 ≤ (x10_1 : Int) := of_decide_eq_true (by first | (with_reducible assumption) | assumption)
  have q144 : x10_1 < (l0_0.length : Int) := of_decide_eq_true (by first | (with_reducible assumption) | assumption)
  obtain ⟨ad144, e144, hx144_0⟩ := Kd.at_int HR0_0.out x10_1 p144 q144
  cases e144
  replace hx144_0 := (HB.out.cell (World.block_lt_of_cell? w _ hx144_0)).trans hx144_0
  replace p144 := eq_true p144
  replace q144 := eq_true q144
  go_wp2_with (first | ((with_reducible refine gate_callee (f := 56) rfl ?_); refine goesL_ (some 18) rfl rfl Try.func56 (by kernel_rfl) rfl #[.int .i64 (rd l0_0 x10_1), .int .i64 0, .int .i64 (wrap64 (a1 - 1))] rfl nc_ ?_; (with_reducible refine (spec_l1In.calls (rd l0_0 x10_1) 0 (wrap64 (a1 - 1)) false _ A8.out).mono ?_); rintro e w' ⟨rfl, ⟨nd, rfl⟩⟩; refine ⟨_, rfl, ?_⟩))
  go_ret
  exact ⟨ng_, bl_⟩
 subst c9
 have H1 : (if x10_1 > 0 then (if 0 ≤ (wrap64 (x10_1 - 1)) then (if (wrap64 (x10_1 - 1)) < (l0_0.length : Int) then (if (rd l0_0 (wrap64 (x10_1 - 1))) ≥ (rd l0_0 x10_1) then (some false) else (spec_GoodGroup.l0 k1 a1 l0_0 (l0_0.length : Int) (wrap64 (x10_1 + 1)) l0_0)) else (none)) else (none)) else (spec_GoodGroup.l0 k1 a1 l0_0 (l0_0.length : Int) (wrap64 (x10_1 + 1)) l0_0)) = some r := by rw [if_pos rfl] at H; exact H
 clear H
 have H := H1
 clear H1
 by_cases c10 : x10_1 > 0
 rotate_left
 ·rw [if_neg c10] at H
  have c10b0 : decide (0 < x10_1) = false := decide_eq_false c10
  clear c10
  have H' := Aside0.mk H
  clear H
  have p144 : 0 ≤ (x10_1 : Int) := of_decide_eq_true (by first | (with_reducible assumption) | assumption)
  have q144 : x10_1 < (l0_0.length : Int) := of_decide_eq_true (by first | (with_reducible assumption) | assumption)
  obtain ⟨ad144, e144, hx144_0⟩ := Kd.at_int HR0_0.out x10_1 p144 q144
  cases e144
  replace hx144_0 := (HB.out.cell (World.block_lt_of_cell? w _ hx144_0)).trans hx144_0
  replace p144 := eq_true p144
  replace q144 := eq_true q144
  go_wp2_with (first | ((with_reducible refine gate_callee (f := 56) rfl ?_); refine goesL_ (some 18) rfl rfl Try.func56 (by kernel_rfl) rfl #[.int .i64 (rd l0_0 x10_1), .int .i64 0, .int .i64 (wrap64 (a1 - 1))] rfl nc_ ?_; (with_reducible refine (spec_l1In.calls (rd l0_0 x10_1) 0 (wrap64 (a1 - 1)) true _ A8.out).mono ?_); rintro e w' ⟨rfl, ⟨nd, rfl⟩⟩; refine ⟨_, rfl, ?_⟩))
  go_roundg k1
  case measure => have := HK1.out; omega
  case rel => exact ⟨(wrap64 (x10_1 + 1)), (by first | rfl | (simp; done) | (simp [*]; done)), H', ⟨by have := HK1.out; omega⟩, ⟨by exact kb_ BK143.out⟩, ⟨bl_⟩⟩
 rw [if_pos c10] at H
 have c10b0 : decide (0 < x10_1) = true := decide_eq_true c10
 clear c10
 obtain ⟨ji11, hji11⟩ : ∃ j_ : Int, (wrap64 (x10_1 - 1)) = j_ := ⟨_, rfl⟩
 replace H : (if 0 ≤ (ji11) then (if (ji11) < (l0_0.length : Int) then (if (rd l0_0 (ji11)) ≥ (rd l0_0 x10_1) then (some false) else (spec_GoodGroup.l0 k1 a1 l0_0 (l0_0.length : Int) (wrap64 (x10_1 + 1)) l0_0)) else (none)) else (none)) = some r := by first | (rw [hji11] at H; exact H) | (simp only [hji11] at H ⊢; exact H)
 (try rw [hji11] at A8)
 have hji11w : (IntKind.i64.wrap (x10_1 - 1)) = ji11 := (i64_w _).trans hji11
 by_cases c12 : 0 ≤ (ji11)
 rotate_left
 ·rw [if_neg c12] at H
  exact absurd H (by simp)
 rw [if_pos c12] at H
 have c12b0 : decide (0 ≤ (ji11)) = true := decide_eq_true c12
 clear c12
 by_cases c13 : (ji11) < (l0_0.length : Int)
 rotate_left
 ·rw [if_neg c13] at H
  exact absurd H (by simp)
 rw [if_pos c13] at H
 have c13b0 : decide ((ji11) < (l0_0.length : Int)) = true := decide_eq_true c13
 clear c13
 by_cases c14 : (rd l0_0 (ji11)) ≥ (rd l0_0 x10_1)
 ·rw [if_pos c14] at H
  have c14b0 : decide ((rd l0_0 x10_1) ≤ (rd l0_0 (ji11))) = true := decide_eq_true c14
  clear c14
  obtain rfl := Option.some.inj H
  have p144 : 0 ≤ (x10_1 : Int) := of_decide_eq_true (by first | (with_reducible assumption) | assumption)
  have q144 : x10_1 < (l0_0.length : Int) := of_decide_eq_true (by first | (with_reducible assumption) | assumption)
  obtain ⟨ad144, e144, hx144_0⟩ := Kd.at_int HR0_0.out x10_1 p144 q144
  cases e144
  replace hx144_0 := (HB.out.cell (World.block_lt_of_cell? w _ hx144_0)).trans hx144_0
  replace p144 := eq_true p144
  replace q144 := eq_true q144
  go_wp2_with (first | ((with_reducible refine gate_callee (f := 56) rfl ?_); refine goesL_ (some 18) rfl rfl Try.func56 (by kernel_rfl) rfl #[.int .i64 (rd l0_0 x10_1), .int .i64 0, .int .i64 (wrap64 (a1 - 1))] rfl nc_ ?_; (with_reducible refine (spec_l1In.calls (rd l0_0 x10_1) 0 (wrap64 (a1 - 1)) true _ A8.out).mono ?_); rintro e w' ⟨rfl, ⟨nd, rfl⟩⟩; refine ⟨_, rfl, ?_⟩; have hcz15_0 : wr.cell? ⟨gb143, 0, none⟩ = some (.slice (some ad144) l0_0.length c0_0) := bc_ BK143.out 0; have hfz15_0 := blk_frozen BK143.out 0; have p146 : 0 ≤ ((ji11) : Int) := of_decide_eq_true (by first | (with_reducible assumption) | assumption); have q146 : (ji11) < (l0_0.length : Int) := of_decide_eq_true (by first | (with_reducible assumption) | assumption); obtain ⟨ad146, e146, hx146_0⟩ := Kd.at_int HR0_0.out (ji11) p146 q146; obtain rfl : ad144 = ad146 := (by injection e146); replace hx146_0 := (HB.out.cell (World.block_lt_of_cell? w _ hx146_0)).trans hx146_0; replace p146 := eq_true p146; replace q146 := eq_true q146))
  go_ret
  exact ⟨by first | rfl | (simp [errW_none, errW_some] <;> rfl) | (simp only [← hji11]; first | rfl | (simp [errW_none, errW_some] <;> rfl)) | (simp [*, errW_none, errW_some] <;> rfl), bl_⟩
 rw [if_neg c14] at H
 have c14b0 : decide ((rd l0_0 x10_1) ≤ (rd l0_0 (ji11))) = false := decide_eq_false c14
 clear c14
 have H' := Aside0.mk H
 clear H
 have p144 : 0 ≤ (x10_1 : Int) := of_decide_eq_true (by first | (with_reducible assumption) | assumption)
 have q144 : x10_1 < (l0_0.length : Int) := of_decide_eq_true (by first | (with_reducible assumption) | assumption)
 obtain ⟨ad144, e144, hx144_0⟩ := Kd.at_int HR0_0.out x10_1 p144 q144
 cases e144
 replace hx144_0 := (HB.out.cell (World.block_lt_of_cell? w _ hx144_0)).trans hx144_0
 replace p144 := eq_true p144
 replace q144 := eq_true q144
 go_wp2_with (first | ((with_reducible refine gate_callee (f := 56) rfl ?_); refine goesL_ (some 18) rfl rfl Try.func56 (by kernel_rfl) rfl #[.int .i64 (rd l0_0 x10_1), .int .i64 0, .int .i64 (wrap64 (a1 - 1))] rfl nc_ ?_; (with_reducible refine (spec_l1In.calls (rd l0_0 x10_1) 0 (wrap64 (a1 - 1)) true _ A8.out).mono ?_); rintro e w' ⟨rfl, ⟨nd, rfl⟩⟩; refine ⟨_, rfl, ?_⟩; have hcz16_0 : wr.cell? ⟨gb143, 0, none⟩ = some (.slice (some ad144) l0_0.length c0_0) := bc_ BK143.out 0; have hfz16_0 := blk_frozen BK143.out 0; have p146 : 0 ≤ ((ji11) : Int) := of_decide_eq_true (by first | (with_reducible assumption) | assumption); have q146 : (ji11) < (l0_0.length : Int) := of_decide_eq_true (by first | (with_reducible assumption) | assumption); obtain ⟨ad146, e146, hx146_0⟩ := Kd.at_int HR0_0.out (ji11) p146 q146; obtain rfl : ad144 = ad146 := (by injection e146); replace hx146_0 := (HB.out.cell (World.block_lt_of_cell? w _ hx146_0)).trans hx146_0; replace p146 := eq_true p146; replace q146 := eq_true q146))
 go_roundg k1
 case measure => have := HK1.out; omega
 case rel => exact ⟨(wrap64 (x10_1 + 1)), (by first | rfl | (simp; done) | (simp [*]; done)), H', ⟨by have := HK1.out; omega⟩, ⟨by exact kb_ BK143.out⟩, ⟨bl_⟩⟩

/-! ### spec_l8Sets: function 62 -/
def spec_l8Sets.l0 : Nat → Int → List (S28) → List (S28) → Int → Int → Option (Bool)
 | 0, _, _, _, _, _ => none
 | k + 1, x0, x1, x7, x8, x9 => if x9 < x8 then (if 0 ≤ x9 then (if x9 < (x7.length : Int) then ((spec_GoodGroup.f k ((rd_T28 x7 x9).f0) x0).bind fun t150 => (if t150 = true then (spec_l8Sets.l0 k x0 x1 x7 x8 (wrap64 (x9 + 1))) else (some false))) else (none)) else (none)) else ((spec_l8Nodes.f x0).bind fun t151 => (if t151 = true then (some (decide ((x1.length : Int) ≤ 40))) else (some false)))
def spec_l8Sets.f (k : Nat) (a0 : Int) (l1 : List (S28)) : Option (Bool) := spec_l8Sets.l0 k a0 l1 l1 (l1.length : Int) 0
theorem spec_l8Sets.mono_l : ∀ k, (∀ y0 y1 y2 y3 y4, LeO (spec_l8Sets.l0 k y0 y1 y2 y3 y4) (spec_l8Sets.l0 (k + 1) y0 y1 y2 y3 y4))
 | 0 => fun _ _ _ _ _ r h => by simp [spec_l8Sets.l0] at h
 | k + 1 => by
  have ih0 := spec_l8Sets.mono_l k
  ·intro y0 y1 y2 y3 y4
   unfold spec_l8Sets.l0
   repeat' first
   | (with_reducible exact ih0 _ _ _ _ _)
   | (with_reducible exact spec_GoodGroup.mono _ _ _)
   | (with_reducible exact LeO.refl _)
   | (with_reducible exact LeO.none _)
   | (with_reducible refine LeO.ite ?_ ?_)
   | (with_reducible refine LeO.bind ?_ (fun _ => ?_))
   | exact ih0 _ _ _ _ _
   | exact spec_GoodGroup.mono _ _ _
   | exact LeO.none _
   | refine LeO.ite ?_ ?_
   | refine LeO.bind ?_ (fun _ => ?_)
theorem spec_l8Sets.mono : ∀ a0 a1 k, LeO (spec_l8Sets.f k a0 a1) (spec_l8Sets.f (k + 1) a0 a1) := by
 intro a0 a1 k
 have ih0 := spec_l8Sets.mono_l k
 unfold spec_l8Sets.f
 repeat' first
   | (with_reducible exact ih0 _ _ _ _ _)
   | (with_reducible exact spec_GoodGroup.mono _ _ _)
   | (with_reducible exact LeO.refl _)
   | (with_reducible exact LeO.none _)
   | (with_reducible refine LeO.ite ?_ ?_)
   | (with_reducible refine LeO.bind ?_ (fun _ => ?_))
   | exact ih0 _ _ _ _ _
   | exact spec_GoodGroup.mono _ _ _
   | exact LeO.none _
   | refine LeO.ite ?_ ?_
   | refine LeO.bind ?_ (fun _ => ?_)
set_option maxHeartbeats 8000000 in
set_option maxRecDepth 100000 in
theorem spec_l8Sets.calls (k : Nat) (a0 : Int) (A1 : Option Addr) (c1 : Nat) (l1 : List (S28)) (r : Bool) (w : World) (hr1 : Kd.C k28 w A1 l1.length l1) (hc1 : l1.length ≤ c1) (h : spec_l8Sets.f k a0 l1 = some r) :
  Calls Try.prog 62 #[.int .i64 a0, .slice A1 l1.length c1] w fun e w' => e = .returned (.bool r) ∧ Below w.heap.size w w' := by
 have hu28 := Try.underlying28
 have HR1 := Aside0.mk hr1
 have HC1 := Aside0.mk hc1
 clear hr1 hc1
 have HB := Aside0.mk (Below.refl w.heap.size w)
 have H : (spec_l8Sets.l0 k a0 l1 l1 (l1.length : Int) 0) = some r := h
 clear h
 have H' := Aside0.mk H
 clear H
 go_enter Try.func62, Try.ntmps62
 go_wp2
 go_loopg [9] k (fun kq v9 w' => ∃ (x9_1 : Int), v9 = .int .i64 x9_1 ∧ Aside0 (spec_l8Sets.l0 kq a0 l1 l1 (l1.length : Int) x9_1 = some r) ∧ Aside0 (kq ≤ k) ∧ Aside0 (Below w.heap.size w w'))
 case atStart => exact ⟨(0), (by first | rfl | (simp; done) | (simp [*]; done)), H', ⟨Nat.le_refl _⟩, ⟨bl_⟩⟩
 clear H'
 try clear c1
 try clear p2
 obtain ⟨x9_1, rfl, HA, HK1, HB⟩ := hrel
 cases gk with
 | zero => exact absurd HA.out (by simp [spec_l8Sets.l0])
 | succ k1 => ?_
 have H := HA.out
 clear HA
 simp only [spec_l8Sets.l0] at H
 by_cases c3 : x9_1 < (l1.length : Int)
 rotate_left
 ·rw [if_neg c3] at H
  have c3b0 : decide (x9_1 < (l1.length : Int)) = false := decide_eq_false c3
  clear c3
  replace H := Option.bind_eq_some_iff.mp H
  obtain ⟨t151, A140, H⟩ := H
  replace H : (if t151 = true then (some (decide ((l1.length : Int) ≤ 40))) else (some false)) = some r := H
  have A14 := Aside0.mk A140
  clear A140
  by_cases c15 : t151 = true
  ·subst c15
   have H1 : (some (decide ((l1.length : Int) ≤ 40))) = some r := by rw [if_pos rfl] at H; exact H
   clear H
   have H := H1
   clear H1
   obtain rfl := Option.some.inj H
   go_wp2_with (first | ((with_reducible refine gate_callee (f := 69) rfl ?_); refine goesL_ (some 19) rfl rfl Try.func69 (by kernel_rfl) rfl #[.int .i64 a0] rfl nc_ ?_; (with_reducible refine (spec_l8Nodes.calls a0 true _ A14.out).mono ?_); rintro e w' ⟨rfl, ⟨nd, rfl⟩⟩; refine ⟨_, rfl, ?_⟩))
   go_ret
   exact ⟨ng_, bl_⟩
  replace c15 := Bool.eq_false_iff.mpr c15
  subst c15
  have H1 : (some false) = some r := by rw [if_neg (show ¬ (false = true) by decide)] at H; exact H
  clear H
  have H := H1
  clear H1
  obtain rfl := Option.some.inj H
  go_wp2_with (first | ((with_reducible refine gate_callee (f := 69) rfl ?_); refine goesL_ (some 19) rfl rfl Try.func69 (by kernel_rfl) rfl #[.int .i64 a0] rfl nc_ ?_; (with_reducible refine (spec_l8Nodes.calls a0 false _ A14.out).mono ?_); rintro e w' ⟨rfl, ⟨nd, rfl⟩⟩; refine ⟨_, rfl, ?_⟩))
  go_ret
  exact ⟨ng_, bl_⟩
 rw [if_pos c3] at H
 have c3b0 : decide (x9_1 < (l1.length : Int)) = true := decide_eq_true c3
 clear c3
 by_cases c4 : 0 ≤ x9_1
 rotate_left
 ·rw [if_neg c4] at H
  exact absurd H (by simp)
 rw [if_pos c4] at H
 have c4b0 : decide (0 ≤ x9_1) = true := decide_eq_true c4
 clear c4
 by_cases c5 : x9_1 < (l1.length : Int)
 rotate_left
 ·rw [if_neg c5] at H
  exact absurd H (by simp)
 rw [if_pos c5] at H
 have c5b0 : decide (x9_1 < (l1.length : Int)) = true := decide_eq_true c5
 clear c5
 replace H := Option.bind_eq_some_iff.mp H
 obtain ⟨t150, A60, H⟩ := H
 replace H : (if t150 = true then (spec_l8Sets.l0 k1 a0 l1 l1 (l1.length : Int) (wrap64 (x9_1 + 1))) else (some false)) = some r := H
 have A6 := Aside0.mk A60
 clear A60
 by_cases c7 : t150 = true
 rotate_left
 ·replace c7 := Bool.eq_false_iff.mpr c7
  subst c7
  have H1 : (some false) = some r := by rw [if_neg (show ¬ (false = true) by decide)] at H; exact H
  clear H
  have H := H1
  clear H1
  obtain rfl := Option.some.inj H
  have p148 : 0 ≤ (x9_1 : Int) := of_decide_eq_true (by first | (with_reducible assumption) | assumption)
  have q148 : x9_1 < (l1.length : Int) := of_decide_eq_true (by first | (with_reducible assumption) | assumption)
  obtain ⟨ad148, A148_0, c148_0, e148, hx148_0, hl148_0, hi148_0⟩ := at_T28 HR1.out x9_1 p148 q148
  cases e148
  replace hx148_0 := (HB.out.cell (World.block_lt_of_cell? w _ hx148_0)).trans hx148_0
  have HR148_0 := Aside0.mk hi148_0
  have HC148_0 := Aside0.mk hl148_0
  clear hi148_0 hl148_0
  replace p148 := eq_true p148
  replace q148 := eq_true q148
  go_wp2_with (first | ((with_reducible refine gate_dst (N := 6) rfl ?_); (try (refine gate_guard (by rfl) ?_; dsimp only)); refine box_event rfl (N := 6) rfl (cs := #[.slice none 0 0]) (t := 28) gs_ ?_; intro gb149 hg w11 hbox hb; have BK149 := Aside0.mk (hbox); have GW149 := Aside0.mk ((by rw [hg]; exact bz_ : w.heap.size ≤ gb149)); have GE149 := GW149; replace HB := Aside0.mk (below_step bl_ hb); clear hb hbox hg; have hcz12_0 : w11.cell? ⟨gb149, 0, none⟩ = some (.slice none 0 0) := bc_ BK149.out 0; have hfz12_0 := blk_frozen BK149.out 0) | ((with_reducible refine gate_callee (f := 46) rfl ?_); refine goesL_ (some 15) rfl rfl Try.func46 (by kernel_rfl) rfl #[.agg #[.slice A148_0 ((rd_T28 l1 x9_1).f0).length c148_0], .int .i64 a0] rfl nc_ ?_; (with_reducible refine (spec_GoodGroup.calls k1 _ _ ((rd_T28 l1 x9_1).f0) a0 false _ ?side1 ?side2 A6.out).mono ?_); (case side1 => exact Kd.C_below HR148_0.out bl_); (case side2 => exact HC148_0.out); rintro e w13 ⟨rfl, hb⟩; refine ⟨_, rfl, ?_⟩; replace BK149 := Aside0.mk (blk_below (g := gb149) (o := .cells #[.slice A148_0 ((rd_T28 l1 x9_1).f0).length c148_0] 28 (0, 0)) (by (with_reducible repeat (first | refine blk_drewN ?_ _ | refine blk_drew ?_ | refine blk_alloc ?_ _)); refine blk_put (cs := #[.slice none 0 0]) ?_ 0 _ rfl; exact kb_ BK149.out) hb); replace HB := Aside0.mk (below_step bl_ hb); clear hb))
  go_ret
  exact ⟨ng_, bl_⟩
 subst c7
 have H1 : (spec_l8Sets.l0 k1 a0 l1 l1 (l1.length : Int) (wrap64 (x9_1 + 1))) = some r := by rw [if_pos rfl] at H; exact H
 clear H
 have H := H1
 clear H1
 have H' := Aside0.mk H
 clear H
 have p148 : 0 ≤ (x9_1 : Int) := of_decide_eq_true (by first | (with_reducible assumption) | assumption)
 have q148 : x9_1 < (l1.length : Int) := of_decide_eq_true (by first | (with_reducible assumption) | assumption)
 obtain ⟨ad148, A148_0, c148_0, e148, hx148_0, hl148_0, hi148_0⟩ := at_T28 HR1.out x9_1 p148 q148
 cases e148
 replace hx148_0 := (HB.out.cell (World.block_lt_of_cell? w _ hx148_0)).trans hx148_0
 have HR148_0 := Aside0.mk hi148_0
 have HC148_0 := Aside0.mk hl148_0
 clear hi148_0 hl148_0
 replace p148 := eq_true p148
 replace q148 := eq_true q148
 go_wp2_with (first | ((with_reducible refine gate_dst (N := 6) rfl ?_); (try (refine gate_guard (by rfl) ?_; dsimp only)); refine box_event rfl (N := 6) rfl (cs := #[.slice none 0 0]) (t := 28) gs_ ?_; intro gb149 hg w8 hbox hb; have BK149 := Aside0.mk (hbox); have GW149 := Aside0.mk ((by rw [hg]; exact bz_ : w.heap.size ≤ gb149)); have GE149 := GW149; replace HB := Aside0.mk (below_step bl_ hb); clear hb hbox hg; have hcz9_0 : w8.cell? ⟨gb149, 0, none⟩ = some (.slice none 0 0) := bc_ BK149.out 0; have hfz9_0 := blk_frozen BK149.out 0) | ((with_reducible refine gate_callee (f := 46) rfl ?_); refine goesL_ (some 15) rfl rfl Try.func46 (by kernel_rfl) rfl #[.agg #[.slice A148_0 ((rd_T28 l1 x9_1).f0).length c148_0], .int .i64 a0] rfl nc_ ?_; (with_reducible refine (spec_GoodGroup.calls k1 _ _ ((rd_T28 l1 x9_1).f0) a0 true _ ?side1 ?side2 A6.out).mono ?_); (case side1 => exact Kd.C_below HR148_0.out bl_); (case side2 => exact HC148_0.out); rintro e w10 ⟨rfl, hb⟩; refine ⟨_, rfl, ?_⟩; replace BK149 := Aside0.mk (blk_below (g := gb149) (o := .cells #[.slice A148_0 ((rd_T28 l1 x9_1).f0).length c148_0] 28 (0, 0)) (by (with_reducible repeat (first | refine blk_drewN ?_ _ | refine blk_drew ?_ | refine blk_alloc ?_ _)); refine blk_put (cs := #[.slice none 0 0]) ?_ 0 _ rfl; exact kb_ BK149.out) hb); replace HB := Aside0.mk (below_step bl_ hb); clear hb))
 go_roundg k1
 case measure => have := HK1.out; omega
 case rel => exact ⟨(wrap64 (x9_1 + 1)), (by first | rfl | (simp; done) | (simp [*]; done)), H', ⟨by have := HK1.out; omega⟩, ⟨bl_⟩⟩

/-! ### spec_l8Same: function 64 -/
def spec_l8Same.f (k : Nat) (l0_0 : List Int) (l1_0 : List Int) : Option (Bool) := if (l0_0.length : Int) = (l1_0.length : Int) then ((spec_l8Meet.f k l0_0 l1_0).bind fun t154 => (some ((t154.length : Int) == (l0_0.length : Int)))) else (some false)
theorem spec_l8Same.mono : ∀ a0 a1 k, LeO (spec_l8Same.f k a0 a1) (spec_l8Same.f (k + 1) a0 a1) := by
 intro a0 a1 k
 unfold spec_l8Same.f
 repeat' first
   | (with_reducible exact spec_l8Meet.mono _ _ _)
   | (with_reducible exact LeO.refl _)
   | (with_reducible exact LeO.none _)
   | (with_reducible refine LeO.ite ?_ ?_)
   | (with_reducible refine LeO.bind ?_ (fun _ => ?_))
   | exact spec_l8Meet.mono _ _ _
   | exact LeO.none _
   | refine LeO.ite ?_ ?_
   | refine LeO.bind ?_ (fun _ => ?_)
def spec_l8Same.T1 : Bool × List (List Nat × List Nat) := (true, [([], []), ([0], [0]), ([1], [1]), ([], []), ([3], [3]), ([4], [4]), ([2, 5], [2, 5]), ([6], [6]), ([7], [7]), ([7], [7]), ([8, 9, 7, 7], [7, 8, 9]), ([10, 7], [7, 10]), ([11, 7], [7, 11]), ([7], [7]), ([13, 7], [7, 13]), ([14, 7], [7, 14]), ([12, 15, 7], [7, 12, 15]), ([7, 16], [7, 16]), ([17, 10, 0, 1, 2, 3, 4, 5, 6, 7, 8, 9, 10, 11, 12, 13, 14, 15, 16, 17], [17])])
def spec_l8Same.B1 : List Nat := [0, 1, 3, 0, 8, 24, 63, 127, 255, 255, 1023, 2047, 4095, 255, 8447, 24831, 65535, 131071, 262143]
theorem spec_l8Same.tab1 : rtab .any (opsOf Try.f64 1) = spec_l8Same.T1 := by kernel_rfl
theorem spec_l8Same.bits1 : waitsOk spec_l8Same.T1.2 spec_l8Same.B1 = true := by kernel_rfl
set_option maxHeartbeats 8000000 in
set_option maxRecDepth 100000 in
theorem spec_l8Same.calls (k : Nat) (A0_0 : Option Addr) (c0_0 : Nat) (l0_0 : List Int) (A1_0 : Option Addr) (c1_0 : Nat) (l1_0 : List Int) (r : Bool) (w : World) (hr0_0 : Kd.C (Kd.int .i64) w A0_0 l0_0.length l0_0) (hc0_0 : l0_0.length ≤ c0_0) (hr1_0 : Kd.C (Kd.int .i64) w A1_0 l1_0.length l1_0) (hc1_0 : l1_0.length ≤ c1_0) (h : spec_l8Same.f k l0_0 l1_0 = some r) :
  Calls Try.prog 64 #[.agg #[.slice A0_0 l0_0.length c0_0], .agg #[.slice A1_0 l1_0.length c1_0]] w fun e w' => e = .returned (.bool r) ∧ Below w.heap.size w w' := by
 have hu28 := Try.underlying28
 have HR0_0 := Aside0.mk hr0_0
 have HC0_0 := Aside0.mk hc0_0
 clear hr0_0 hc0_0
 have HR1_0 := Aside0.mk hr1_0
 have HC1_0 := Aside0.mk hc1_0
 clear hr1_0 hc1_0
 have HB := Aside0.mk (Below.refl w.heap.size w)
 have H : (if (l0_0.length : Int) = (l1_0.length : Int) then ((spec_l8Meet.f k l0_0 l1_0).bind fun t154 => (some ((t154.length : Int) == (l0_0.length : Int)))) else (some false)) = some r := h
 clear h
 by_cases c3 : (l0_0.length : Int) = (l1_0.length : Int)
 rotate_left
 ·rw [if_neg c3] at H
  have c3b0 : ((l0_0.length : Int) == (l1_0.length : Int)) = false := beq_eq_false_iff_ne.mpr c3
  have c3b1 : ((l0_0.length : Int) != (l1_0.length : Int)) = true := bne_iff_ne.mpr c3
  have c3b2 : (l0_0.length == l1_0.length) = false := by first | simpa using c3 | (simp at c3 ⊢; omega)
  obtain rfl := Option.some.inj H
  go_enter Try.func64, Try.ntmps64
  try go_wp2_with (first | ((with_reducible refine gate_dst (N := 2) rfl ?_); (try (refine gate_guard (by rfl) ?_; dsimp only)); refine box_event rfl (N := 2) rfl (cs := #[.slice A0_0 l0_0.length c0_0]) (t := 28) gs_ ?_; intro gb152 hg w10 hbox hb; have BK152 := Aside0.mk (hbox); have GW152 := Aside0.mk ((by rw [hg]; exact bz_ : w.heap.size ≤ gb152)); have GE152 := GW152; replace HB := Aside0.mk (below_step bl_ hb); clear hb hbox hg) | ((with_reducible refine gate_dst (N := 3) rfl ?_); (try (refine gate_guard (by rfl) ?_; dsimp only)); refine box_event rfl (N := 3) rfl (cs := #[.slice A1_0 l1_0.length c1_0]) (t := 28) gs_ ?_; intro gb153 hg w11 hbox hb; have BK153 := Aside0.mk (hbox); have GW153 := Aside0.mk ((by rw [hg]; exact bz_ : w.heap.size ≤ gb153)); have GE153 := GW153; replace HB := Aside0.mk (below_step bl_ hb); have NB152_153 := nl_ hg BK152; have NB153_152 := nm_ hg BK152; replace BK152 := bb_ BK152 hb; clear hb hbox hg))
  replace BK152 := Aside0.mk (blk_drew BK152.out)
  replace BK153 := Aside0.mk (blk_drew BK153.out)
  replace HB := Aside0.mk (below_drew1 HB.out)
  refine start_ (n := 19) (S := fun w' => w'.cell? ⟨gb152, 0, none⟩ = some (.slice A0_0 l0_0.length c0_0) ∧ w'.cell? ⟨gb153, 0, none⟩ = some (.slice A1_0 l1_0.length c1_0)) (ds := []) #[false, false, false, false, false, false, false, false, false, false, false, false, false, false, false, false, false, false, false] (by kernel_rfl) rfl rfl ⟨bc_ BK152.out 0, bc_ BK153.out 0⟩ (fun hHeld => ?_); refine with_tabW spec_l8Same.tab1 spec_l8Same.bits1 (fun HT_ HW_ => ?_)
  generalize w11.drew = w12 at BK152 BK153 HB hHeld ⊢
  first | refine pu_ 0 (some 5) (h := ?_) | refine pu_ 0 (some 5) (hy := Or.inl ⟨by rfl, by intro w'; go_simp; simp [Instr.field, hu28, Sem.run, underlying]; rfl⟩) (h := ?_)
  first | refine pu_ 3 (some 8) (h := ?_) | refine pu_ 3 (some 8) (hy := Or.inl ⟨by rfl, by intro w'; go_simp; simp [Instr.field, hu28, Sem.run, underlying]; rfl⟩) (h := ?_)
  refine tk2_ 1 (some 6) (h := ?_)
  first | refine pu_ 2 (some 7) (h := ?_) | refine pu_ 2 (some 7) (hy := Or.inl ⟨by rfl, by intro w'; go_simp; simp [Instr.field, hu28, Sem.run, underlying]; rfl⟩) (h := ?_)
  refine tk2_ 4 (some 9) (h := ?_)
  first | refine pu_ 5 (some 10) (h := ?_) | refine pu_ 5 (some 10) (hy := Or.inl ⟨by rfl, by intro w'; go_simp; simp [Instr.field, hu28, Sem.run, underlying]; rfl⟩) (h := ?_)
  first | refine pu_ 6 (some 11) (h := ?_) | refine pu_ 6 (some 11) (hy := Or.inl ⟨by rfl, by intro w'; go_simp; simp [Instr.field, hu28, Sem.run, underlying]; rfl⟩) (h := ?_)
  first | refine pu_ 7 (some 12) (h := ?_) | refine pu_ 7 (some 12) (hy := Or.inl ⟨by rfl, by intro w'; go_simp; simp [Instr.field, hu28, Sem.run, underlying]; rfl⟩) (h := ?_)
  refine px_ 8 (some 13) (h := ?_)
  refine px_ 9 (some 14) (h := ?_)
  refine px_ 10 (some 15) (h := ?_)
  refine px_ 11 (some 16) (h := ?_)
  refine px_ 12 (some 17) (h := ?_)
  refine px_ 13 (some 18) (h := ?_)
  refine px_ 14 (some 19) (h := ?_)
  refine px_ 15 (some 20) (h := ?_)
  refine px_ 16 (some 21) (h := ?_)
  first | refine pu_ 17 (some 22) (h := ?_) | refine pu_ 17 (some 22) (hy := Or.inl ⟨by rfl, by intro w'; go_simp; simp [Instr.field, hu28, Sem.run, underlying]; rfl⟩) (h := ?_)
  first | refine pu_ 18 (some 4) (h := ?_) | refine pu_ 18 (some 4) (hy := Or.inl ⟨by rfl, by intro w'; go_simp; simp [Instr.field, hu28, Sem.run, underlying]; rfl⟩) (h := ?_)
  refine done_ (done_of HT_.out (by kernel_rfl)) ?_
  try go_wp2
  go_ret
  exact ⟨ng_, bl_⟩
 rw [if_pos c3] at H
 have c3b0 : ((l0_0.length : Int) == (l1_0.length : Int)) = true := beq_iff_eq.mpr c3
 have c3b1 : ((l0_0.length : Int) != (l1_0.length : Int)) = false := bne_eq_false_iff_eq.mpr c3
 have c3b2 : (l0_0.length == l1_0.length) = true := by first | simpa using c3 | (simp at c3 ⊢; omega)
 clear c3
 replace H := Option.bind_eq_some_iff.mp H
 obtain ⟨t154, A40, H⟩ := H
 replace H : (some ((t154.length : Int) == (l0_0.length : Int))) = some r := H
 have A4 := Aside0.mk A40
 clear A40
 obtain rfl := Option.some.inj H
 go_enter Try.func64, Try.ntmps64
 try go_wp2_with (first | ((with_reducible refine gate_dst (N := 2) rfl ?_); (try (refine gate_guard (by rfl) ?_; dsimp only)); refine box_event rfl (N := 2) rfl (cs := #[.slice A0_0 l0_0.length c0_0]) (t := 28) gs_ ?_; intro gb152 hg w5 hbox hb; have BK152 := Aside0.mk (hbox); have GW152 := Aside0.mk ((by rw [hg]; exact bz_ : w.heap.size ≤ gb152)); have GE152 := GW152; replace HB := Aside0.mk (below_step bl_ hb); clear hb hbox hg) | ((with_reducible refine gate_dst (N := 3) rfl ?_); (try (refine gate_guard (by rfl) ?_; dsimp only)); refine box_event rfl (N := 3) rfl (cs := #[.slice A1_0 l1_0.length c1_0]) (t := 28) gs_ ?_; intro gb153 hg w6 hbox hb; have BK153 := Aside0.mk (hbox); have GW153 := Aside0.mk ((by rw [hg]; exact bz_ : w.heap.size ≤ gb153)); have GE153 := GW153; replace HB := Aside0.mk (below_step bl_ hb); have NB152_153 := nl_ hg BK152; have NB153_152 := nm_ hg BK152; replace BK152 := bb_ BK152 hb; clear hb hbox hg))
 replace BK152 := Aside0.mk (blk_drew BK152.out)
 replace BK153 := Aside0.mk (blk_drew BK153.out)
 replace HB := Aside0.mk (below_drew1 HB.out)
 refine start_ (n := 19) (S := fun w' => w'.cell? ⟨gb152, 0, none⟩ = some (.slice A0_0 l0_0.length c0_0) ∧ w'.cell? ⟨gb153, 0, none⟩ = some (.slice A1_0 l1_0.length c1_0)) (ds := []) #[false, false, false, false, false, false, false, false, false, false, false, false, false, false, false, false, false, false, false] (by kernel_rfl) rfl rfl ⟨bc_ BK152.out 0, bc_ BK153.out 0⟩ (fun hHeld => ?_); refine with_tabW spec_l8Same.tab1 spec_l8Same.bits1 (fun HT_ HW_ => ?_)
 generalize w6.drew = w7 at BK152 BK153 HB hHeld ⊢
 first | refine pu_ 0 (some 5) (h := ?_) | refine pu_ 0 (some 5) (hy := Or.inl ⟨by rfl, by intro w'; go_simp; simp [Instr.field, hu28, Sem.run, underlying]; rfl⟩) (h := ?_)
 first | refine pu_ 3 (some 8) (h := ?_) | refine pu_ 3 (some 8) (hy := Or.inl ⟨by rfl, by intro w'; go_simp; simp [Instr.field, hu28, Sem.run, underlying]; rfl⟩) (h := ?_)
 refine tk2_ 1 (some 6) (h := ?_)
 first | refine pu_ 2 (some 7) (h := ?_) | refine pu_ 2 (some 7) (hy := Or.inl ⟨by rfl, by intro w'; go_simp; simp [Instr.field, hu28, Sem.run, underlying]; rfl⟩) (h := ?_)
 refine tk2_ 4 (some 9) (h := ?_)
 first | refine pu_ 5 (some 10) (h := ?_) | refine pu_ 5 (some 10) (hy := Or.inl ⟨by rfl, by intro w'; go_simp; simp [Instr.field, hu28, Sem.run, underlying]; rfl⟩) (h := ?_)
 first | refine pu_ 6 (some 11) (h := ?_) | refine pu_ 6 (some 11) (hy := Or.inl ⟨by rfl, by intro w'; go_simp; simp [Instr.field, hu28, Sem.run, underlying]; rfl⟩) (h := ?_)
 first | refine pu_ 7 (some 12) (h := ?_) | refine pu_ 7 (some 12) (hy := Or.inl ⟨by rfl, by intro w'; go_simp; simp [Instr.field, hu28, Sem.run, underlying]; rfl⟩) (h := ?_)
 first | refine pu_ 13 (some 18) (h := ?_) | refine pu_ 13 (some 18) (hy := Or.inl ⟨by rfl, by intro w'; go_simp; simp [Instr.field, hu28, Sem.run, underlying]; rfl⟩) (h := ?_)
 refine tk2_ 8 (some 13) (h := ?_)
 refine tk2_ 9 (some 14) (h := ?_)
 refine tk2_ 14 (some 19) (h := ?_)
 first | refine pu_ 15 (some 20) (h := ?_) | refine pu_ 15 (some 20) (hy := Or.inl ⟨by rfl, by intro w'; go_simp; simp [Instr.field, hu28, Sem.run, underlying]; rfl⟩) (h := ?_)
 refine on_ 10 (some 15) (h := fun K hK => ?_)
 refine goes_ Try.func58 (by kernel_rfl) rfl #[.agg #[.slice A0_0 l0_0.length c0_0], .agg #[.slice A1_0 l1_0.length c1_0]] (by rfl) rfl rfl nc_ ?_
 with_reducible refine (spec_l8Meet.calls k _ _ l0_0 _ _ l1_0 t154 _ ?side1 ?side2 ?side3 ?side4 A4.out).mono ?_
 (case side1 => exact kc_ (Kd.C_below HR0_0.out HB.out))
 (case side2 => exact HC0_0.out)
 (case side3 => exact kc_ (Kd.C_below HR1_0.out HB.out))
 (case side4 => exact HC1_0.out)
 rintro e w8 ⟨v155, rfl, ho0, hb⟩
 refine ⟨_, rfl, ?_⟩
 have HO156 := Aside0.mk (Kd.R_lower ho0 bz_)
 replace BK152 := bb_ BK152 hb
 replace BK153 := bb_ BK153 hb
 replace HB := Aside0.mk (below_step bl_ hb)
 clear hb ho0
 obtain ⟨Ao9, co9, eo9⟩ := Kd.R_slice HO156.out
 (first | subst eo9 | (injection eo9 with f1_ f2_ f3_; have f4_ := f1_.symm; have f5_ := f3_.symm; clear f1_ f2_ f3_; subst f4_; subst f5_))
 refine hK.out _ _ ⟨bc_ BK152.out 0, bc_ BK153.out 0⟩ (fun hHeld => ?_)
 clear hK K
 refine norm_ nn_ ?_
 first | refine pu_ 11 (some 16) (h := ?_) | refine pu_ 11 (some 16) (hy := Or.inl ⟨by rfl, by intro w'; go_simp; simp [Instr.field, hu28, Sem.run, underlying]; rfl⟩) (h := ?_)
 first | refine pu_ 12 (some 17) (h := ?_) | refine pu_ 12 (some 17) (hy := Or.inl ⟨by rfl, by intro w'; go_simp; simp [Instr.field, hu28, Sem.run, underlying]; rfl⟩) (h := ?_)
 first | refine pu_ 16 (some 21) (h := ?_) | refine pu_ 16 (some 21) (hy := Or.inl ⟨by rfl, by intro w'; go_simp; simp [Instr.field, hu28, Sem.run, underlying]; rfl⟩) (h := ?_)
 first | refine pu_ 17 (some 22) (h := ?_) | refine pu_ 17 (some 22) (hy := Or.inl ⟨by rfl, by intro w'; go_simp; simp [Instr.field, hu28, Sem.run, underlying]; rfl⟩) (h := ?_)
 first | refine pu_ 18 (some 4) (h := ?_) | refine pu_ 18 (some 4) (hy := Or.inl ⟨by rfl, by intro w'; go_simp; simp [Instr.field, hu28, Sem.run, underlying]; rfl⟩) (h := ?_)
 refine done_ (done_of HT_.out (by kernel_rfl)) ?_
 try go_wp2
 go_ret
 exact ⟨ng_, bl_⟩

end Go.Proofs.Ythbollaceiffpaa.PMO
