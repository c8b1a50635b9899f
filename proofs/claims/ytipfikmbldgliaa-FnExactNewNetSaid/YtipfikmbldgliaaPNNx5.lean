/- What this text proves: the machine calls of these functions return what the plain functions say. Conditions: as each theorem says. Printed by a program of this session out of the translation. -/
import Derived.Test.YtipfikmbldgliaaPNNx0
namespace Go.Proofs.Ytipfikmbldgliaa.PNN
open Go.RowKit Go.Proofs.YtipfikmbldgliaaW.PrintWords Go.Proofs.YtipfikmbldgliaaW.PrintLast Go.Proofs.YtipfikmbldgliaaW.PrintMore
attribute [local go_sem] max2_int min2_int max_two min_two max_three min_three max_four min_four   -- for this text's walks alone
set_option linter.unusedVariables false
set_option linter.unusedSimpArgs false

/-! ### laws_heldBankS: function 69 -/
def laws_heldBankS.l0 : Nat → List (S92) → Int → Int → Option (Int)
 | 0, _, _, _ => none
 | k + 1, x0, x1, x5 => if x5 < (x0.length : Int) then (if 0 ≤ x5 then (if ((rd_T92 x0 x5).f0) = x1 then (if (((rd_T92 x0 x5).f1) != ((Int.tmod (wrap64 (x1 + 1)) 3) == 0)) = true then (some (-1)) else (if ((rd_T92 x0 x5).f2) = (wrap64 ((wrap64 (x1 + 1)) + 1)) then (laws_heldBankS.l0 k x0 (wrap64 ((wrap64 ((wrap64 (x1 + 1)) + 1)) + 1)) (wrap64 (x5 + 1))) else (some (-1)))) else (some (-1))) else (none)) else (some x1)
def laws_heldBankS.f (k : Nat) (l0 : List (S92)) (a1 : Int) : Option (Int) := laws_heldBankS.l0 k l0 a1 0
theorem laws_heldBankS.mono_l : ∀ k, (∀ y0 y1 y2, LeO (laws_heldBankS.l0 k y0 y1 y2) (laws_heldBankS.l0 (k + 1) y0 y1 y2))
 | 0 => fun _ _ _ r h => by simp [laws_heldBankS.l0] at h
 | k + 1 => by
  have ih0 := laws_heldBankS.mono_l k
  ·intro y0 y1 y2
   unfold laws_heldBankS.l0
   repeat' first
   | (with_reducible exact ih0 _ _ _)
   | (with_reducible exact LeO.refl _)
   | (with_reducible exact LeO.none _)
   | (with_reducible refine LeO.ite ?_ ?_)
   | (with_reducible refine LeO.bind ?_ (fun _ => ?_))
   | exact ih0 _ _ _
   | exact LeO.none _
   | refine LeO.ite ?_ ?_
   | refine LeO.bind ?_ (fun _ => ?_)
theorem laws_heldBankS.mono : ∀ a0 a1 k, LeO (laws_heldBankS.f k a0 a1) (laws_heldBankS.f (k + 1) a0 a1) := by
 intro a0 a1 k
 have ih0 := laws_heldBankS.mono_l k
 unfold laws_heldBankS.f
 repeat' first
   | (with_reducible exact ih0 _ _ _)
   | (with_reducible exact LeO.refl _)
   | (with_reducible exact LeO.none _)
   | (with_reducible refine LeO.ite ?_ ?_)
   | (with_reducible refine LeO.bind ?_ (fun _ => ?_))
   | exact ih0 _ _ _
   | exact LeO.none _
   | refine LeO.ite ?_ ?_
   | refine LeO.bind ?_ (fun _ => ?_)
set_option maxHeartbeats 8000000 in
set_option maxRecDepth 100000 in
theorem laws_heldBankS.calls (k : Nat) (A0 : Option Addr) (c0 : Nat) (l0 : List (S92)) (a1 : Int) (r : Int) (w : World) (hr0 : Kd.C k92 w A0 l0.length l0) (hc0 : l0.length ≤ c0) (h : laws_heldBankS.f k l0 a1 = some r) :
  Calls Try.prog 69 #[.slice A0 l0.length c0, .int .i64 a1] w fun e w' => e = .returned (.int .i64 r) ∧ Drawn0 w w' := by
 have HR0 := Aside0.mk hr0
 have HC0 := Aside0.mk hc0
 clear hr0 hc0
 have H : (laws_heldBankS.l0 k l0 a1 0) = some r := h
 clear h
 have H' := Aside0.mk H
 clear H
 go_enter Try.func69, Try.ntmps69
 go_wp2
 go_loopg [1, 5] k (fun kq v1 v5 w' => ∃ (x1_1 : Int) (x5_1 : Int), v1 = .int .i64 x1_1 ∧ v5 = .int .i64 x5_1 ∧ Aside0 (laws_heldBankS.l0 kq l0 x1_1 x5_1 = some r) ∧ Aside0 (kq ≤ k) ∧ Drawn0 w w')
 case atStart => exact ⟨(a1), (0), (by first | rfl | (simp; done) | (simp [*]; done)), (by first | rfl | (simp; done) | (simp [*]; done)), H', ⟨Nat.le_refl _⟩, by repeat (first | exact Drawn0.refl _ | apply Drawn0.step)⟩
 clear H'
 try clear p2
 obtain ⟨x1_1, x5_1, rfl, rfl, HA, HK1, ⟨m1, rfl⟩⟩ := hrel
 cases gk with
 | zero => exact absurd HA.out (by simp [laws_heldBankS.l0])
 | succ k1 => ?_
 have H := HA.out
 clear HA
 simp only [laws_heldBankS.l0] at H
 by_cases c3 : x5_1 < (l0.length : Int)
 rotate_left
 ·rw [if_neg c3] at H
  have c3b0 : decide (x5_1 < (l0.length : Int)) = false := decide_eq_false c3
  clear c3
  obtain rfl := Option.some.inj H
  go_wp2
  go_ret
  exact ⟨by first | rfl | (simp; done) | (simp [*]; done), by repeat (first | exact Drawn0.refl _ | apply Drawn0.step)⟩
 rw [if_pos c3] at H
 have c3b0 : decide (x5_1 < (l0.length : Int)) = true := decide_eq_true c3
 clear c3
 by_cases c4 : 0 ≤ x5_1
 rotate_left
 ·rw [if_neg c4] at H
  exact absurd H (by simp)
 rw [if_pos c4] at H
 have c4b0 : decide (0 ≤ x5_1) = true := decide_eq_true c4
 clear c4
 by_cases c5 : ((rd_T92 l0 x5_1).f0) = x1_1
 rotate_left
 ·rw [if_neg c5] at H
  have c5b0 : (((rd_T92 l0 x5_1).f0) == x1_1) = false := beq_eq_false_iff_ne.mpr c5
  have c5b1 : (((rd_T92 l0 x5_1).f0) != x1_1) = true := bne_iff_ne.mpr c5
  obtain rfl := Option.some.inj H
  have p168 : 0 ≤ (x5_1 : Int) := of_decide_eq_true (by first | (with_reducible assumption) | assumption)
  have q168 : x5_1 < (l0.length : Int) := of_decide_eq_true (by first | (with_reducible assumption) | assumption)
  obtain ⟨ad168, e168, hx168_0, hx168_1, hx168_2⟩ := at_T92 HR0.out x5_1 p168 q168
  cases e168
  replace p168 := eq_true p168
  replace q168 := eq_true q168
  go_wp2
  go_ret
  exact ⟨by first | rfl | (simp; done) | (simp [*]; done), by repeat (first | exact Drawn0.refl _ | apply Drawn0.step)⟩
 rw [if_pos c5] at H
 have c5b0 : (((rd_T92 l0 x5_1).f0) == x1_1) = true := beq_iff_eq.mpr c5
 have c5b1 : (((rd_T92 l0 x5_1).f0) != x1_1) = false := bne_eq_false_iff_eq.mpr c5
 clear c5
 by_cases c6 : (((rd_T92 l0 x5_1).f1) != ((Int.tmod (wrap64 (x1_1 + 1)) 3) == 0)) = true
 ·rw [if_pos c6] at H
  have c6b0 : (((rd_T92 l0 x5_1).f1) != ((Int.tmod (wrap64 (x1_1 + 1)) 3) == 0)) = true := c6
  (try (have c6b1 : decide (((rd_T92 l0 x5_1).f1) = ((Int.tmod (wrap64 (x1_1 + 1)) 3) == 0)) = false := by simpa using c6))
  (try (have c6b2 : (((rd_T92 l0 x5_1).f1) == ((Int.tmod (wrap64 (x1_1 + 1)) 3) == 0)) = false := by simpa using c6))
  (try (have c6b3 : ¬ (((rd_T92 l0 x5_1).f1) = ((Int.tmod (wrap64 (x1_1 + 1)) 3) == 0)) := by simpa using c6))
  clear c6
  obtain rfl := Option.some.inj H
  have p168 : 0 ≤ (x5_1 : Int) := of_decide_eq_true (by first | (with_reducible assumption) | assumption)
  have q168 : x5_1 < (l0.length : Int) := of_decide_eq_true (by first | (with_reducible assumption) | assumption)
  obtain ⟨ad168, e168, hx168_0, hx168_1, hx168_2⟩ := at_T92 HR0.out x5_1 p168 q168
  cases e168
  replace p168 := eq_true p168
  replace q168 := eq_true q168
  have p169 : 0 ≤ (x5_1 : Int) := of_decide_eq_true (by first | (with_reducible assumption) | assumption)
  have q169 : x5_1 < (l0.length : Int) := of_decide_eq_true (by first | (with_reducible assumption) | assumption)
  obtain ⟨ad169, e169, hx169_0, hx169_1, hx169_2⟩ := at_T92 HR0.out x5_1 p169 q169
  obtain rfl : ad168 = ad169 := (by injection e169)
  replace p169 := eq_true p169
  replace q169 := eq_true q169
  go_wp2
  go_ret
  exact ⟨by first | rfl | (simp; done) | (simp [*]; done), by repeat (first | exact Drawn0.refl _ | apply Drawn0.step)⟩
 rw [if_neg c6] at H
 have c6b0 : (((rd_T92 l0 x5_1).f1) != ((Int.tmod (wrap64 (x1_1 + 1)) 3) == 0)) = false := by simpa using c6
 (try (have c6b1 : decide (((rd_T92 l0 x5_1).f1) = ((Int.tmod (wrap64 (x1_1 + 1)) 3) == 0)) = true := by simpa using c6))
 (try (have c6b2 : (((rd_T92 l0 x5_1).f1) == ((Int.tmod (wrap64 (x1_1 + 1)) 3) == 0)) = true := by simpa using c6))
 clear c6
 by_cases c7 : ((rd_T92 l0 x5_1).f2) = (wrap64 ((wrap64 (x1_1 + 1)) + 1))
 rotate_left
 ·rw [if_neg c7] at H
  have c7b0 : (((rd_T92 l0 x5_1).f2) == (wrap64 ((wrap64 (x1_1 + 1)) + 1))) = false := beq_eq_false_iff_ne.mpr c7
  have c7b1 : (((rd_T92 l0 x5_1).f2) != (wrap64 ((wrap64 (x1_1 + 1)) + 1))) = true := bne_iff_ne.mpr c7
  obtain rfl := Option.some.inj H
  have p168 : 0 ≤ (x5_1 : Int) := of_decide_eq_true (by first | (with_reducible assumption) | assumption)
  have q168 : x5_1 < (l0.length : Int) := of_decide_eq_true (by first | (with_reducible assumption) | assumption)
  obtain ⟨ad168, e168, hx168_0, hx168_1, hx168_2⟩ := at_T92 HR0.out x5_1 p168 q168
  cases e168
  replace p168 := eq_true p168
  replace q168 := eq_true q168
  have p169 : 0 ≤ (x5_1 : Int) := of_decide_eq_true (by first | (with_reducible assumption) | assumption)
  have q169 : x5_1 < (l0.length : Int) := of_decide_eq_true (by first | (with_reducible assumption) | assumption)
  obtain ⟨ad169, e169, hx169_0, hx169_1, hx169_2⟩ := at_T92 HR0.out x5_1 p169 q169
  obtain rfl : ad168 = ad169 := (by injection e169)
  replace p169 := eq_true p169
  replace q169 := eq_true q169
  have p170 : 0 ≤ (x5_1 : Int) := of_decide_eq_true (by first | (with_reducible assumption) | assumption)
  have q170 : x5_1 < (l0.length : Int) := of_decide_eq_true (by first | (with_reducible assumption) | assumption)
  obtain ⟨ad170, e170, hx170_0, hx170_1, hx170_2⟩ := at_T92 HR0.out x5_1 p170 q170
  obtain rfl : ad168 = ad170 := (by injection e170)
  replace p170 := eq_true p170
  replace q170 := eq_true q170
  go_wp2
  go_ret
  exact ⟨by first | rfl | (simp; done) | (simp [*]; done), by repeat (first | exact Drawn0.refl _ | apply Drawn0.step)⟩
 rw [if_pos c7] at H
 have c7b0 : (((rd_T92 l0 x5_1).f2) == (wrap64 ((wrap64 (x1_1 + 1)) + 1))) = true := beq_iff_eq.mpr c7
 have c7b1 : (((rd_T92 l0 x5_1).f2) != (wrap64 ((wrap64 (x1_1 + 1)) + 1))) = false := bne_eq_false_iff_eq.mpr c7
 clear c7
 have H' := Aside0.mk H
 clear H
 have p168 : 0 ≤ (x5_1 : Int) := of_decide_eq_true (by first | (with_reducible assumption) | assumption)
 have q168 : x5_1 < (l0.length : Int) := of_decide_eq_true (by first | (with_reducible assumption) | assumption)
 obtain ⟨ad168, e168, hx168_0, hx168_1, hx168_2⟩ := at_T92 HR0.out x5_1 p168 q168
 cases e168
 replace p168 := eq_true p168
 replace q168 := eq_true q168
 have p169 : 0 ≤ (x5_1 : Int) := of_decide_eq_true (by first | (with_reducible assumption) | assumption)
 have q169 : x5_1 < (l0.length : Int) := of_decide_eq_true (by first | (with_reducible assumption) | assumption)
 obtain ⟨ad169, e169, hx169_0, hx169_1, hx169_2⟩ := at_T92 HR0.out x5_1 p169 q169
 obtain rfl : ad168 = ad169 := (by injection e169)
 replace p169 := eq_true p169
 replace q169 := eq_true q169
 have p170 : 0 ≤ (x5_1 : Int) := of_decide_eq_true (by first | (with_reducible assumption) | assumption)
 have q170 : x5_1 < (l0.length : Int) := of_decide_eq_true (by first | (with_reducible assumption) | assumption)
 obtain ⟨ad170, e170, hx170_0, hx170_1, hx170_2⟩ := at_T92 HR0.out x5_1 p170 q170
 obtain rfl : ad168 = ad170 := (by injection e170)
 replace p170 := eq_true p170
 replace q170 := eq_true q170
 go_wp2
 go_roundg k1
 case measure => have := HK1.out; omega
 case rel => exact ⟨(wrap64 ((wrap64 ((wrap64 (x1_1 + 1)) + 1)) + 1)), (wrap64 (x5_1 + 1)), (by first | rfl | (simp; done) | (simp [*]; done)), (by first | rfl | (simp; done) | (simp [*]; done)), H', ⟨by have := HK1.out; omega⟩, by repeat (first | exact Drawn0.refl _ | apply Drawn0.step)⟩

/-! ### laws_heldIntS: function 80 -/
def laws_heldIntS.l0 : Nat → List Int → Int → Int → Option (Int)
 | 0, _, _, _ => none
 | k + 1, x0, x1, x5 => if x5 < (x0.length : Int) then (if 0 ≤ x5 then (if (rd x0 x5) = x1 then (laws_heldIntS.l0 k x0 (wrap64 (x1 + 1)) (wrap64 (x5 + 1))) else (some (-1))) else (none)) else (some x1)
def laws_heldIntS.f (k : Nat) (l0 : List Int) (a1 : Int) : Option (Int) := laws_heldIntS.l0 k l0 a1 0
theorem laws_heldIntS.mono_l : ∀ k, (∀ y0 y1 y2, LeO (laws_heldIntS.l0 k y0 y1 y2) (laws_heldIntS.l0 (k + 1) y0 y1 y2))
 | 0 => fun _ _ _ r h => by simp [laws_heldIntS.l0] at h
 | k + 1 => by
  have ih0 := laws_heldIntS.mono_l k
  ·intro y0 y1 y2
   unfold laws_heldIntS.l0
   repeat' first
   | (with_reducible exact ih0 _ _ _)
   | (with_reducible exact LeO.refl _)
   | (with_reducible exact LeO.none _)
   | (with_reducible refine LeO.ite ?_ ?_)
   | (with_reducible refine LeO.bind ?_ (fun _ => ?_))
   | exact ih0 _ _ _
   | exact LeO.none _
   | refine LeO.ite ?_ ?_
   | refine LeO.bind ?_ (fun _ => ?_)
theorem laws_heldIntS.mono : ∀ a0 a1 k, LeO (laws_heldIntS.f k a0 a1) (laws_heldIntS.f (k + 1) a0 a1) := by
 intro a0 a1 k
 have ih0 := laws_heldIntS.mono_l k
 unfold laws_heldIntS.f
 repeat' first
   | (with_reducible exact ih0 _ _ _)
   | (with_reducible exact LeO.refl _)
   | (with_reducible exact LeO.none _)
   | (with_reducible refine LeO.ite ?_ ?_)
   | (with_reducible refine LeO.bind ?_ (fun _ => ?_))
   | exact ih0 _ _ _
   | exact LeO.none _
   | refine LeO.ite ?_ ?_
   | refine LeO.bind ?_ (fun _ => ?_)
set_option maxHeartbeats 8000000 in
set_option maxRecDepth 100000 in
theorem laws_heldIntS.calls (k : Nat) (A0 : Option Addr) (c0 : Nat) (l0 : List Int) (a1 : Int) (r : Int) (w : World) (hr0 : Kd.C (Kd.int .i64) w A0 l0.length l0) (hc0 : l0.length ≤ c0) (h : laws_heldIntS.f k l0 a1 = some r) :
  Calls Try.prog 80 #[.slice A0 l0.length c0, .int .i64 a1] w fun e w' => e = .returned (.int .i64 r) ∧ Drawn0 w w' := by
 have HR0 := Aside0.mk hr0
 have HC0 := Aside0.mk hc0
 clear hr0 hc0
 have H : (laws_heldIntS.l0 k l0 a1 0) = some r := h
 clear h
 have H' := Aside0.mk H
 clear H
 go_enter Try.func80, Try.ntmps80
 go_wp2
 go_loopg [1, 5] k (fun kq v1 v5 w' => ∃ (x1_1 : Int) (x5_1 : Int), v1 = .int .i64 x1_1 ∧ v5 = .int .i64 x5_1 ∧ Aside0 (laws_heldIntS.l0 kq l0 x1_1 x5_1 = some r) ∧ Aside0 (kq ≤ k) ∧ Drawn0 w w')
 case atStart => exact ⟨(a1), (0), (by first | rfl | (simp; done) | (simp [*]; done)), (by first | rfl | (simp; done) | (simp [*]; done)), H', ⟨Nat.le_refl _⟩, by repeat (first | exact Drawn0.refl _ | apply Drawn0.step)⟩
 clear H'
 try clear p2
 obtain ⟨x1_1, x5_1, rfl, rfl, HA, HK1, ⟨m1, rfl⟩⟩ := hrel
 cases gk with
 | zero => exact absurd HA.out (by simp [laws_heldIntS.l0])
 | succ k1 => ?_
 have H := HA.out
 clear HA
 simp only [laws_heldIntS.l0] at H
 by_cases c3 : x5_1 < (l0.length : Int)
 rotate_left
 ·rw [if_neg c3] at H
  have c3b0 : decide (x5_1 < (l0.length : Int)) = false := decide_eq_false c3
  clear c3
  obtain rfl := Option.some.inj H
  go_wp2
  go_ret
  exact ⟨by first | rfl | (simp; done) | (simp [*]; done), by repeat (first | exact Drawn0.refl _ | apply Drawn0.step)⟩
 rw [if_pos c3] at H
 have c3b0 : decide (x5_1 < (l0.length : Int)) = true := decide_eq_true c3
 clear c3
 by_cases c4 : 0 ≤ x5_1
 rotate_left
 ·rw [if_neg c4] at H
  exact absurd H (by simp)
 rw [if_pos c4] at H
 have c4b0 : decide (0 ≤ x5_1) = true := decide_eq_true c4
 clear c4
 by_cases c5 : (rd l0 x5_1) = x1_1
 rotate_left
 ·rw [if_neg c5] at H
  have c5b0 : ((rd l0 x5_1) == x1_1) = false := beq_eq_false_iff_ne.mpr c5
  have c5b1 : ((rd l0 x5_1) != x1_1) = true := bne_iff_ne.mpr c5
  obtain rfl := Option.some.inj H
  have p171 : 0 ≤ (x5_1 : Int) := of_decide_eq_true (by first | (with_reducible assumption) | assumption)
  have q171 : x5_1 < (l0.length : Int) := of_decide_eq_true (by first | (with_reducible assumption) | assumption)
  obtain ⟨ad171, e171, hx171_0⟩ := Kd.at_int HR0.out x5_1 p171 q171
  cases e171
  replace p171 := eq_true p171
  replace q171 := eq_true q171
  go_wp2
  go_ret
  exact ⟨by first | rfl | (simp; done) | (simp [*]; done), by repeat (first | exact Drawn0.refl _ | apply Drawn0.step)⟩
 rw [if_pos c5] at H
 have c5b0 : ((rd l0 x5_1) == x1_1) = true := beq_iff_eq.mpr c5
 have c5b1 : ((rd l0 x5_1) != x1_1) = false := bne_eq_false_iff_eq.mpr c5
 clear c5
 have H' := Aside0.mk H
 clear H
 have p171 : 0 ≤ (x5_1 : Int) := of_decide_eq_true (by first | (with_reducible assumption) | assumption)
 have q171 : x5_1 < (l0.length : Int) := of_decide_eq_true (by first | (with_reducible assumption) | assumption)
 obtain ⟨ad171, e171, hx171_0⟩ := Kd.at_int HR0.out x5_1 p171 q171
 cases e171
 replace p171 := eq_true p171
 replace q171 := eq_true q171
 go_wp2
 go_roundg k1
 case measure => have := HK1.out; omega
 case rel => exact ⟨(wrap64 (x1_1 + 1)), (wrap64 (x5_1 + 1)), (by first | rfl | (simp; done) | (simp [*]; done)), (by first | rfl | (simp; done) | (simp [*]; done)), H', ⟨by have := HK1.out; omega⟩, by repeat (first | exact Drawn0.refl _ | apply Drawn0.step)⟩

/-! ### laws_heldParcelS: function 93 -/
def laws_heldParcelS.l0 : Nat → List (S103) → Int → Int → Option (Int)
 | 0, _, _, _ => none
 | k + 1, x0, x1, x5 => if x5 < (x0.length : Int) then (if 0 ≤ x5 then (if (((rd_T103 x0 x5).f0) != ((Int.tmod x1 3) == 0)) = true then (some (-1)) else (if ((rd_T103 x0 x5).f1) = (wrap64 (x1 + 1)) then (laws_heldParcelS.l0 k x0 (wrap64 ((wrap64 (x1 + 1)) + 1)) (wrap64 (x5 + 1))) else (some (-1)))) else (none)) else (some x1)
def laws_heldParcelS.f (k : Nat) (l0 : List (S103)) (a1 : Int) : Option (Int) := laws_heldParcelS.l0 k l0 a1 0
theorem laws_heldParcelS.mono_l : ∀ k, (∀ y0 y1 y2, LeO (laws_heldParcelS.l0 k y0 y1 y2) (laws_heldParcelS.l0 (k + 1) y0 y1 y2))
 | 0 => fun _ _ _ r h => by simp [laws_heldParcelS.l0] at h
 | k + 1 => by
  have ih0 := laws_heldParcelS.mono_l k
  ·intro y0 y1 y2
   unfold laws_heldParcelS.l0
   repeat' first
   | (with_reducible exact ih0 _ _ _)
   | (with_reducible exact LeO.refl _)
   | (with_reducible exact LeO.none _)
   | (with_reducible refine LeO.ite ?_ ?_)
   | (with_reducible refine LeO.bind ?_ (fun _ => ?_))
   | exact ih0 _ _ _
   | exact LeO.none _
   | refine LeO.ite ?_ ?_
   | refine LeO.bind ?_ (fun _ => ?_)
theorem laws_heldParcelS.mono : ∀ a0 a1 k, LeO (laws_heldParcelS.f k a0 a1) (laws_heldParcelS.f (k + 1) a0 a1) := by
 intro a0 a1 k
 have ih0 := laws_heldParcelS.mono_l k
 unfold laws_heldParcelS.f
 repeat' first
   | (with_reducible exact ih0 _ _ _)
   | (with_reducible exact LeO.refl _)
   | (with_reducible exact LeO.none _)
   | (with_reducible refine LeO.ite ?_ ?_)
   | (with_reducible refine LeO.bind ?_ (fun _ => ?_))
   | exact ih0 _ _ _
   | exact LeO.none _
   | refine LeO.ite ?_ ?_
   | refine LeO.bind ?_ (fun _ => ?_)
set_option maxHeartbeats 8000000 in
set_option maxRecDepth 100000 in
theorem laws_heldParcelS.calls (k : Nat) (A0 : Option Addr) (c0 : Nat) (l0 : List (S103)) (a1 : Int) (r : Int) (w : World) (hr0 : Kd.C k103 w A0 l0.length l0) (hc0 : l0.length ≤ c0) (h : laws_heldParcelS.f k l0 a1 = some r) :
  Calls Try.prog 93 #[.slice A0 l0.length c0, .int .i64 a1] w fun e w' => e = .returned (.int .i64 r) ∧ Drawn0 w w' := by
 have HR0 := Aside0.mk hr0
 have HC0 := Aside0.mk hc0
 clear hr0 hc0
 have H : (laws_heldParcelS.l0 k l0 a1 0) = some r := h
 clear h
 have H' := Aside0.mk H
 clear H
 go_enter Try.func93, Try.ntmps93
 go_wp2
 go_loopg [1, 5] k (fun kq v1 v5 w' => ∃ (x1_1 : Int) (x5_1 : Int), v1 = .int .i64 x1_1 ∧ v5 = .int .i64 x5_1 ∧ Aside0 (laws_heldParcelS.l0 kq l0 x1_1 x5_1 = some r) ∧ Aside0 (kq ≤ k) ∧ Drawn0 w w')
 case atStart => exact ⟨(a1), (0), (by first | rfl | (simp; done) | (simp [*]; done)), (by first | rfl | (simp; done) | (simp [*]; done)), H', ⟨Nat.le_refl _⟩, by repeat (first | exact Drawn0.refl _ | apply Drawn0.step)⟩
 clear H'
 try clear p2
 obtain ⟨x1_1, x5_1, rfl, rfl, HA, HK1, ⟨m1, rfl⟩⟩ := hrel
 cases gk with
 | zero => exact absurd HA.out (by simp [laws_heldParcelS.l0])
 | succ k1 => ?_
 have H := HA.out
 clear HA
 simp only [laws_heldParcelS.l0] at H
 by_cases c3 : x5_1 < (l0.length : Int)
 rotate_left
 ·rw [if_neg c3] at H
  have c3b0 : decide (x5_1 < (l0.length : Int)) = false := decide_eq_false c3
  clear c3
  obtain rfl := Option.some.inj H
  go_wp2
  go_ret
  exact ⟨by first | rfl | (simp; done) | (simp [*]; done), by repeat (first | exact Drawn0.refl _ | apply Drawn0.step)⟩
 rw [if_pos c3] at H
 have c3b0 : decide (x5_1 < (l0.length : Int)) = true := decide_eq_true c3
 clear c3
 by_cases c4 : 0 ≤ x5_1
 rotate_left
 ·rw [if_neg c4] at H
  exact absurd H (by simp)
 rw [if_pos c4] at H
 have c4b0 : decide (0 ≤ x5_1) = true := decide_eq_true c4
 clear c4
 by_cases c5 : (((rd_T103 l0 x5_1).f0) != ((Int.tmod x1_1 3) == 0)) = true
 ·rw [if_pos c5] at H
  have c5b0 : (((rd_T103 l0 x5_1).f0) != ((Int.tmod x1_1 3) == 0)) = true := c5
  (try (have c5b1 : decide (((rd_T103 l0 x5_1).f0) = ((Int.tmod x1_1 3) == 0)) = false := by simpa using c5))
  (try (have c5b2 : (((rd_T103 l0 x5_1).f0) == ((Int.tmod x1_1 3) == 0)) = false := by simpa using c5))
  (try (have c5b3 : ¬ (((rd_T103 l0 x5_1).f0) = ((Int.tmod x1_1 3) == 0)) := by simpa using c5))
  clear c5
  obtain rfl := Option.some.inj H
  have p172 : 0 ≤ (x5_1 : Int) := of_decide_eq_true (by first | (with_reducible assumption) | assumption)
  have q172 : x5_1 < (l0.length : Int) := of_decide_eq_true (by first | (with_reducible assumption) | assumption)
  obtain ⟨ad172, e172, hx172_0, hx172_1⟩ := at_T103 HR0.out x5_1 p172 q172
  cases e172
  replace p172 := eq_true p172
  replace q172 := eq_true q172
  go_wp2
  go_ret
  exact ⟨by first | rfl | (simp; done) | (simp [*]; done), by repeat (first | exact Drawn0.refl _ | apply Drawn0.step)⟩
 rw [if_neg c5] at H
 have c5b0 : (((rd_T103 l0 x5_1).f0) != ((Int.tmod x1_1 3) == 0)) = false := by simpa using c5
 (try (have c5b1 : decide (((rd_T103 l0 x5_1).f0) = ((Int.tmod x1_1 3) == 0)) = true := by simpa using c5))
 (try (have c5b2 : (((rd_T103 l0 x5_1).f0) == ((Int.tmod x1_1 3) == 0)) = true := by simpa using c5))
 clear c5
 by_cases c6 : ((rd_T103 l0 x5_1).f1) = (wrap64 (x1_1 + 1))
 rotate_left
 ·rw [if_neg c6] at H
  have c6b0 : (((rd_T103 l0 x5_1).f1) == (wrap64 (x1_1 + 1))) = false := beq_eq_false_iff_ne.mpr c6
  have c6b1 : (((rd_T103 l0 x5_1).f1) != (wrap64 (x1_1 + 1))) = true := bne_iff_ne.mpr c6
  obtain rfl := Option.some.inj H
  have p172 : 0 ≤ (x5_1 : Int) := of_decide_eq_true (by first | (with_reducible assumption) | assumption)
  have q172 : x5_1 < (l0.length : Int) := of_decide_eq_true (by first | (with_reducible assumption) | assumption)
  obtain ⟨ad172, e172, hx172_0, hx172_1⟩ := at_T103 HR0.out x5_1 p172 q172
  cases e172
  replace p172 := eq_true p172
  replace q172 := eq_true q172
  have p173 : 0 ≤ (x5_1 : Int) := of_decide_eq_true (by first | (with_reducible assumption) | assumption)
  have q173 : x5_1 < (l0.length : Int) := of_decide_eq_true (by first | (with_reducible assumption) | assumption)
  obtain ⟨ad173, e173, hx173_0, hx173_1⟩ := at_T103 HR0.out x5_1 p173 q173
  obtain rfl : ad172 = ad173 := (by injection e173)
  replace p173 := eq_true p173
  replace q173 := eq_true q173
  go_wp2
  go_ret
  exact ⟨by first | rfl | (simp; done) | (simp [*]; done), by repeat (first | exact Drawn0.refl _ | apply Drawn0.step)⟩
 rw [if_pos c6] at H
 have c6b0 : (((rd_T103 l0 x5_1).f1) == (wrap64 (x1_1 + 1))) = true := beq_iff_eq.mpr c6
 have c6b1 : (((rd_T103 l0 x5_1).f1) != (wrap64 (x1_1 + 1))) = false := bne_eq_false_iff_eq.mpr c6
 clear c6
 have H' := Aside0.mk H
 clear H
 have p172 : 0 ≤ (x5_1 : Int) := of_decide_eq_true (by first | (with_reducible assumption) | assumption)
 have q172 : x5_1 < (l0.length : Int) := of_decide_eq_true (by first | (with_reducible assumption) | assumption)
 obtain ⟨ad172, e172, hx172_0, hx172_1⟩ := at_T103 HR0.out x5_1 p172 q172
 cases e172
 replace p172 := eq_true p172
 replace q172 := eq_true q172
 have p173 : 0 ≤ (x5_1 : Int) := of_decide_eq_true (by first | (with_reducible assumption) | assumption)
 have q173 : x5_1 < (l0.length : Int) := of_decide_eq_true (by first | (with_reducible assumption) | assumption)
 obtain ⟨ad173, e173, hx173_0, hx173_1⟩ := at_T103 HR0.out x5_1 p173 q173
 obtain rfl : ad172 = ad173 := (by injection e173)
 replace p173 := eq_true p173
 replace q173 := eq_true q173
 go_wp2
 go_roundg k1
 case measure => have := HK1.out; omega
 case rel => exact ⟨(wrap64 ((wrap64 (x1_1 + 1)) + 1)), (wrap64 (x5_1 + 1)), (by first | rfl | (simp; done) | (simp [*]; done)), (by first | rfl | (simp; done) | (simp [*]; done)), H', ⟨by have := HK1.out; omega⟩, by repeat (first | exact Drawn0.refl _ | apply Drawn0.step)⟩

/-! ### laws_heldWayS: function 70 -/
def laws_heldWayS.l0 : Nat → List (S95) → Int → Int → Option (Int)
 | 0, _, _, _ => none
 | k + 1, x0, x1, x5 => if x5 < (x0.length : Int) then (if 0 ≤ x5 then (if ((rd_T95 x0 x5).f0) = x1 then (if ((rd_T95 x0 x5).f1) = (wrap64 (x1 + 1)) then ((laws_heldParcelS.f k ((rd_T95 x0 x5).f2) (wrap64 ((wrap64 (x1 + 1)) + 1))).bind fun t177 => (if t177 < 0 then (some (-1)) else (if (((rd_T95 x0 x5).f3) != ((Int.tmod t177 3) == 0)) = true then (some (-1)) else ((laws_heldIntS.f k ((rd_T95 x0 x5).f4) (wrap64 (t177 + 1))).bind fun t180 => (if t180 < 0 then (some (-1)) else (laws_heldWayS.l0 k x0 t180 (wrap64 (x5 + 1)))))))) else (some (-1))) else (some (-1))) else (none)) else (some x1)
def laws_heldWayS.f (k : Nat) (l0 : List (S95)) (a1 : Int) : Option (Int) := laws_heldWayS.l0 k l0 a1 0
theorem laws_heldWayS.mono_l : ∀ k, (∀ y0 y1 y2, LeO (laws_heldWayS.l0 k y0 y1 y2) (laws_heldWayS.l0 (k + 1) y0 y1 y2))
 | 0 => fun _ _ _ r h => by simp [laws_heldWayS.l0] at h
 | k + 1 => by
  have ih0 := laws_heldWayS.mono_l k
  ·intro y0 y1 y2
   unfold laws_heldWayS.l0
   repeat' first
   | (with_reducible exact ih0 _ _ _)
   | (with_reducible exact laws_heldIntS.mono _ _ _)
   | (with_reducible exact laws_heldParcelS.mono _ _ _)
   | (with_reducible exact LeO.refl _)
   | (with_reducible exact LeO.none _)
   | (with_reducible refine LeO.ite ?_ ?_)
   | (with_reducible refine LeO.bind ?_ (fun _ => ?_))
   | exact ih0 _ _ _
   | exact laws_heldIntS.mono _ _ _
   | exact laws_heldParcelS.mono _ _ _
   | exact LeO.none _
   | refine LeO.ite ?_ ?_
   | refine LeO.bind ?_ (fun _ => ?_)
theorem laws_heldWayS.mono : ∀ a0 a1 k, LeO (laws_heldWayS.f k a0 a1) (laws_heldWayS.f (k + 1) a0 a1) := by
 intro a0 a1 k
 have ih0 := laws_heldWayS.mono_l k
 unfold laws_heldWayS.f
 repeat' first
   | (with_reducible exact ih0 _ _ _)
   | (with_reducible exact laws_heldIntS.mono _ _ _)
   | (with_reducible exact laws_heldParcelS.mono _ _ _)
   | (with_reducible exact LeO.refl _)
   | (with_reducible exact LeO.none _)
   | (with_reducible refine LeO.ite ?_ ?_)
   | (with_reducible refine LeO.bind ?_ (fun _ => ?_))
   | exact ih0 _ _ _
   | exact laws_heldIntS.mono _ _ _
   | exact laws_heldParcelS.mono _ _ _
   | exact LeO.none _
   | refine LeO.ite ?_ ?_
   | refine LeO.bind ?_ (fun _ => ?_)
set_option maxHeartbeats 8000000 in
set_option maxRecDepth 100000 in
theorem laws_heldWayS.calls (k : Nat) (A0 : Option Addr) (c0 : Nat) (l0 : List (S95)) (a1 : Int) (r : Int) (w : World) (hr0 : Kd.C k95 w A0 l0.length l0) (hc0 : l0.length ≤ c0) (h : laws_heldWayS.f k l0 a1 = some r) :
  Calls Try.prog 70 #[.slice A0 l0.length c0, .int .i64 a1] w fun e w' => e = .returned (.int .i64 r) ∧ Drawn0 w w' := by
 have HR0 := Aside0.mk hr0
 have HC0 := Aside0.mk hc0
 clear hr0 hc0
 have H : (laws_heldWayS.l0 k l0 a1 0) = some r := h
 clear h
 have H' := Aside0.mk H
 clear H
 go_enter Try.func70, Try.ntmps70
 go_wp2
 go_loopg [1, 5] k (fun kq v1 v5 w' => ∃ (x1_1 : Int) (x5_1 : Int), v1 = .int .i64 x1_1 ∧ v5 = .int .i64 x5_1 ∧ Aside0 (laws_heldWayS.l0 kq l0 x1_1 x5_1 = some r) ∧ Aside0 (kq ≤ k) ∧ Drawn0 w w')
 case atStart => exact ⟨(a1), (0), (by first | rfl | (simp; done) | (simp [*]; done)), (by first | rfl | (simp; done) | (simp [*]; done)), H', ⟨Nat.le_refl _⟩, by repeat (first | exact Drawn0.refl _ | apply Drawn0.step)⟩
 clear H'
 try clear p2
 obtain ⟨x1_1, x5_1, rfl, rfl, HA, HK1, ⟨m1, rfl⟩⟩ := hrel
 cases gk with
 | zero => exact absurd HA.out (by simp [laws_heldWayS.l0])
 | succ k1 => ?_
 have H := HA.out
 clear HA
 simp only [laws_heldWayS.l0] at H
 by_cases c3 : x5_1 < (l0.length : Int)
 rotate_left
 ·rw [if_neg c3] at H
  have c3b0 : decide (x5_1 < (l0.length : Int)) = false := decide_eq_false c3
  clear c3
  obtain rfl := Option.some.inj H
  go_wp2
  go_ret
  exact ⟨by first | rfl | (simp; done) | (simp [*]; done), by repeat (first | exact Drawn0.refl _ | apply Drawn0.step)⟩
 rw [if_pos c3] at H
 have c3b0 : decide (x5_1 < (l0.length : Int)) = true := decide_eq_true c3
 clear c3
 by_cases c4 : 0 ≤ x5_1
 rotate_left
 ·rw [if_neg c4] at H
  exact absurd H (by simp)
 rw [if_pos c4] at H
 have c4b0 : decide (0 ≤ x5_1) = true := decide_eq_true c4
 clear c4
 by_cases c5 : ((rd_T95 l0 x5_1).f0) = x1_1
 rotate_left
 ·rw [if_neg c5] at H
  have c5b0 : (((rd_T95 l0 x5_1).f0) == x1_1) = false := beq_eq_false_iff_ne.mpr c5
  have c5b1 : (((rd_T95 l0 x5_1).f0) != x1_1) = true := bne_iff_ne.mpr c5
  obtain rfl := Option.some.inj H
  have p174 : 0 ≤ (x5_1 : Int) := of_decide_eq_true (by first | (with_reducible assumption) | assumption)
  have q174 : x5_1 < (l0.length : Int) := of_decide_eq_true (by first | (with_reducible assumption) | assumption)
  obtain ⟨ad174, A174_2, c174_2, A174_4, c174_4, e174, hx174_0, hx174_1, hx174_2, hx174_3, hx174_4, hl174_2, hi174_2, hl174_4, hi174_4⟩ := at_T95 HR0.out x5_1 p174 q174
  cases e174
  have HR174_2 := Aside0.mk hi174_2
  have HC174_2 := Aside0.mk hl174_2
  clear hi174_2 hl174_2
  have HR174_4 := Aside0.mk hi174_4
  have HC174_4 := Aside0.mk hl174_4
  clear hi174_4 hl174_4
  replace p174 := eq_true p174
  replace q174 := eq_true q174
  go_wp2
  go_ret
  exact ⟨by first | rfl | (simp; done) | (simp [*]; done), by repeat (first | exact Drawn0.refl _ | apply Drawn0.step)⟩
 rw [if_pos c5] at H
 have c5b0 : (((rd_T95 l0 x5_1).f0) == x1_1) = true := beq_iff_eq.mpr c5
 have c5b1 : (((rd_T95 l0 x5_1).f0) != x1_1) = false := bne_eq_false_iff_eq.mpr c5
 clear c5
 by_cases c6 : ((rd_T95 l0 x5_1).f1) = (wrap64 (x1_1 + 1))
 rotate_left
 ·rw [if_neg c6] at H
  have c6b0 : (((rd_T95 l0 x5_1).f1) == (wrap64 (x1_1 + 1))) = false := beq_eq_false_iff_ne.mpr c6
  have c6b1 : (((rd_T95 l0 x5_1).f1) != (wrap64 (x1_1 + 1))) = true := bne_iff_ne.mpr c6
  obtain rfl := Option.some.inj H
  have p174 : 0 ≤ (x5_1 : Int) := of_decide_eq_true (by first | (with_reducible assumption) | assumption)
  have q174 : x5_1 < (l0.length : Int) := of_decide_eq_true (by first | (with_reducible assumption) | assumption)
  obtain ⟨ad174, A174_2, c174_2, A174_4, c174_4, e174, hx174_0, hx174_1, hx174_2, hx174_3, hx174_4, hl174_2, hi174_2, hl174_4, hi174_4⟩ := at_T95 HR0.out x5_1 p174 q174
  cases e174
  have HR174_2 := Aside0.mk hi174_2
  have HC174_2 := Aside0.mk hl174_2
  clear hi174_2 hl174_2
  have HR174_4 := Aside0.mk hi174_4
  have HC174_4 := Aside0.mk hl174_4
  clear hi174_4 hl174_4
  replace p174 := eq_true p174
  replace q174 := eq_true q174
  have p175 : 0 ≤ (x5_1 : Int) := of_decide_eq_true (by first | (with_reducible assumption) | assumption)
  have q175 : x5_1 < (l0.length : Int) := of_decide_eq_true (by first | (with_reducible assumption) | assumption)
  obtain ⟨ad175, A175_2, c175_2, A175_4, c175_4, e175, hx175_0, hx175_1, hx175_2, hx175_3, hx175_4, hl175_2, hi175_2, hl175_4, hi175_4⟩ := at_T95 HR0.out x5_1 p175 q175
  obtain rfl : ad174 = ad175 := (by injection e175)
  have HR175_2 := Aside0.mk hi175_2
  have HC175_2 := Aside0.mk hl175_2
  clear hi175_2 hl175_2
  have HR175_4 := Aside0.mk hi175_4
  have HC175_4 := Aside0.mk hl175_4
  clear hi175_4 hl175_4
  replace p175 := eq_true p175
  replace q175 := eq_true q175
  have ea_ := Option.some.inj (hx174_2.symm.trans hx175_2)
  injection ea_ with ea_ en_ ec_
  subst ea_
  subst ec_
  clear en_
  have ea_ := Option.some.inj (hx174_4.symm.trans hx175_4)
  injection ea_ with ea_ en_ ec_
  subst ea_
  subst ec_
  clear en_
  go_wp2
  go_ret
  exact ⟨by first | rfl | (simp; done) | (simp [*]; done), by repeat (first | exact Drawn0.refl _ | apply Drawn0.step)⟩
 rw [if_pos c6] at H
 have c6b0 : (((rd_T95 l0 x5_1).f1) == (wrap64 (x1_1 + 1))) = true := beq_iff_eq.mpr c6
 have c6b1 : (((rd_T95 l0 x5_1).f1) != (wrap64 (x1_1 + 1))) = false := bne_eq_false_iff_eq.mpr c6
 clear c6
 replace H := Option.bind_eq_some_iff.mp H
 obtain ⟨t177, A70, H⟩ := H
 replace H : (if t177 < 0 then (some (-1)) else (if (((rd_T95 l0 x5_1).f3) != ((Int.tmod t177 3) == 0)) = true then (some (-1)) else ((laws_heldIntS.f k1 ((rd_T95 l0 x5_1).f4) (wrap64 (t177 + 1))).bind fun t180 => (if t180 < 0 then (some (-1)) else (laws_heldWayS.l0 k1 l0 t180 (wrap64 (x5_1 + 1))))))) = some r := H
 have A7 := Aside0.mk A70
 clear A70
 by_cases c8 : t177 < 0
 ·rw [if_pos c8] at H
  have c8b0 : decide (t177 < 0) = true := decide_eq_true c8
  clear c8
  obtain rfl := Option.some.inj H
  have p174 : 0 ≤ (x5_1 : Int) := of_decide_eq_true (by first | (with_reducible assumption) | assumption)
  have q174 : x5_1 < (l0.length : Int) := of_decide_eq_true (by first | (with_reducible assumption) | assumption)
  obtain ⟨ad174, A174_2, c174_2, A174_4, c174_4, e174, hx174_0, hx174_1, hx174_2, hx174_3, hx174_4, hl174_2, hi174_2, hl174_4, hi174_4⟩ := at_T95 HR0.out x5_1 p174 q174
  cases e174
  have HR174_2 := Aside0.mk hi174_2
  have HC174_2 := Aside0.mk hl174_2
  clear hi174_2 hl174_2
  have HR174_4 := Aside0.mk hi174_4
  have HC174_4 := Aside0.mk hl174_4
  clear hi174_4 hl174_4
  replace p174 := eq_true p174
  replace q174 := eq_true q174
  have p175 : 0 ≤ (x5_1 : Int) := of_decide_eq_true (by first | (with_reducible assumption) | assumption)
  have q175 : x5_1 < (l0.length : Int) := of_decide_eq_true (by first | (with_reducible assumption) | assumption)
  obtain ⟨ad175, A175_2, c175_2, A175_4, c175_4, e175, hx175_0, hx175_1, hx175_2, hx175_3, hx175_4, hl175_2, hi175_2, hl175_4, hi175_4⟩ := at_T95 HR0.out x5_1 p175 q175
  obtain rfl : ad174 = ad175 := (by injection e175)
  have HR175_2 := Aside0.mk hi175_2
  have HC175_2 := Aside0.mk hl175_2
  clear hi175_2 hl175_2
  have HR175_4 := Aside0.mk hi175_4
  have HC175_4 := Aside0.mk hl175_4
  clear hi175_4 hl175_4
  replace p175 := eq_true p175
  replace q175 := eq_true q175
  have ea_ := Option.some.inj (hx174_2.symm.trans hx175_2)
  injection ea_ with ea_ en_ ec_
  subst ea_
  subst ec_
  clear en_
  have ea_ := Option.some.inj (hx174_4.symm.trans hx175_4)
  injection ea_ with ea_ en_ ec_
  subst ea_
  subst ec_
  clear en_
  have p176 : 0 ≤ (x5_1 : Int) := of_decide_eq_true (by first | (with_reducible assumption) | assumption)
  have q176 : x5_1 < (l0.length : Int) := of_decide_eq_true (by first | (with_reducible assumption) | assumption)
  obtain ⟨ad176, A176_2, c176_2, A176_4, c176_4, e176, hx176_0, hx176_1, hx176_2, hx176_3, hx176_4, hl176_2, hi176_2, hl176_4, hi176_4⟩ := at_T95 HR0.out x5_1 p176 q176
  obtain rfl : ad174 = ad176 := (by injection e176)
  have HR176_2 := Aside0.mk hi176_2
  have HC176_2 := Aside0.mk hl176_2
  clear hi176_2 hl176_2
  have HR176_4 := Aside0.mk hi176_4
  have HC176_4 := Aside0.mk hl176_4
  clear hi176_4 hl176_4
  replace p176 := eq_true p176
  replace q176 := eq_true q176
  have ea_ := Option.some.inj (hx174_2.symm.trans hx176_2)
  injection ea_ with ea_ en_ ec_
  subst ea_
  subst ec_
  clear en_
  have ea_ := Option.some.inj (hx174_4.symm.trans hx176_4)
  injection ea_ with ea_ en_ ec_
  subst ea_
  subst ec_
  clear en_
  go_wp2_with (first | ((with_reducible refine gate_callee (f := 93) rfl ?_); refine goesL_ (some 36) rfl rfl Try.func93 (by kernel_rfl) rfl #[.slice A174_2 ((rd_T95 l0 x5_1).f2).length c174_2, .int .i64 (wrap64 ((wrap64 (x1_1 + 1)) + 1))] rfl (by (try simp only [List.map_toArray, List.map_cons, List.map_nil]); first | done | rfl | (simp only [List.length_drop, List.length_take]; rfl)) ?_; (with_reducible refine (laws_heldParcelS.calls k1 _ _ ((rd_T95 l0 x5_1).f2) (wrap64 ((wrap64 (x1_1 + 1)) + 1)) t177 _ ?side1 ?side2 A7.out).mono ?_); (case side1 => repeat (first | exact HR176_2.out | (with_reducible refine Kd.C_alloc ?_ _) | (with_reducible refine Kd.C_drewN ?_ _) | (with_reducible refine Kd.C_drew ?_))); (case side2 => exact HC176_2.out); rintro e w' ⟨rfl, ⟨nd, rfl⟩⟩; refine ⟨_, rfl, ?_⟩))
  go_ret
  exact ⟨by first | rfl | (simp; done) | (simp [*]; done), by repeat (first | exact Drawn0.refl _ | apply Drawn0.step)⟩
 rw [if_neg c8] at H
 have c8b0 : decide (t177 < 0) = false := decide_eq_false c8
 clear c8
 by_cases c9 : (((rd_T95 l0 x5_1).f3) != ((Int.tmod t177 3) == 0)) = true
 ·rw [if_pos c9] at H
  have c9b0 : (((rd_T95 l0 x5_1).f3) != ((Int.tmod t177 3) == 0)) = true := c9
  (try (have c9b1 : decide (((rd_T95 l0 x5_1).f3) = ((Int.tmod t177 3) == 0)) = false := by simpa using c9))
  (try (have c9b2 : (((rd_T95 l0 x5_1).f3) == ((Int.tmod t177 3) == 0)) = false := by simpa using c9))
  (try (have c9b3 : ¬ (((rd_T95 l0 x5_1).f3) = ((Int.tmod t177 3) == 0)) := by simpa using c9))
  clear c9
  obtain rfl := Option.some.inj H
  have p174 : 0 ≤ (x5_1 : Int) := of_decide_eq_true (by first | (with_reducible assumption) | assumption)
  have q174 : x5_1 < (l0.length : Int) := of_decide_eq_true (by first | (with_reducible assumption) | assumption)
  obtain ⟨ad174, A174_2, c174_2, A174_4, c174_4, e174, hx174_0, hx174_1, hx174_2, hx174_3, hx174_4, hl174_2, hi174_2, hl174_4, hi174_4⟩ := at_T95 HR0.out x5_1 p174 q174
  cases e174
  have HR174_2 := Aside0.mk hi174_2
  have HC174_2 := Aside0.mk hl174_2
  clear hi174_2 hl174_2
  have HR174_4 := Aside0.mk hi174_4
  have HC174_4 := Aside0.mk hl174_4
  clear hi174_4 hl174_4
  replace p174 := eq_true p174
  replace q174 := eq_true q174
  have p175 : 0 ≤ (x5_1 : Int) := of_decide_eq_true (by first | (with_reducible assumption) | assumption)
  have q175 : x5_1 < (l0.length : Int) := of_decide_eq_true (by first | (with_reducible assumption) | assumption)
  obtain ⟨ad175, A175_2, c175_2, A175_4, c175_4, e175, hx175_0, hx175_1, hx175_2, hx175_3, hx175_4, hl175_2, hi175_2, hl175_4, hi175_4⟩ := at_T95 HR0.out x5_1 p175 q175
  obtain rfl : ad174 = ad175 := (by injection e175)
  have HR175_2 := Aside0.mk hi175_2
  have HC175_2 := Aside0.mk hl175_2
  clear hi175_2 hl175_2
  have HR175_4 := Aside0.mk hi175_4
  have HC175_4 := Aside0.mk hl175_4
  clear hi175_4 hl175_4
  replace p175 := eq_true p175
  replace q175 := eq_true q175
  have ea_ := Option.some.inj (hx174_2.symm.trans hx175_2)
  injection ea_ with ea_ en_ ec_
  subst ea_
  subst ec_
  clear en_
  have ea_ := Option.some.inj (hx174_4.symm.trans hx175_4)
  injection ea_ with ea_ en_ ec_
  subst ea_
  subst ec_
  clear en_
  have p176 : 0 ≤ (x5_1 : Int) := of_decide_eq_true (by first | (with_reducible assumption) | assumption)
  have q176 : x5_1 < (l0.length : Int) := of_decide_eq_true (by first | (with_reducible assumption) | assumption)
  obtain ⟨ad176, A176_2, c176_2, A176_4, c176_4, e176, hx176_0, hx176_1, hx176_2, hx176_3, hx176_4, hl176_2, hi176_2, hl176_4, hi176_4⟩ := at_T95 HR0.out x5_1 p176 q176
  obtain rfl : ad174 = ad176 := (by injection e176)
  have HR176_2 := Aside0.mk hi176_2
  have HC176_2 := Aside0.mk hl176_2
  clear hi176_2 hl176_2
  have HR176_4 := Aside0.mk hi176_4
  have HC176_4 := Aside0.mk hl176_4
  clear hi176_4 hl176_4
  replace p176 := eq_true p176
  replace q176 := eq_true q176
  have ea_ := Option.some.inj (hx174_2.symm.trans hx176_2)
  injection ea_ with ea_ en_ ec_
  subst ea_
  subst ec_
  clear en_
  have ea_ := Option.some.inj (hx174_4.symm.trans hx176_4)
  injection ea_ with ea_ en_ ec_
  subst ea_
  subst ec_
  clear en_
  go_wp2_with (first | ((with_reducible refine gate_callee (f := 93) rfl ?_); refine goesL_ (some 36) rfl rfl Try.func93 (by kernel_rfl) rfl #[.slice A174_2 ((rd_T95 l0 x5_1).f2).length c174_2, .int .i64 (wrap64 ((wrap64 (x1_1 + 1)) + 1))] rfl (by (try simp only [List.map_toArray, List.map_cons, List.map_nil]); first | done | rfl | (simp only [List.length_drop, List.length_take]; rfl)) ?_; (with_reducible refine (laws_heldParcelS.calls k1 _ _ ((rd_T95 l0 x5_1).f2) (wrap64 ((wrap64 (x1_1 + 1)) + 1)) t177 _ ?side1 ?side2 A7.out).mono ?_); (case side1 => repeat (first | exact HR176_2.out | (with_reducible refine Kd.C_alloc ?_ _) | (with_reducible refine Kd.C_drewN ?_ _) | (with_reducible refine Kd.C_drew ?_))); (case side2 => exact HC176_2.out); rintro e w' ⟨rfl, ⟨nd, rfl⟩⟩; refine ⟨_, rfl, ?_⟩; have p178 : 0 ≤ (x5_1 : Int) := of_decide_eq_true (by first | (with_reducible assumption) | assumption); have q178 : x5_1 < (l0.length : Int) := of_decide_eq_true (by first | (with_reducible assumption) | assumption); obtain ⟨ad178, A178_2, c178_2, A178_4, c178_4, e178, hx178_0, hx178_1, hx178_2, hx178_3, hx178_4, hl178_2, hi178_2, hl178_4, hi178_4⟩ := at_T95 HR0.out x5_1 p178 q178; obtain rfl : ad174 = ad178 := (by injection e178); have HR178_2 := Aside0.mk hi178_2; have HC178_2 := Aside0.mk hl178_2; clear hi178_2 hl178_2; have HR178_4 := Aside0.mk hi178_4; have HC178_4 := Aside0.mk hl178_4; clear hi178_4 hl178_4; replace p178 := eq_true p178; replace q178 := eq_true q178; have ea_ := Option.some.inj (hx174_2.symm.trans hx178_2); injection ea_ with ea_ en_ ec_; subst ea_; subst ec_; clear en_; have ea_ := Option.some.inj (hx174_4.symm.trans hx178_4); injection ea_ with ea_ en_ ec_; subst ea_; subst ec_; clear en_))
  go_ret
  exact ⟨by first | rfl | (simp; done) | (simp [*]; done), by repeat (first | exact Drawn0.refl _ | apply Drawn0.step)⟩
 rw [if_neg c9] at H
 have c9b0 : (((rd_T95 l0 x5_1).f3) != ((Int.tmod t177 3) == 0)) = false := by simpa using c9
 (try (have c9b1 : decide (((rd_T95 l0 x5_1).f3) = ((Int.tmod t177 3) == 0)) = true := by simpa using c9))
 (try (have c9b2 : (((rd_T95 l0 x5_1).f3) == ((Int.tmod t177 3) == 0)) = true := by simpa using c9))
 clear c9
 replace H := Option.bind_eq_some_iff.mp H
 obtain ⟨t180, A100, H⟩ := H
 replace H : (if t180 < 0 then (some (-1)) else (laws_heldWayS.l0 k1 l0 t180 (wrap64 (x5_1 + 1)))) = some r := H
 have A10 := Aside0.mk A100
 clear A100
 by_cases c11 : t180 < 0
 ·rw [if_pos c11] at H
  have c11b0 : decide (t180 < 0) = true := decide_eq_true c11
  clear c11
  obtain rfl := Option.some.inj H
  have p174 : 0 ≤ (x5_1 : Int) := of_decide_eq_true (by first | (with_reducible assumption) | assumption)
  have q174 : x5_1 < (l0.length : Int) := of_decide_eq_true (by first | (with_reducible assumption) | assumption)
  obtain ⟨ad174, A174_2, c174_2, A174_4, c174_4, e174, hx174_0, hx174_1, hx174_2, hx174_3, hx174_4, hl174_2, hi174_2, hl174_4, hi174_4⟩ := at_T95 HR0.out x5_1 p174 q174
  cases e174
  have HR174_2 := Aside0.mk hi174_2
  have HC174_2 := Aside0.mk hl174_2
  clear hi174_2 hl174_2
  have HR174_4 := Aside0.mk hi174_4
  have HC174_4 := Aside0.mk hl174_4
  clear hi174_4 hl174_4
  replace p174 := eq_true p174
  replace q174 := eq_true q174
  have p175 : 0 ≤ (x5_1 : Int) := of_decide_eq_true (by first | (with_reducible assumption) | assumption)
  have q175 : x5_1 < (l0.length : Int) := of_decide_eq_true (by first | (with_reducible assumption) | assumption)
  obtain ⟨ad175, A175_2, c175_2, A175_4, c175_4, e175, hx175_0, hx175_1, hx175_2, hx175_3, hx175_4, hl175_2, hi175_2, hl175_4, hi175_4⟩ := at_T95 HR0.out x5_1 p175 q175
  obtain rfl : ad174 = ad175 := (by injection e175)
  have HR175_2 := Aside0.mk hi175_2
  have HC175_2 := Aside0.mk hl175_2
  clear hi175_2 hl175_2
  have HR175_4 := Aside0.mk hi175_4
  have HC175_4 := Aside0.mk hl175_4
  clear hi175_4 hl175_4
  replace p175 := eq_true p175
  replace q175 := eq_true q175
  have ea_ := Option.some.inj (hx174_2.symm.trans hx175_2)
  injection ea_ with ea_ en_ ec_
  subst ea_
  subst ec_
  clear en_
  have ea_ := Option.some.inj (hx174_4.symm.trans hx175_4)
  injection ea_ with ea_ en_ ec_
  subst ea_
  subst ec_
  clear en_
  have p176 : 0 ≤ (x5_1 : Int) := of_decide_eq_true (by first | (with_reducible assumption) | assumption)
  have q176 : x5_1 < (l0.length : Int) := of_decide_eq_true (by first | (with_reducible assumption) | assumption)
  obtain ⟨ad176, A176_2, c176_2, A176_4, c176_4, e176, hx176_0, hx176_1, hx176_2, hx176_3, hx176_4, hl176_2, hi176_2, hl176_4, hi176_4⟩ := at_T95 HR0.out x5_1 p176 q176
  obtain rfl : ad174 = ad176 := (by injection e176)
  have HR176_2 := Aside0.mk hi176_2
  have HC176_2 := Aside0.mk hl176_2
  clear hi176_2 hl176_2
  have HR176_4 := Aside0.mk hi176_4
  have HC176_4 := Aside0.mk hl176_4
  clear hi176_4 hl176_4
  replace p176 := eq_true p176
  replace q176 := eq_true q176
  have ea_ := Option.some.inj (hx174_2.symm.trans hx176_2)
  injection ea_ with ea_ en_ ec_
  subst ea_
  subst ec_
  clear en_
  have ea_ := Option.some.inj (hx174_4.symm.trans hx176_4)
  injection ea_ with ea_ en_ ec_
  subst ea_
  subst ec_
  clear en_
  go_wp2_with (first | ((with_reducible refine gate_callee (f := 93) rfl ?_); refine goesL_ (some 36) rfl rfl Try.func93 (by kernel_rfl) rfl #[.slice A174_2 ((rd_T95 l0 x5_1).f2).length c174_2, .int .i64 (wrap64 ((wrap64 (x1_1 + 1)) + 1))] rfl (by (try simp only [List.map_toArray, List.map_cons, List.map_nil]); first | done | rfl | (simp only [List.length_drop, List.length_take]; rfl)) ?_; (with_reducible refine (laws_heldParcelS.calls k1 _ _ ((rd_T95 l0 x5_1).f2) (wrap64 ((wrap64 (x1_1 + 1)) + 1)) t177 _ ?side1 ?side2 A7.out).mono ?_); (case side1 => repeat (first | exact HR176_2.out | (with_reducible refine Kd.C_alloc ?_ _) | (with_reducible refine Kd.C_drewN ?_ _) | (with_reducible refine Kd.C_drew ?_))); (case side2 => exact HC176_2.out); rintro e w' ⟨rfl, ⟨nd, rfl⟩⟩; refine ⟨_, rfl, ?_⟩; have p178 : 0 ≤ (x5_1 : Int) := of_decide_eq_true (by first | (with_reducible assumption) | assumption); have q178 : x5_1 < (l0.length : Int) := of_decide_eq_true (by first | (with_reducible assumption) | assumption); obtain ⟨ad178, A178_2, c178_2, A178_4, c178_4, e178, hx178_0, hx178_1, hx178_2, hx178_3, hx178_4, hl178_2, hi178_2, hl178_4, hi178_4⟩ := at_T95 HR0.out x5_1 p178 q178; obtain rfl : ad174 = ad178 := (by injection e178); have HR178_2 := Aside0.mk hi178_2; have HC178_2 := Aside0.mk hl178_2; clear hi178_2 hl178_2; have HR178_4 := Aside0.mk hi178_4; have HC178_4 := Aside0.mk hl178_4; clear hi178_4 hl178_4; replace p178 := eq_true p178; replace q178 := eq_true q178; have ea_ := Option.some.inj (hx174_2.symm.trans hx178_2); injection ea_ with ea_ en_ ec_; subst ea_; subst ec_; clear en_; have ea_ := Option.some.inj (hx174_4.symm.trans hx178_4); injection ea_ with ea_ en_ ec_; subst ea_; subst ec_; clear en_; have p179 : 0 ≤ (x5_1 : Int) := of_decide_eq_true (by first | (with_reducible assumption) | assumption); have q179 : x5_1 < (l0.length : Int) := of_decide_eq_true (by first | (with_reducible assumption) | assumption); obtain ⟨ad179, A179_2, c179_2, A179_4, c179_4, e179, hx179_0, hx179_1, hx179_2, hx179_3, hx179_4, hl179_2, hi179_2, hl179_4, hi179_4⟩ := at_T95 HR0.out x5_1 p179 q179; obtain rfl : ad174 = ad179 := (by injection e179); have HR179_2 := Aside0.mk hi179_2; have HC179_2 := Aside0.mk hl179_2; clear hi179_2 hl179_2; have HR179_4 := Aside0.mk hi179_4; have HC179_4 := Aside0.mk hl179_4; clear hi179_4 hl179_4; replace p179 := eq_true p179; replace q179 := eq_true q179; have ea_ := Option.some.inj (hx174_2.symm.trans hx179_2); injection ea_ with ea_ en_ ec_; subst ea_; subst ec_; clear en_; have ea_ := Option.some.inj (hx174_4.symm.trans hx179_4); injection ea_ with ea_ en_ ec_; subst ea_; subst ec_; clear en_) | ((with_reducible refine gate_callee (f := 80) rfl ?_); refine goesL_ (some 56) rfl rfl Try.func80 (by kernel_rfl) rfl #[.slice A174_4 ((rd_T95 l0 x5_1).f4).length c174_4, .int .i64 (wrap64 (t177 + 1))] rfl (by (try simp only [List.map_toArray, List.map_cons, List.map_nil]); first | done | rfl | (simp only [List.length_drop, List.length_take]; rfl)) ?_; (with_reducible refine (laws_heldIntS.calls k1 _ _ ((rd_T95 l0 x5_1).f4) (wrap64 (t177 + 1)) t180 _ ?side1 ?side2 A10.out).mono ?_); (case side1 => repeat (first | exact HR179_4.out | (with_reducible refine Kd.C_alloc ?_ _) | (with_reducible refine Kd.C_drewN ?_ _) | (with_reducible refine Kd.C_drew ?_))); (case side2 => exact HC179_4.out); rintro e w' ⟨rfl, ⟨nd, rfl⟩⟩; refine ⟨_, rfl, ?_⟩))
  go_ret
  exact ⟨by first | rfl | (simp; done) | (simp [*]; done), by repeat (first | exact Drawn0.refl _ | apply Drawn0.step)⟩
 rw [if_neg c11] at H
 have c11b0 : decide (t180 < 0) = false := decide_eq_false c11
 clear c11
 have H' := Aside0.mk H
 clear H
 have p174 : 0 ≤ (x5_1 : Int) := of_decide_eq_true (by first | (with_reducible assumption) | assumption)
 have q174 : x5_1 < (l0.length : Int) := of_decide_eq_true (by first | (with_reducible assumption) | assumption)
 obtain ⟨ad174, A174_2, c174_2, A174_4, c174_4, e174, hx174_0, hx174_1, hx174_2, hx174_3, hx174_4, hl174_2, hi174_2, hl174_4, hi174_4⟩ := at_T95 HR0.out x5_1 p174 q174
 cases e174
 have HR174_2 := Aside0.mk hi174_2
 have HC174_2 := Aside0.mk hl174_2
 clear hi174_2 hl174_2
 have HR174_4 := Aside0.mk hi174_4
 have HC174_4 := Aside0.mk hl174_4
 clear hi174_4 hl174_4
 replace p174 := eq_true p174
 replace q174 := eq_true q174
 have p175 : 0 ≤ (x5_1 : Int) := of_decide_eq_true (by first | (with_reducible assumption) | assumption)
 have q175 : x5_1 < (l0.length : Int) := of_decide_eq_true (by first | (with_reducible assumption) | assumption)
 obtain ⟨ad175, A175_2, c175_2, A175_4, c175_4, e175, hx175_0, hx175_1, hx175_2, hx175_3, hx175_4, hl175_2, hi175_2, hl175_4, hi175_4⟩ := at_T95 HR0.out x5_1 p175 q175
 obtain rfl : ad174 = ad175 := (by injection e175)
 have HR175_2 := Aside0.mk hi175_2
 have HC175_2 := Aside0.mk hl175_2
 clear hi175_2 hl175_2
 have HR175_4 := Aside0.mk hi175_4
 have HC175_4 := Aside0.mk hl175_4
 clear hi175_4 hl175_4
 replace p175 := eq_true p175
 replace q175 := eq_true q175
 have ea_ := Option.some.inj (hx174_2.symm.trans hx175_2)
 injection ea_ with ea_ en_ ec_
 subst ea_
 subst ec_
 clear en_
 have ea_ := Option.some.inj (hx174_4.symm.trans hx175_4)
 injection ea_ with ea_ en_ ec_
 subst ea_
 subst ec_
 clear en_
 have p176 : 0 ≤ (x5_1 : Int) := of_decide_eq_true (by first | (with_reducible assumption) | assumption)
 have q176 : x5_1 < (l0.length : Int) := of_decide_eq_true (by first | (with_reducible assumption) | assumption)
 obtain ⟨ad176, A176_2, c176_2, A176_4, c176_4, e176, hx176_0, hx176_1, hx176_2, hx176_3, hx176_4, hl176_2, hi176_2, hl176_4, hi176_4⟩ := at_T95 HR0.out x5_1 p176 q176
 obtain rfl : ad174 = ad176 := (by injection e176)
 have HR176_2 := Aside0.mk hi176_2
 have HC176_2 := Aside0.mk hl176_2
 clear hi176_2 hl176_2
 have HR176_4 := Aside0.mk hi176_4
 have HC176_4 := Aside0.mk hl176_4
 clear hi176_4 hl176_4
 replace p176 := eq_true p176
 replace q176 := eq_true q176
 have ea_ := Option.some.inj (hx174_2.symm.trans hx176_2)
 injection ea_ with ea_ en_ ec_
 subst ea_
 subst ec_
 clear en_
 have ea_ := Option.some.inj (hx174_4.symm.trans hx176_4)
 injection ea_ with ea_ en_ ec_
 subst ea_
 subst ec_
 clear en_
 go_wp2_with (first | ((with_reducible refine gate_callee (f := 93) rfl ?_); refine goesL_ (some 36) rfl rfl Try.func93 (by kernel_rfl) rfl #[.slice A174_2 ((rd_T95 l0 x5_1).f2).length c174_2, .int .i64 (wrap64 ((wrap64 (x1_1 + 1)) + 1))] rfl (by (try simp only [List.map_toArray, List.map_cons, List.map_nil]); first | done | rfl | (simp only [List.length_drop, List.length_take]; rfl)) ?_; (with_reducible refine (laws_heldParcelS.calls k1 _ _ ((rd_T95 l0 x5_1).f2) (wrap64 ((wrap64 (x1_1 + 1)) + 1)) t177 _ ?side1 ?side2 A7.out).mono ?_); (case side1 => repeat (first | exact HR176_2.out | (with_reducible refine Kd.C_alloc ?_ _) | (with_reducible refine Kd.C_drewN ?_ _) | (with_reducible refine Kd.C_drew ?_))); (case side2 => exact HC176_2.out); rintro e w' ⟨rfl, ⟨nd, rfl⟩⟩; refine ⟨_, rfl, ?_⟩; have p178 : 0 ≤ (x5_1 : Int) := of_decide_eq_true (by first | (with_reducible assumption) | assumption); have q178 : x5_1 < (l0.length : Int) := of_decide_eq_true (by first | (with_reducible assumption) | assumption); obtain ⟨ad178, A178_2, c178_2, A178_4, c178_4, e178, hx178_0, hx178_1, hx178_2, hx178_3, hx178_4, hl178_2, hi178_2, hl178_4, hi178_4⟩ := at_T95 HR0.out x5_1 p178 q178; obtain rfl : ad174 = ad178 := (by injection e178); have HR178_2 := Aside0.mk hi178_2; have HC178_2 := Aside0.mk hl178_2; clear hi178_2 hl178_2; have HR178_4 := Aside0.mk hi178_4; have HC178_4 := Aside0.mk hl178_4; clear hi178_4 hl178_4; replace p178 := eq_true p178; replace q178 := eq_true q178; have ea_ := Option.some.inj (hx174_2.symm.trans hx178_2); injection ea_ with ea_ en_ ec_; subst ea_; subst ec_; clear en_; have ea_ := Option.some.inj (hx174_4.symm.trans hx178_4); injection ea_ with ea_ en_ ec_; subst ea_; subst ec_; clear en_; have p179 : 0 ≤ (x5_1 : Int) := of_decide_eq_true (by first | (with_reducible assumption) | assumption); have q179 : x5_1 < (l0.length : Int) := of_decide_eq_true (by first | (with_reducible assumption) | assumption); obtain ⟨ad179, A179_2, c179_2, A179_4, c179_4, e179, hx179_0, hx179_1, hx179_2, hx179_3, hx179_4, hl179_2, hi179_2, hl179_4, hi179_4⟩ := at_T95 HR0.out x5_1 p179 q179; obtain rfl : ad174 = ad179 := (by injection e179); have HR179_2 := Aside0.mk hi179_2; have HC179_2 := Aside0.mk hl179_2; clear hi179_2 hl179_2; have HR179_4 := Aside0.mk hi179_4; have HC179_4 := Aside0.mk hl179_4; clear hi179_4 hl179_4; replace p179 := eq_true p179; replace q179 := eq_true q179; have ea_ := Option.some.inj (hx174_2.symm.trans hx179_2); injection ea_ with ea_ en_ ec_; subst ea_; subst ec_; clear en_; have ea_ := Option.some.inj (hx174_4.symm.trans hx179_4); injection ea_ with ea_ en_ ec_; subst ea_; subst ec_; clear en_) | ((with_reducible refine gate_callee (f := 80) rfl ?_); refine goesL_ (some 56) rfl rfl Try.func80 (by kernel_rfl) rfl #[.slice A174_4 ((rd_T95 l0 x5_1).f4).length c174_4, .int .i64 (wrap64 (t177 + 1))] rfl (by (try simp only [List.map_toArray, List.map_cons, List.map_nil]); first | done | rfl | (simp only [List.length_drop, List.length_take]; rfl)) ?_; (with_reducible refine (laws_heldIntS.calls k1 _ _ ((rd_T95 l0 x5_1).f4) (wrap64 (t177 + 1)) t180 _ ?side1 ?side2 A10.out).mono ?_); (case side1 => repeat (first | exact HR179_4.out | (with_reducible refine Kd.C_alloc ?_ _) | (with_reducible refine Kd.C_drewN ?_ _) | (with_reducible refine Kd.C_drew ?_))); (case side2 => exact HC179_4.out); rintro e w' ⟨rfl, ⟨nd, rfl⟩⟩; refine ⟨_, rfl, ?_⟩))
 go_roundg k1
 case measure => have := HK1.out; omega
 case rel => exact ⟨(t180), (wrap64 (x5_1 + 1)), (by first | rfl | (simp; done) | (simp [*]; done)), (by first | rfl | (simp; done) | (simp [*]; done)), H', ⟨by have := HK1.out; omega⟩, by repeat (first | exact Drawn0.refl _ | apply Drawn0.step)⟩

end Go.Proofs.Ytipfikmbldgliaa.PNN
