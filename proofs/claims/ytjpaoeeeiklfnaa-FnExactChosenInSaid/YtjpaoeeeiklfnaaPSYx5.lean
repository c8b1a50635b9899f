/- What this text proves: the machine calls of these functions return what the plain functions say. Conditions: as each theorem says. Printed by a program of this session out of the translation. -/
import Derived.Test.YtjpaoeeeiklfnaaPSYx0
import Derived.Test.YtjpaoeeeiklfnaaPSYx4
namespace Go.Proofs.Ytjpaoeeeiklfnaa.PSY
open Go.RowKit Go.Proofs.YtjpaoeeeiklfnaaW.PrintWords Go.Proofs.YtjpaoeeeiklfnaaW.PrintLast Go.Proofs.YtjpaoeeeiklfnaaW.PrintMore
attribute [local go_sem] max2_int min2_int max_two min_two max_three min_three max_four min_four   -- for this text's walks alone
set_option linter.unusedVariables false
set_option linter.unusedSimpArgs false

/-! ### spec_l1Value: function 40 -/
def spec_l1Value.l0 : Nat → ByteArray → Int → Option (Bool)
 | 0, _, _ => none
 | k + 1, x0, x3 => if x3 < (x0.size : Int) then (if 0 ≤ x3 then (if (bt x0 x3) < 32 then (some false) else (if (bt x0 x3) > 126 then (some false) else (if (bt x0 x3) = 59 then (some false) else (spec_l1Value.l0 k x0 (wrap64 (x3 + 1)))))) else (none)) else (some (decide ((x0.size : Int) ≤ 20)))
def spec_l1Value.f (k : Nat) (a0 : ByteArray) : Option (Bool) := spec_l1Value.l0 k a0 0
theorem spec_l1Value.mono_l : ∀ k, (∀ y0 y1, LeO (spec_l1Value.l0 k y0 y1) (spec_l1Value.l0 (k + 1) y0 y1))
 | 0 => fun _ _ r h => by simp [spec_l1Value.l0] at h
 | k + 1 => by
  have ih0 := spec_l1Value.mono_l k
  ·intro y0 y1
   unfold spec_l1Value.l0
   repeat' first
   | (with_reducible exact ih0 _ _)
   | (with_reducible exact LeO.refl _)
   | (with_reducible exact LeO.none _)
   | (with_reducible refine LeO.ite ?_ ?_)
   | (with_reducible refine LeO.bind ?_ (fun _ => ?_))
   | exact ih0 _ _
   | exact LeO.none _
   | refine LeO.ite ?_ ?_
   | refine LeO.bind ?_ (fun _ => ?_)
theorem spec_l1Value.mono : ∀ a0 k, LeO (spec_l1Value.f k a0) (spec_l1Value.f (k + 1) a0) := by
 intro a0 k
 have ih0 := spec_l1Value.mono_l k
 unfold spec_l1Value.f
 repeat' first
   | (with_reducible exact ih0 _ _)
   | (with_reducible exact LeO.refl _)
   | (with_reducible exact LeO.none _)
   | (with_reducible refine LeO.ite ?_ ?_)
   | (with_reducible refine LeO.bind ?_ (fun _ => ?_))
   | exact ih0 _ _
   | exact LeO.none _
   | refine LeO.ite ?_ ?_
   | refine LeO.bind ?_ (fun _ => ?_)
set_option maxHeartbeats 8000000 in
set_option maxRecDepth 100000 in
theorem spec_l1Value.calls (k : Nat) (a0 : ByteArray) (r : Bool) (w : World) (h : spec_l1Value.f k a0 = some r) :
  Calls Try.prog 40 #[.string a0] w fun e w' => e = .returned (.bool r) ∧ Drawn0 w w' := by
 have H : (spec_l1Value.l0 k a0 0) = some r := h
 clear h
 have H' := Aside0.mk H
 clear H
 go_enter Try.func40, Try.ntmps40
 go_wp2
 go_loopg [3] k (fun kq v3 w' => ∃ (x3_1 : Int), v3 = .int .i64 x3_1 ∧ Aside0 (spec_l1Value.l0 kq a0 x3_1 = some r) ∧ Aside0 (kq ≤ k) ∧ Drawn0 w w')
 case atStart => exact ⟨(0), (by first | rfl | (simp; done) | (simp [*]; done)), H', ⟨Nat.le_refl _⟩, by repeat (first | exact Drawn0.refl _ | apply Drawn0.step)⟩
 clear H'
 obtain ⟨x3_1, rfl, HA, HK1, ⟨m1, rfl⟩⟩ := hrel
 cases gk with
 | zero => exact absurd HA.out (by simp [spec_l1Value.l0])
 | succ k1 => ?_
 have H := HA.out
 clear HA
 simp only [spec_l1Value.l0] at H
 by_cases c2 : x3_1 < (a0.size : Int)
 rotate_left
 ·rw [if_neg c2] at H
  have c2b0 : decide (x3_1 < (a0.size : Int)) = false := decide_eq_false c2
  clear c2
  obtain rfl := Option.some.inj H
  go_wp2
  go_ret
  exact ⟨by first | rfl | (simp; done) | (simp [*]; done), by repeat (first | exact Drawn0.refl _ | apply Drawn0.step)⟩
 rw [if_pos c2] at H
 have c2b0 : decide (x3_1 < (a0.size : Int)) = true := decide_eq_true c2
 clear c2
 by_cases c3 : 0 ≤ x3_1
 rotate_left
 ·rw [if_neg c3] at H
  exact absurd H (by simp)
 rw [if_pos c3] at H
 have c3b0 : decide (0 ≤ x3_1) = true := decide_eq_true c3
 clear c3
 by_cases c5 : (bt a0 x3_1) < 32
 ·rw [if_pos c5] at H
  have c5b0 : decide ((bt a0 x3_1) < 32) = true := decide_eq_true c5
  clear c5
  obtain rfl := Option.some.inj H
  have p4 : 0 ≤ (x3_1 : Int) := of_decide_eq_true (by first | (with_reducible assumption) | assumption)
  have q4 : x3_1 < (a0.size : Int) := of_decide_eq_true (by first | (with_reducible assumption) | assumption)
  have hx4 := bt_at a0 x3_1
  replace p4 := eq_true p4
  replace q4 := eq_true q4
  go_wp2
  go_ret
  exact ⟨by first | rfl | (simp; done) | (simp [*]; done), by repeat (first | exact Drawn0.refl _ | apply Drawn0.step)⟩
 rw [if_neg c5] at H
 have c5b0 : decide ((bt a0 x3_1) < 32) = false := decide_eq_false c5
 clear c5
 by_cases c7 : (bt a0 x3_1) > 126
 ·rw [if_pos c7] at H
  have c7b0 : decide (126 < (bt a0 x3_1)) = true := decide_eq_true c7
  clear c7
  obtain rfl := Option.some.inj H
  have p4 : 0 ≤ (x3_1 : Int) := of_decide_eq_true (by first | (with_reducible assumption) | assumption)
  have q4 : x3_1 < (a0.size : Int) := of_decide_eq_true (by first | (with_reducible assumption) | assumption)
  have hx4 := bt_at a0 x3_1
  replace p4 := eq_true p4
  replace q4 := eq_true q4
  have p6 : 0 ≤ (x3_1 : Int) := of_decide_eq_true (by first | (with_reducible assumption) | assumption)
  have q6 : x3_1 < (a0.size : Int) := of_decide_eq_true (by first | (with_reducible assumption) | assumption)
  have hx6 := bt_at a0 x3_1
  replace p6 := eq_true p6
  replace q6 := eq_true q6
  go_wp2
  go_ret
  exact ⟨by first | rfl | (simp; done) | (simp [*]; done), by repeat (first | exact Drawn0.refl _ | apply Drawn0.step)⟩
 rw [if_neg c7] at H
 have c7b0 : decide (126 < (bt a0 x3_1)) = false := decide_eq_false c7
 clear c7
 by_cases c9 : (bt a0 x3_1) = 59
 ·rw [if_pos c9] at H
  have c9b0 : ((bt a0 x3_1) == 59) = true := beq_iff_eq.mpr c9
  have c9b1 : ((bt a0 x3_1) != 59) = false := bne_eq_false_iff_eq.mpr c9
  clear c9
  obtain rfl := Option.some.inj H
  have p4 : 0 ≤ (x3_1 : Int) := of_decide_eq_true (by first | (with_reducible assumption) | assumption)
  have q4 : x3_1 < (a0.size : Int) := of_decide_eq_true (by first | (with_reducible assumption) | assumption)
  have hx4 := bt_at a0 x3_1
  replace p4 := eq_true p4
  replace q4 := eq_true q4
  have p6 : 0 ≤ (x3_1 : Int) := of_decide_eq_true (by first | (with_reducible assumption) | assumption)
  have q6 : x3_1 < (a0.size : Int) := of_decide_eq_true (by first | (with_reducible assumption) | assumption)
  have hx6 := bt_at a0 x3_1
  replace p6 := eq_true p6
  replace q6 := eq_true q6
  have p8 : 0 ≤ (x3_1 : Int) := of_decide_eq_true (by first | (with_reducible assumption) | assumption)
  have q8 : x3_1 < (a0.size : Int) := of_decide_eq_true (by first | (with_reducible assumption) | assumption)
  have hx8 := bt_at a0 x3_1
  replace p8 := eq_true p8
  replace q8 := eq_true q8
  go_wp2
  go_ret
  exact ⟨by first | rfl | (simp; done) | (simp [*]; done), by repeat (first | exact Drawn0.refl _ | apply Drawn0.step)⟩
 rw [if_neg c9] at H
 have c9b0 : ((bt a0 x3_1) == 59) = false := beq_eq_false_iff_ne.mpr c9
 have c9b1 : ((bt a0 x3_1) != 59) = true := bne_iff_ne.mpr c9
 have H' := Aside0.mk H
 clear H
 have p4 : 0 ≤ (x3_1 : Int) := of_decide_eq_true (by first | (with_reducible assumption) | assumption)
 have q4 : x3_1 < (a0.size : Int) := of_decide_eq_true (by first | (with_reducible assumption) | assumption)
 have hx4 := bt_at a0 x3_1
 replace p4 := eq_true p4
 replace q4 := eq_true q4
 have p6 : 0 ≤ (x3_1 : Int) := of_decide_eq_true (by first | (with_reducible assumption) | assumption)
 have q6 : x3_1 < (a0.size : Int) := of_decide_eq_true (by first | (with_reducible assumption) | assumption)
 have hx6 := bt_at a0 x3_1
 replace p6 := eq_true p6
 replace q6 := eq_true q6
 have p8 : 0 ≤ (x3_1 : Int) := of_decide_eq_true (by first | (with_reducible assumption) | assumption)
 have q8 : x3_1 < (a0.size : Int) := of_decide_eq_true (by first | (with_reducible assumption) | assumption)
 have hx8 := bt_at a0 x3_1
 replace p8 := eq_true p8
 replace q8 := eq_true q8
 go_wp2
 go_roundg k1
 case measure => have := HK1.out; omega
 case rel => exact ⟨(wrap64 (x3_1 + 1)), (by first | rfl | (simp; done) | (simp [*]; done)), H', ⟨by have := HK1.out; omega⟩, by repeat (first | exact Drawn0.refl _ | apply Drawn0.step)⟩

/-! ### spec_l10Old: function 44 -/
def spec_l10Old.f (k : Nat) (a0 : Int) (a1 : Int) (a2 : ByteArray) : Option (Bool) := (spec_l1In.f a0 0 a1).bind fun t198 => (if t198 = true then ((spec_l1Value.f k a2).bind fun t199 => (if t199 = true then (if a0 > 0 then (some true) else (some (a2.toList == ([] : List UInt8)))) else (some false))) else (some false))
theorem spec_l10Old.mono : ∀ a0 a1 a2 k, LeO (spec_l10Old.f k a0 a1 a2) (spec_l10Old.f (k + 1) a0 a1 a2) := by
 intro a0 a1 a2 k
 unfold spec_l10Old.f
 repeat' first
   | (with_reducible exact spec_l1Value.mono _ _)
   | (with_reducible exact LeO.refl _)
   | (with_reducible exact LeO.none _)
   | (with_reducible refine LeO.ite ?_ ?_)
   | (with_reducible refine LeO.bind ?_ (fun _ => ?_))
   | exact spec_l1Value.mono _ _
   | exact LeO.none _
   | refine LeO.ite ?_ ?_
   | refine LeO.bind ?_ (fun _ => ?_)
set_option maxHeartbeats 8000000 in
set_option maxRecDepth 100000 in
theorem spec_l10Old.calls (k : Nat) (a0 : Int) (a1 : Int) (a2 : ByteArray) (r : Bool) (w : World) (h : spec_l10Old.f k a0 a1 a2 = some r) :
  Calls Try.prog 44 #[.int .i64 a0, .int .i64 a1, .string a2] w fun e w' => e = .returned (.bool r) ∧ Drawn0 w w' := by
 have H : ((spec_l1In.f a0 0 a1).bind fun t198 => (if t198 = true then ((spec_l1Value.f k a2).bind fun t199 => (if t199 = true then (if a0 > 0 then (some true) else (some (a2.toList == ([] : List UInt8)))) else (some false))) else (some false))) = some r := h
 clear h
 replace H := Option.bind_eq_some_iff.mp H
 obtain ⟨t198, A40, H⟩ := H
 replace H : (if t198 = true then ((spec_l1Value.f k a2).bind fun t199 => (if t199 = true then (if a0 > 0 then (some true) else (some (a2.toList == ([] : List UInt8)))) else (some false))) else (some false)) = some r := H
 have A4 := Aside0.mk A40
 clear A40
 by_cases c5 : t198 = true
 rotate_left
 ·replace c5 := Bool.eq_false_iff.mpr c5
  subst c5
  have H1 : (some false) = some r := by rw [if_neg (show ¬ (false = true) by decide)] at H; exact H
  clear H
  have H := H1
  clear H1
  obtain rfl := Option.some.inj H
  go_enter Try.func44, Try.ntmps44
  go_wp2_with (first | ((with_reducible refine gate_callee (f := 39) rfl ?_); refine goesL_ (some 9) rfl rfl Try.func39 (by kernel_rfl) rfl #[.int .i64 a0, .int .i64 0, .int .i64 a1] rfl nc_ ?_; (with_reducible refine (spec_l1In.calls a0 0 a1 false _ A4.out).mono ?_); rintro e w' ⟨rfl, ⟨nd, rfl⟩⟩; refine ⟨_, rfl, ?_⟩))
  go_ret
  exact ⟨by first | rfl | (simp; done) | (simp [*]; done), by repeat (first | exact Drawn0.refl _ | apply Drawn0.step)⟩
 subst c5
 have H1 : ((spec_l1Value.f k a2).bind fun t199 => (if t199 = true then (if a0 > 0 then (some true) else (some (a2.toList == ([] : List UInt8)))) else (some false))) = some r := by rw [if_pos rfl] at H; exact H
 clear H
 have H := H1
 clear H1
 replace H := Option.bind_eq_some_iff.mp H
 obtain ⟨t199, A60, H⟩ := H
 replace H : (if t199 = true then (if a0 > 0 then (some true) else (some (a2.toList == ([] : List UInt8)))) else (some false)) = some r := H
 have A6 := Aside0.mk A60
 clear A60
 by_cases c7 : t199 = true
 rotate_left
 ·replace c7 := Bool.eq_false_iff.mpr c7
  subst c7
  have H1 : (some false) = some r := by rw [if_neg (show ¬ (false = true) by decide)] at H; exact H
  clear H
  have H := H1
  clear H1
  obtain rfl := Option.some.inj H
  go_enter Try.func44, Try.ntmps44
  go_wp2_with (first | ((with_reducible refine gate_callee (f := 39) rfl ?_); refine goesL_ (some 9) rfl rfl Try.func39 (by kernel_rfl) rfl #[.int .i64 a0, .int .i64 0, .int .i64 a1] rfl nc_ ?_; (with_reducible refine (spec_l1In.calls a0 0 a1 true _ A4.out).mono ?_); rintro e w' ⟨rfl, ⟨nd, rfl⟩⟩; refine ⟨_, rfl, ?_⟩) | (go_at_call 40; (with_reducible refine (spec_l1Value.calls k a2 false _ A6.out).mono ?_); rintro e w' ⟨rfl, ⟨nd, rfl⟩⟩))
  go_ret
  exact ⟨by first | rfl | (simp; done) | (simp [*]; done), by repeat (first | exact Drawn0.refl _ | apply Drawn0.step)⟩
 subst c7
 have H1 : (if a0 > 0 then (some true) else (some (a2.toList == ([] : List UInt8)))) = some r := by rw [if_pos rfl] at H; exact H
 clear H
 have H := H1
 clear H1
 by_cases c8 : a0 > 0
 ·rw [if_pos c8] at H
  have c8b0 : decide (0 < a0) = true := decide_eq_true c8
  clear c8
  obtain rfl := Option.some.inj H
  go_enter Try.func44, Try.ntmps44
  go_wp2_with (first | ((with_reducible refine gate_callee (f := 39) rfl ?_); refine goesL_ (some 9) rfl rfl Try.func39 (by kernel_rfl) rfl #[.int .i64 a0, .int .i64 0, .int .i64 a1] rfl nc_ ?_; (with_reducible refine (spec_l1In.calls a0 0 a1 true _ A4.out).mono ?_); rintro e w' ⟨rfl, ⟨nd, rfl⟩⟩; refine ⟨_, rfl, ?_⟩) | (go_at_call 40; (with_reducible refine (spec_l1Value.calls k a2 true _ A6.out).mono ?_); rintro e w' ⟨rfl, ⟨nd, rfl⟩⟩))
  go_ret
  exact ⟨by first | rfl | (simp; done) | (simp [*]; done), by repeat (first | exact Drawn0.refl _ | apply Drawn0.step)⟩
 rw [if_neg c8] at H
 have c8b0 : decide (0 < a0) = false := decide_eq_false c8
 clear c8
 obtain rfl := Option.some.inj H
 go_enter Try.func44, Try.ntmps44
 go_wp2_with (first | ((with_reducible refine gate_callee (f := 39) rfl ?_); refine goesL_ (some 9) rfl rfl Try.func39 (by kernel_rfl) rfl #[.int .i64 a0, .int .i64 0, .int .i64 a1] rfl nc_ ?_; (with_reducible refine (spec_l1In.calls a0 0 a1 true _ A4.out).mono ?_); rintro e w' ⟨rfl, ⟨nd, rfl⟩⟩; refine ⟨_, rfl, ?_⟩) | (go_at_call 40; (with_reducible refine (spec_l1Value.calls k a2 true _ A6.out).mono ?_); rintro e w' ⟨rfl, ⟨nd, rfl⟩⟩))
 go_ret
 exact ⟨by first | rfl | (simp; done) | (simp [*]; done), by repeat (first | exact Drawn0.refl _ | apply Drawn0.step)⟩

/-! ### spec_l10Value: function 45 -/
def spec_l10Value.l0 : Nat → Int → ByteArray → List (S73) → Int → Int → Option (ByteArray)
 | 0, _, _, _, _, _ => none
 | k + 1, x3, x4, x10, x11, x12 => if x12 < x11 then (if 0 ≤ x12 then (if x12 < (x10.length : Int) then (if ((rd_T73 x10 x12).f1) > x3 then (spec_l10Value.l0 k ((rd_T73 x10 x12).f1) ((rd_T73 x10 x12).f2) x10 x11 (wrap64 (x12 + 1))) else (spec_l10Value.l0 k x3 x4 x10 x11 (wrap64 (x12 + 1)))) else (none)) else (none)) else (some x4)
def spec_l10Value.f (k : Nat) (a0_0 : ByteArray) (l0_1 : List (S73)) (a0_2 : Bool) (a0_3 : ByteArray) (l0_4 : List Int) : Option (ByteArray) := spec_l10Value.l0 k 0 a0_0 l0_1 (l0_1.length : Int) 0
theorem spec_l10Value.mono_l : ∀ k, (∀ y0 y1 y2 y3 y4, LeO (spec_l10Value.l0 k y0 y1 y2 y3 y4) (spec_l10Value.l0 (k + 1) y0 y1 y2 y3 y4))
 | 0 => fun _ _ _ _ _ r h => by simp [spec_l10Value.l0] at h
 | k + 1 => by
  have ih0 := spec_l10Value.mono_l k
  ·intro y0 y1 y2 y3 y4
   unfold spec_l10Value.l0
   repeat' first
   | (with_reducible exact ih0 _ _ _ _ _)
   | (with_reducible exact LeO.refl _)
   | (with_reducible exact LeO.none _)
   | (with_reducible refine LeO.ite ?_ ?_)
   | (with_reducible refine LeO.bind ?_ (fun _ => ?_))
   | exact ih0 _ _ _ _ _
   | exact LeO.none _
   | refine LeO.ite ?_ ?_
   | refine LeO.bind ?_ (fun _ => ?_)
theorem spec_l10Value.mono : ∀ a0 a1 a2 a3 a4 k, LeO (spec_l10Value.f k a0 a1 a2 a3 a4) (spec_l10Value.f (k + 1) a0 a1 a2 a3 a4) := by
 intro a0 a1 a2 a3 a4 k
 have ih0 := spec_l10Value.mono_l k
 unfold spec_l10Value.f
 repeat' first
   | (with_reducible exact ih0 _ _ _ _ _)
   | (with_reducible exact LeO.refl _)
   | (with_reducible exact LeO.none _)
   | (with_reducible refine LeO.ite ?_ ?_)
   | (with_reducible refine LeO.bind ?_ (fun _ => ?_))
   | exact ih0 _ _ _ _ _
   | exact LeO.none _
   | refine LeO.ite ?_ ?_
   | refine LeO.bind ?_ (fun _ => ?_)
set_option maxHeartbeats 8000000 in
set_option maxRecDepth 100000 in
theorem spec_l10Value.calls (k : Nat) (a0_0 : ByteArray) (A0_1 : Option Addr) (c0_1 : Nat) (l0_1 : List (S73)) (a0_2 : Bool) (a0_3 : ByteArray) (A0_4 : Option Addr) (c0_4 : Nat) (l0_4 : List Int) (r : ByteArray) (w : World) (hr0_1 : Kd.C k73 w A0_1 l0_1.length l0_1) (hc0_1 : l0_1.length ≤ c0_1) (hr0_4 : Kd.C (Kd.int .i64) w A0_4 l0_4.length l0_4) (hc0_4 : l0_4.length ≤ c0_4) (h : spec_l10Value.f k a0_0 l0_1 a0_2 a0_3 l0_4 = some r) :
  Calls Try.prog 45 #[.agg #[.string a0_0, .slice A0_1 l0_1.length c0_1, .bool a0_2, .string a0_3, .slice A0_4 l0_4.length c0_4]] w fun e w' => e = .returned (.string r) ∧ Below w.heap.size w w' := by
 have hu54 := Try.underlying54
 have hu73 := Try.underlying73
 have HR0_1 := Aside0.mk hr0_1
 have HC0_1 := Aside0.mk hc0_1
 clear hr0_1 hc0_1
 have HR0_4 := Aside0.mk hr0_4
 have HC0_4 := Aside0.mk hc0_4
 clear hr0_4 hc0_4
 have HB := Aside0.mk (Below.refl w.heap.size w)
 have H : (spec_l10Value.l0 k 0 a0_0 l0_1 (l0_1.length : Int) 0) = some r := h
 clear h
 have H' := Aside0.mk H
 clear H
 go_enter Try.func45, Try.ntmps45
 go_wp2_with (first | ((with_reducible refine gate_dst (N := 1) rfl ?_); refine box_event rfl (N := 1) rfl (cs := #[.string a0_0, .slice A0_1 l0_1.length c0_1, .bool a0_2, .string a0_3, .slice A0_4 l0_4.length c0_4]) (t := 54) gs_ ?_; intro gb200 hg w2 hbox hb; have BK200 := Aside0.mk (hbox); have GW200 := Aside0.mk ((by rw [hg]; exact bz_ : w.heap.size ≤ gb200)); have GE200 := GW200; replace HB := Aside0.mk (below_step bl_ hb); clear hb hbox hg; have hcz3_0 : w2.cell? ⟨gb200, 0, none⟩ = some (.string a0_0) := bc_ BK200.out 0; have hcz3_1 : w2.cell? ⟨gb200, 1, none⟩ = some (.slice A0_1 l0_1.length c0_1) := bc_ BK200.out 1; have hcz3_2 : w2.cell? ⟨gb200, 2, none⟩ = some (.bool a0_2) := bc_ BK200.out 2; have hcz3_3 : w2.cell? ⟨gb200, 3, none⟩ = some (.string a0_3) := bc_ BK200.out 3; have hcz3_4 : w2.cell? ⟨gb200, 4, none⟩ = some (.slice A0_4 l0_4.length c0_4) := bc_ BK200.out 4; have hfz3_0 := blk_frozen BK200.out 0; have hfz3_1 := blk_frozen BK200.out 1; have hfz3_2 := blk_frozen BK200.out 2; have hfz3_3 := blk_frozen BK200.out 3; have hfz3_4 := blk_frozen BK200.out 4))
 go_loopg [3, 4, 12] k (fun kq v3 v4 v12 w' => ∃ (x3_1 : Int) (x4_1 : ByteArray) (x12_1 : Int), v3 = .int .i64 x3_1 ∧ v4 = .string x4_1 ∧ v12 = .int .i64 x12_1 ∧ Aside0 (spec_l10Value.l0 kq x3_1 x4_1 l0_1 (l0_1.length : Int) x12_1 = some r) ∧ Aside0 (kq ≤ k) ∧ Aside0 (w'.heap[gb200]? = some (.cells #[.string a0_0, (.slice A0_1 l0_1.length c0_1), .bool a0_2, .string a0_3, (.slice A0_4 l0_4.length c0_4)] 54 (0, 0))) ∧ Aside0 (Below w.heap.size w w'))
 case atStart => exact ⟨(0), (a0_0), (0), (by first | rfl | (simp; done) | (simp [*]; done)), (by first | rfl | (simp; done) | (simp [*]; done)), (by first | rfl | (simp; done) | (simp [*]; done)), H', ⟨Nat.le_refl _⟩, ⟨by exact kb_ BK200.out⟩, ⟨bl_⟩⟩
 clear H'
 try clear p2
 try clear hcz3_0
 try clear hcz3_1
 try clear hcz3_2
 try clear hcz3_3
 try clear hcz3_4
 try clear hfz3_0
 try clear hfz3_1
 try clear hfz3_2
 try clear hfz3_3
 try clear hfz3_4
 obtain ⟨x3_1, x4_1, x12_1, rfl, rfl, rfl, HA, HK1, BK200, HB⟩ := hrel
 cases gk with
 | zero => exact absurd HA.out (by simp [spec_l10Value.l0])
 | succ k1 => ?_
 have H := HA.out
 clear HA
 simp only [spec_l10Value.l0] at H
 by_cases c4 : x12_1 < (l0_1.length : Int)
 rotate_left
 ·rw [if_neg c4] at H
  have c4b0 : decide (x12_1 < (l0_1.length : Int)) = false := decide_eq_false c4
  clear c4
  obtain rfl := Option.some.inj H
  go_wp2
  go_ret
  exact ⟨ng_, bl_⟩
 rw [if_pos c4] at H
 have c4b0 : decide (x12_1 < (l0_1.length : Int)) = true := decide_eq_true c4
 clear c4
 by_cases c5 : 0 ≤ x12_1
 rotate_left
 ·rw [if_neg c5] at H
  exact absurd H (by simp)
 rw [if_pos c5] at H
 have c5b0 : decide (0 ≤ x12_1) = true := decide_eq_true c5
 clear c5
 by_cases c6 : x12_1 < (l0_1.length : Int)
 rotate_left
 ·rw [if_neg c6] at H
  exact absurd H (by simp)
 rw [if_pos c6] at H
 have c6b0 : decide (x12_1 < (l0_1.length : Int)) = true := decide_eq_true c6
 clear c6
 by_cases c7 : ((rd_T73 l0_1 x12_1).f1) > x3_1
 rotate_left
 ·rw [if_neg c7] at H
  have c7b0 : decide (x3_1 < ((rd_T73 l0_1 x12_1).f1)) = false := decide_eq_false c7
  clear c7
  have H' := Aside0.mk H
  clear H
  have p201 : 0 ≤ (x12_1 : Int) := of_decide_eq_true (by first | (with_reducible assumption) | assumption)
  have q201 : x12_1 < (l0_1.length : Int) := of_decide_eq_true (by first | (with_reducible assumption) | assumption)
  obtain ⟨ad201, e201, hx201_0, hx201_1, hx201_2⟩ := at_T73 HR0_1.out x12_1 p201 q201
  cases e201
  replace hx201_0 := (HB.out.cell (World.block_lt_of_cell? w _ hx201_0)).trans hx201_0
  replace hx201_1 := (HB.out.cell (World.block_lt_of_cell? w _ hx201_1)).trans hx201_1
  replace hx201_2 := (HB.out.cell (World.block_lt_of_cell? w _ hx201_2)).trans hx201_2
  replace p201 := eq_true p201
  replace q201 := eq_true q201
  go_wp2_with (first | ((with_reducible refine gate_dst (N := 6) rfl ?_); refine box_event rfl (N := 6) rfl (cs := #[.int .i64 0, .int .i64 0, .string (⟨#[]⟩ : ByteArray)]) (t := 73) gs_ ?_; intro gb202 hg w11 hbox hb; have BK202 := Aside0.mk (hbox); have GW202 := Aside0.mk ((by rw [hg]; exact bz_ : w.heap.size ≤ gb202)); have GE202 := GW202; replace HB := Aside0.mk (below_step bl_ hb); have NB200_202 := nl_ hg BK200; have NB202_200 := nm_ hg BK200; replace BK200 := bb_ BK200 hb; clear hb hbox hg; have hnb12 := NB202_200.out; have hnc12 := NB200_202.out; have hcz13_0 : w11.cell? ⟨gb202, 0, none⟩ = some (.int .i64 0) := bc_ BK202.out 0; have hcz13_1 : w11.cell? ⟨gb202, 1, none⟩ = some (.int .i64 0) := bc_ BK202.out 1; have hcz13_2 : w11.cell? ⟨gb202, 2, none⟩ = some (.string (⟨#[]⟩ : ByteArray)) := bc_ BK202.out 2; have hfz13_0 := blk_frozen BK202.out 0; have hfz13_1 := blk_frozen BK202.out 1; have hfz13_2 := blk_frozen BK202.out 2))
  go_roundg k1
  case measure => have := HK1.out; omega
  case rel => exact ⟨(x3_1), (x4_1), (wrap64 (x12_1 + 1)), (by first | rfl | (simp; done) | (simp [*]; done)), (by first | rfl | (simp; done) | (simp [*]; done)), (by first | rfl | (simp; done) | (simp [*]; done)), H', ⟨by have := HK1.out; omega⟩, ⟨kz_⟩, ⟨bl_⟩⟩
 rw [if_pos c7] at H
 have c7b0 : decide (x3_1 < ((rd_T73 l0_1 x12_1).f1)) = true := decide_eq_true c7
 clear c7
 have H' := Aside0.mk H
 clear H
 have p201 : 0 ≤ (x12_1 : Int) := of_decide_eq_true (by first | (with_reducible assumption) | assumption)
 have q201 : x12_1 < (l0_1.length : Int) := of_decide_eq_true (by first | (with_reducible assumption) | assumption)
 obtain ⟨ad201, e201, hx201_0, hx201_1, hx201_2⟩ := at_T73 HR0_1.out x12_1 p201 q201
 cases e201
 replace hx201_0 := (HB.out.cell (World.block_lt_of_cell? w _ hx201_0)).trans hx201_0
 replace hx201_1 := (HB.out.cell (World.block_lt_of_cell? w _ hx201_1)).trans hx201_1
 replace hx201_2 := (HB.out.cell (World.block_lt_of_cell? w _ hx201_2)).trans hx201_2
 replace p201 := eq_true p201
 replace q201 := eq_true q201
 go_wp2_with (first | ((with_reducible refine gate_dst (N := 6) rfl ?_); refine box_event rfl (N := 6) rfl (cs := #[.int .i64 0, .int .i64 0, .string (⟨#[]⟩ : ByteArray)]) (t := 73) gs_ ?_; intro gb202 hg w8 hbox hb; have BK202 := Aside0.mk (hbox); have GW202 := Aside0.mk ((by rw [hg]; exact bz_ : w.heap.size ≤ gb202)); have GE202 := GW202; replace HB := Aside0.mk (below_step bl_ hb); have NB200_202 := nl_ hg BK200; have NB202_200 := nm_ hg BK200; replace BK200 := bb_ BK200 hb; clear hb hbox hg; have hnb9 := NB202_200.out; have hnc9 := NB200_202.out; have hcz10_0 : w8.cell? ⟨gb202, 0, none⟩ = some (.int .i64 0) := bc_ BK202.out 0; have hcz10_1 : w8.cell? ⟨gb202, 1, none⟩ = some (.int .i64 0) := bc_ BK202.out 1; have hcz10_2 : w8.cell? ⟨gb202, 2, none⟩ = some (.string (⟨#[]⟩ : ByteArray)) := bc_ BK202.out 2; have hfz10_0 := blk_frozen BK202.out 0; have hfz10_1 := blk_frozen BK202.out 1; have hfz10_2 := blk_frozen BK202.out 2))
 go_roundg k1
 case measure => have := HK1.out; omega
 case rel => exact ⟨((rd_T73 l0_1 x12_1).f1), ((rd_T73 l0_1 x12_1).f2), (wrap64 (x12_1 + 1)), (by first | rfl | (simp; done) | (simp [*]; done)), (by first | rfl | (simp; done) | (simp [*]; done)), (by first | rfl | (simp; done) | (simp [*]; done)), H', ⟨by have := HK1.out; omega⟩, ⟨kz_⟩, ⟨bl_⟩⟩

end Go.Proofs.Ytjpaoeeeiklfnaa.PSY
