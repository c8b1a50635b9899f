/- What this text proves: the machine calls of these functions return what the plain functions say. Conditions: as each theorem says. Printed by a program of this session out of the translation. -/
import Derived.Test.YtdnapgnnliibfaaPATx0
import Derived.Test.YtdnapgnnliibfaaPATx1
import Derived.Test.YtdnapgnnliibfaaPATx3
import Derived.Test.YtdnapgnnliibfaaPATx8
import Derived.Test.YtdnapgnnliibfaaPATx24
namespace Go.Proofs.Ytdnapgnnliibfaa.PAT
open Go.RowKit Go.Proofs.YtdnapgnnliibfaaW.PrintWords Go.Proofs.YtdnapgnnliibfaaW.PrintLast Go.Proofs.YtdnapgnnliibfaaW.PrintMore
attribute [local go_sem] max2_int min2_int max_two min_two max_three min_three max_four min_four   -- for this text's walks alone
set_option linter.unusedVariables false
set_option linter.unusedSimpArgs false

attribute [local go_sem high] eqA48
-- NOT PRINTED: function 80 (impl_Add_80)

-- NOT PRINTED: function 94 (impl_Add_94)

-- NOT PRINTED: function 81 (impl_Add_81)

-- NOT PRINTED: function 82 (impl_Add_82)

-- NOT PRINTED: function 98 (impl_Add_98)

-- NOT PRINTED: function 96 (impl_Add_96)

-- NOT PRINTED: function 95 (impl_Add_95)

-- NOT PRINTED: function 83 (impl_Add_83)

-- NOT PRINTED: function 84 (impl_Add_84)

-- NOT PRINTED: function 85 (impl_Add_85)

-- NOT PRINTED: function 86 (impl_Add_86)

-- NOT PRINTED: function 87 (impl_Add_87)

-- NOT PRINTED: function 67 (impl_Add_67)

-- NOT PRINTED: function 59 (impl_Add_59)

/-! ### impl_Add_60: function 60 -/
mutual
def impl_Add_60.l0 : Nat → List (S48) → Int → Option ((List (S48)))
 | 0, _, _ => none
 | k + 1, x0, x3 => if x3 < (x0.length : Int) then (if 0 ≤ x3 then (if 0 ≤ (wrap64 (x3 - 1)) then (if (wrap64 (x3 - 1)) < (x0.length : Int) then (if ((((rd_T48 x0 x3).f0).toList) == (((rd_T48 x0 (wrap64 (x3 - 1))).f0).toList) && (((rd_T48 x0 x3).f1) == ((rd_T48 x0 (wrap64 (x3 - 1))).f1) && (((rd_T48 x0 x3).f2) == ((rd_T48 x0 (wrap64 (x3 - 1))).f2)))) = true then (none) else (impl_Add_60.l0 k x0 (wrap64 (x3 + 1)))) else (none)) else (none)) else (none)) else (some x0)
def impl_Add_60.l1 : Nat → List (S48) → Int → List (S48) → Int → Option ((List (S48)))
 | 0, _, _, _, _ => none
 | k + 1, x0, x3, x4, x5 => if x5 < (x4.length : Int) then (if 0 ≤ x5 then (if 0 ≤ (wrap64 (x5 - 1)) then (if (wrap64 (x5 - 1)) < (x4.length : Int) then (if (!((((rd_T48 x4 x5).f0).toList) == (((rd_T48 x4 (wrap64 (x5 - 1))).f0).toList)) || (!(((rd_T48 x4 x5).f1) == ((rd_T48 x4 (wrap64 (x5 - 1))).f1)) || (!(((rd_T48 x4 x5).f2) == ((rd_T48 x4 (wrap64 (x5 - 1))).f2))))) = true then (if 0 ≤ x3 then (if x3 < (x0.length : Int) then (impl_Add_60.l1 k x0 (wrap64 (x3 + 1)) x4 (wrap64 (x5 + 1))) else (none)) else (none)) else (impl_Add_60.l1 k x0 x3 x4 (wrap64 (x5 + 1)))) else (none)) else (none)) else (none)) else (if 0 ≤ x3 then (if x3 ≤ (x0.length : Int) then (some (x0.take (x3 : Int).toNat)) else (none)) else (none))
end
def impl_Add_60.f (k : Nat) (l0 : List (S48)) : Option ((List (S48))) := if (l0.length : Int) < 2 then (some l0) else (impl_Add_60.l0 k l0 1)
theorem impl_Add_60.mono_l : ∀ k, (∀ y0 y1, LeO (impl_Add_60.l0 k y0 y1) (impl_Add_60.l0 (k + 1) y0 y1)) ∧ (∀ y0 y1 y2 y3, LeO (impl_Add_60.l1 k y0 y1 y2 y3) (impl_Add_60.l1 (k + 1) y0 y1 y2 y3))
 | 0 => ⟨fun _ _ r h => by simp [impl_Add_60.l0] at h, fun _ _ _ _ r h => by simp [impl_Add_60.l1] at h⟩
 | k + 1 => by
  obtain ⟨ih0, ih1⟩ := impl_Add_60.mono_l k
  refine ⟨?_, ?_⟩
  ·intro y0 y1
   unfold impl_Add_60.l0
   repeat' first
   | (with_reducible exact ih0 _ _)
   | (with_reducible exact ih1 _ _ _ _)
   | (with_reducible exact LeO.refl _)
   | (with_reducible exact LeO.none _)
   | (with_reducible refine LeO.ite ?_ ?_)
   | (with_reducible refine LeO.bind ?_ (fun _ => ?_))
   | exact ih0 _ _
   | exact ih1 _ _ _ _
   | exact LeO.none _
   | refine LeO.ite ?_ ?_
   | refine LeO.bind ?_ (fun _ => ?_)
  ·intro y0 y1 y2 y3
   unfold impl_Add_60.l1
   repeat' first
   | (with_reducible exact ih0 _ _)
   | (with_reducible exact ih1 _ _ _ _)
   | (with_reducible exact LeO.refl _)
   | (with_reducible exact LeO.none _)
   | (with_reducible refine LeO.ite ?_ ?_)
   | (with_reducible refine LeO.bind ?_ (fun _ => ?_))
   | exact ih0 _ _
   | exact ih1 _ _ _ _
   | exact LeO.none _
   | refine LeO.ite ?_ ?_
   | refine LeO.bind ?_ (fun _ => ?_)
theorem impl_Add_60.mono : ∀ a0 k, LeO (impl_Add_60.f k a0) (impl_Add_60.f (k + 1) a0) := by
 intro a0 k
 obtain ⟨ih0, ih1⟩ := impl_Add_60.mono_l k
 unfold impl_Add_60.f
 repeat' first
   | (with_reducible exact ih0 _ _)
   | (with_reducible exact ih1 _ _ _ _)
   | (with_reducible exact LeO.refl _)
   | (with_reducible exact LeO.none _)
   | (with_reducible refine LeO.ite ?_ ?_)
   | (with_reducible refine LeO.bind ?_ (fun _ => ?_))
   | exact ih0 _ _
   | exact ih1 _ _ _ _
   | exact LeO.none _
   | refine LeO.ite ?_ ?_
   | refine LeO.bind ?_ (fun _ => ?_)
set_option maxHeartbeats 8000000 in
set_option maxRecDepth 100000 in
theorem impl_Add_60.calls (k : Nat) (P0_ : Nat → Prop) (u9000_ : Value) (l0 : List (S48)) (r : List (S48)) (w0 w : World) (hB : Below w0.heap.size w0 w) (ho0 : Kd.R k48 48 w w0.heap.size P0_ u9000_ l0) (h : impl_Add_60.f k l0 = some r) :
  Calls Try.prog 60 #[u9000_] w fun e w' => ∃ v0_ : Value, e = .returned (v0_) ∧ Kd.R k48 48 w' w0.heap.size (fun k_ => (P0_ k_ ∨ w.heap.size ≤ k_)) v0_ r ∧ Below w0.heap.size w0 w' ∧ Kept w w' (fun k_ => P0_ k_) := by
 have hu48 := Try.underlying48
 have HO0 := Aside0.mk (show Kd.R k48 48 w w0.heap.size (fun k_ => (P0_ k_ ∨ w.heap.size ≤ k_)) u9000_ l0 from Kd.R_mono ho0 (fun k_ hk => (.inl hk)))
 have HK := Aside0.mk (Kept.refl w (fun k_ => P0_ k_))
 have HW0 := Aside0.mk hB.size
 have HB := Aside0.mk hB
 clear hB
 have H : (if (l0.length : Int) < 2 then (some l0) else (impl_Add_60.l0 k l0 1)) = some r := h
 clear h
 by_cases c2 : (l0.length : Int) < 2
 ·rw [if_pos c2] at H
  have c2b0 : decide ((l0.length : Int) < 2) = true := decide_eq_true c2
  have c2b1 : decide (l0.length < 2) = true := decide_eq_true (by omega)
  clear c2
  obtain rfl := Option.some.inj H
  obtain ⟨Ao3, co3, eo3⟩ := Kd.R_slice HO0.out
  subst eo3
  go_enter Try.func60, Try.ntmps60
  go_wp2
  repeat (go_quiet (fail); try go_wp2)
  go_ret
  exact ⟨_, ng_, by exact kr_ HO0.out, bl_, by repeat (first | (with_reducible first | exact HK.out | apply Kept.alloc | apply Kept.drewN | apply Kept.drew) | exact HK.out)⟩
 rw [if_neg c2] at H
 have c2b0 : decide ((l0.length : Int) < 2) = false := decide_eq_false c2
 have c2b1 : decide (l0.length < 2) = false := decide_eq_false (by omega)
 clear c2
 have H' := Aside0.mk H
 clear H
 obtain ⟨Ao4, co4, eo4⟩ := Kd.R_slice HO0.out
 subst eo4
 go_enter Try.func60, Try.ntmps60
 go_wp2
 repeat (go_quiet (fail); try go_wp2)
 go_loopg [3] k (fun kq v3 w' => ∃ (x3_1 : Int), v3 = .int .i64 x3_1 ∧ Aside0 (impl_Add_60.l0 kq l0 x3_1 = some r) ∧ Aside0 (kq ≤ k) ∧ Aside0 (Kd.R k48 48 w' w0.heap.size (fun k_ => (P0_ k_ ∨ w.heap.size ≤ k_)) (.slice Ao4 l0.length co4) l0) ∧ Aside0 (Kept w w' (fun k_ => P0_ k_)) ∧ Aside0 (Below w0.heap.size w0 w'))
 case atStart => exact ⟨(1), (by first | rfl | (simp; done) | (simp [*]; done)), H', ⟨Nat.le_refl _⟩, ⟨by exact kr_ HO0.out⟩, ⟨by repeat (first | (with_reducible first | exact HK.out | apply Kept.alloc | apply Kept.drewN | apply Kept.drew) | exact HK.out)⟩, ⟨bl_⟩⟩
 clear H'
 try clear c2
 try clear c2b0
 try clear c2b1
 try clear p2
 obtain ⟨x3_1, rfl, HA, HK1, HO_0, HK, HB⟩ := hrel
 cases gk with
 | zero => exact absurd HA.out (by simp [impl_Add_60.l0])
 | succ k1 => ?_
 have H := HA.out
 clear HA
 simp only [impl_Add_60.l0] at H
 by_cases c5 : x3_1 < (l0.length : Int)
 rotate_left
 ·rw [if_neg c5] at H
  have c5b0 : decide (x3_1 < (l0.length : Int)) = false := decide_eq_false c5
  clear c5
  obtain rfl := Option.some.inj H
  go_wp2
  repeat (go_quiet (fail); try go_wp2)
  go_ret
  exact ⟨_, ng_, by exact kr_ HO_0.out, bl_, by repeat (first | (with_reducible first | exact HK.out | apply Kept.alloc | apply Kept.drewN | apply Kept.drew) | exact HK.out)⟩
 rw [if_pos c5] at H
 have c5b0 : decide (x3_1 < (l0.length : Int)) = true := decide_eq_true c5
 clear c5
 by_cases c6 : 0 ≤ x3_1
 rotate_left
 ·rw [if_neg c6] at H
  exact absurd H (by simp)
 rw [if_pos c6] at H
 have c6b0 : decide (0 ≤ x3_1) = true := decide_eq_true c6
 clear c6
 obtain ⟨ji7, hji7⟩ : ∃ j_ : Int, (wrap64 (x3_1 - 1)) = j_ := ⟨_, rfl⟩
 replace H : (if 0 ≤ (ji7) then (if (ji7) < (l0.length : Int) then (if ((((rd_T48 l0 x3_1).f0).toList) == (((rd_T48 l0 (ji7)).f0).toList) && (((rd_T48 l0 x3_1).f1) == ((rd_T48 l0 (ji7)).f1) && (((rd_T48 l0 x3_1).f2) == ((rd_T48 l0 (ji7)).f2)))) = true then (none) else (impl_Add_60.l0 k1 l0 (wrap64 (x3_1 + 1)))) else (none)) else (none)) = some r := by first | (rw [hji7] at H; exact H) | (simp only [hji7] at H ⊢; exact H)
 have hji7w : (IntKind.i64.wrap (x3_1 - 1)) = ji7 := (i64_w _).trans hji7
 by_cases c8 : 0 ≤ (ji7)
 rotate_left
 ·rw [if_neg c8] at H
  exact absurd H (by simp)
 rw [if_pos c8] at H
 have c8b0 : decide (0 ≤ (ji7)) = true := decide_eq_true c8
 clear c8
 by_cases c9 : (ji7) < (l0.length : Int)
 rotate_left
 ·rw [if_neg c9] at H
  exact absurd H (by simp)
 rw [if_pos c9] at H
 have c9b0 : decide ((ji7) < (l0.length : Int)) = true := decide_eq_true c9
 clear c9
 by_cases c10 : ((((rd_T48 l0 x3_1).f0).toList) == (((rd_T48 l0 (ji7)).f0).toList) && (((rd_T48 l0 x3_1).f1) == ((rd_T48 l0 (ji7)).f1) && (((rd_T48 l0 x3_1).f2) == ((rd_T48 l0 (ji7)).f2)))) = true
 rotate_left
 ·rw [if_neg c10] at H
  have c10b0 : ((((rd_T48 l0 x3_1).f0).toList) == (((rd_T48 l0 (ji7)).f0).toList) && (((rd_T48 l0 x3_1).f1) == ((rd_T48 l0 (ji7)).f1) && (((rd_T48 l0 x3_1).f2) == ((rd_T48 l0 (ji7)).f2)))) = false := by simpa using c10
  (try (have c10b1 : decide ((((rd_T48 l0 x3_1).f0).toList) = (((rd_T48 l0 (ji7)).f0).toList) && (((rd_T48 l0 x3_1).f1) == ((rd_T48 l0 (ji7)).f1) && (((rd_T48 l0 x3_1).f2) == ((rd_T48 l0 (ji7)).f2)))) = false := by simpa using c10))
  (try (have c10b2 : ((((rd_T48 l0 x3_1).f0).toList) == (((rd_T48 l0 (ji7)).f0).toList) && (((rd_T48 l0 x3_1).f1) == ((rd_T48 l0 (ji7)).f1) && (((rd_T48 l0 x3_1).f2) == ((rd_T48 l0 (ji7)).f2)))) = false := by simpa using c10))
  (try (have c10b3 : ¬ ((((rd_T48 l0 x3_1).f0).toList) = (((rd_T48 l0 (ji7)).f0).toList) && (((rd_T48 l0 x3_1).f1) == ((rd_T48 l0 (ji7)).f1) && (((rd_T48 l0 x3_1).f2) == ((rd_T48 l0 (ji7)).f2)))) := by simpa using c10))
  clear c10
  have H' := Aside0.mk H
  clear H
  have p525 : 0 ≤ (x3_1 : Int) := of_decide_eq_true (by first | (with_reducible assumption) | assumption)
  have q525 : x3_1 < (l0.length : Int) := of_decide_eq_true (by first | (with_reducible assumption) | assumption)
  obtain ⟨ad525, e525, hx525_0, hx525_1, hx525_2⟩ := at_T48 (Kd.R_reads' HO_0.out).2.2 x3_1 p525 q525
  cases e525
  replace p525 := eq_true p525
  replace q525 := eq_true q525
  have p526 : 0 ≤ ((ji7) : Int) := of_decide_eq_true (by first | (with_reducible assumption) | assumption)
  have q526 : (ji7) < (l0.length : Int) := of_decide_eq_true (by first | (with_reducible assumption) | assumption)
  obtain ⟨ad526, e526, hx526_0, hx526_1, hx526_2⟩ := at_T48 (Kd.R_reads' HO_0.out).2.2 (ji7) p526 q526
  obtain rfl : ad525 = ad526 := (by injection e526)
  replace p526 := eq_true p526
  replace q526 := eq_true q526
  go_wp2
  repeat (go_quiet (fail); try go_wp2)
  go_roundg k1
  case measure => have := HK1.out; omega
  case rel => exact ⟨(wrap64 (x3_1 + 1)), (by first | rfl | (simp; done) | (simp [*]; done)), H', ⟨by have := HK1.out; omega⟩, ⟨by exact kr_ HO_0.out⟩, ⟨by repeat (first | (with_reducible first | exact HK.out | apply Kept.alloc | apply Kept.drewN | apply Kept.drew) | exact HK.out)⟩, ⟨bl_⟩⟩
 rw [if_pos c10] at H
 exact absurd H (by simp)

/-! ### impl_goodBag: function 33 -/
def impl_goodBag.f (k : Nat) (l0 : List (S48)) (l1 : List (S48)) : Option ((List (S48)) × (List (S48)) × Bool) := (some (([] : List (S48)) : List (S48))).bind fun y543 => (if y543.length + l0.length < 4398046511104 then ((some (([] : List (S48)) : List (S48))).bind fun y549 => (if y549.length + l1.length < 4398046511104 then ((sortA.f k (y543 ++ l0) 1).bind fun bt556 => ((sortA.f k (y549 ++ l1) 1).bind fun bt558 => ((impl_Add_60.f k bt556.2).bind fun t560 => ((impl_Add_60.f k bt558.2).bind fun t563 => ((impl_isBag.f k t560 t563).bind fun t566 => (if t566 = true then (some (t560, t563, true)) else (some (([] : List (S48)), ([] : List (S48)), false)))))))) else (none))) else (none))
theorem impl_goodBag.mono : ∀ a0 a1 k, LeO (impl_goodBag.f k a0 a1) (impl_goodBag.f (k + 1) a0 a1) := by
 intro a0 a1 k
 unfold impl_goodBag.f
 repeat' first
   | (with_reducible exact impl_Add_60.mono _ _)
   | (with_reducible exact impl_isBag.mono _ _ _)
   | (with_reducible exact sortA.mono _ _ _)
   | (with_reducible exact LeO.refl _)
   | (with_reducible exact LeO.none _)
   | (with_reducible refine LeO.ite ?_ ?_)
   | (with_reducible refine LeO.bind ?_ (fun _ => ?_))
   | exact impl_Add_60.mono _ _
   | exact impl_isBag.mono _ _ _
   | exact sortA.mono _ _ _
   | exact LeO.none _
   | refine LeO.ite ?_ ?_
   | refine LeO.bind ?_ (fun _ => ?_)
set_option maxHeartbeats 8000000 in
set_option maxRecDepth 100000 in
theorem impl_goodBag.calls (k : Nat) (A0 : Option Addr) (c0 : Nat) (l0 : List (S48)) (A1 : Option Addr) (c1 : Nat) (l1 : List (S48)) (r1 : List (S48)) (r2 : List (S48)) (r3 : Bool) (w : World) (hr0 : Kd.C k48 w A0 l0.length l0) (hc0 : l0.length ≤ c0) (hr1 : Kd.C k48 w A1 l1.length l1) (hc1 : l1.length ≤ c1) (h : impl_goodBag.f k l0 l1 = some (r1, r2, r3)) :
  Calls Try.prog 33 #[.slice A0 l0.length c0, .slice A1 l1.length c1] w fun e w' => ∃ v0_ v1_ : Value, e = .returned (.tuple #[.agg #[v0_, v1_], .bool r3]) ∧ Kd.R k48 48 w' w.heap.size (fun k_ => some k_ ≠ (v1_ : Value).ownBlock) v0_ r1 ∧ Kd.R k48 48 w' w.heap.size (fun k_ => some k_ ≠ (v0_ : Value).ownBlock) v1_ r2 ∧ Below w.heap.size w w' := by
 have hu29 := Try.underlying29
 have HR0 := Aside0.mk hr0
 have HC0 := Aside0.mk hc0
 clear hr0 hc0
 have HR1 := Aside0.mk hr1
 have HC1 := Aside0.mk hc1
 clear hr1 hc1
 have HB := Aside0.mk (Below.refl w.heap.size w)
 have H : ((some (([] : List (S48)) : List (S48))).bind fun y543 => (if y543.length + l0.length < 4398046511104 then ((some (([] : List (S48)) : List (S48))).bind fun y549 => (if y549.length + l1.length < 4398046511104 then ((sortA.f k (y543 ++ l0) 1).bind fun bt556 => ((sortA.f k (y549 ++ l1) 1).bind fun bt558 => ((impl_Add_60.f k bt556.2).bind fun t560 => ((impl_Add_60.f k bt558.2).bind fun t563 => ((impl_isBag.f k t560 t563).bind fun t566 => (if t566 = true then (some (t560, t563, true)) else (some (([] : List (S48)), ([] : List (S48)), false)))))))) else (none))) else (none))) = some (r1, r2, r3) := h
 clear h
 obtain ⟨y543, hy543⟩ : ∃ y_ : List (S48), y_ = (([] : List (S48))) := ⟨_, rfl⟩
 replace H : (if y543.length + l0.length < 4398046511104 then ((some (([] : List (S48)) : List (S48))).bind fun y549 => (if y549.length + l1.length < 4398046511104 then ((sortA.f k (y543 ++ l0) 1).bind fun bt556 => ((sortA.f k (y549 ++ l1) 1).bind fun bt558 => ((impl_Add_60.f k bt556.2).bind fun t560 => ((impl_Add_60.f k bt558.2).bind fun t563 => ((impl_isBag.f k t560 t563).bind fun t566 => (if t566 = true then (some (t560, t563, true)) else (some (([] : List (S48)), ([] : List (S48)), false)))))))) else (none))) else (none)) = some (r1, r2, r3) := by first | (rw [hy543]; with_reducible exact H) | (have H2_ := (Option.bind_some _ _).symm.trans H; rw [hy543]; with_reducible exact H2_) | (have H2_ := (Option.bind_some _ _).symm.trans H; with_reducible exact H2_) | with_reducible exact H | (rw [hy543]; exact H) | exact H
 have Ny543 := Aside0.mk hy543
 clear hy543
 by_cases c3 : y543.length + l0.length < 4398046511104
 rotate_left
 ·rw [if_neg c3] at H
  exact absurd H (by simp)
 rw [if_pos c3] at H
 have LMc3 := Aside0.mk c3
 clear c3
 obtain ⟨y546, hy546⟩ : ∃ y_ : List (S48), y_ = (y543 ++ l0) := ⟨_, rfl⟩
 replace H : ((some (([] : List (S48)) : List (S48))).bind fun y549 => (if y549.length + l1.length < 4398046511104 then ((sortA.f k y546 1).bind fun bt556 => ((sortA.f k (y549 ++ l1) 1).bind fun bt558 => ((impl_Add_60.f k bt556.2).bind fun t560 => ((impl_Add_60.f k bt558.2).bind fun t563 => ((impl_isBag.f k t560 t563).bind fun t566 => (if t566 = true then (some (t560, t563, true)) else (some (([] : List (S48)), ([] : List (S48)), false)))))))) else (none))) = some (r1, r2, r3) := by first | (rw [hy546]; with_reducible exact H) | (have H2_ := (Option.bind_some _ _).symm.trans H; rw [hy546]; with_reducible exact H2_) | (have H2_ := (Option.bind_some _ _).symm.trans H; with_reducible exact H2_) | with_reducible exact H | (rw [hy546]; exact H) | exact H
 have Ny546 := Aside0.mk hy546
 clear hy546
 obtain ⟨y549, hy549⟩ : ∃ y_ : List (S48), y_ = (([] : List (S48))) := ⟨_, rfl⟩
 replace H : (if y549.length + l1.length < 4398046511104 then ((sortA.f k y546 1).bind fun bt556 => ((sortA.f k (y549 ++ l1) 1).bind fun bt558 => ((impl_Add_60.f k bt556.2).bind fun t560 => ((impl_Add_60.f k bt558.2).bind fun t563 => ((impl_isBag.f k t560 t563).bind fun t566 => (if t566 = true then (some (t560, t563, true)) else (some (([] : List (S48)), ([] : List (S48)), false)))))))) else (none)) = some (r1, r2, r3) := by first | (rw [hy549]; with_reducible exact H) | (have H2_ := (Option.bind_some _ _).symm.trans H; rw [hy549]; with_reducible exact H2_) | (have H2_ := (Option.bind_some _ _).symm.trans H; with_reducible exact H2_) | with_reducible exact H | (rw [hy549]; exact H) | exact H
 have Ny549 := Aside0.mk hy549
 clear hy549
 by_cases c4 : y549.length + l1.length < 4398046511104
 rotate_left
 ·rw [if_neg c4] at H
  exact absurd H (by simp)
 rw [if_pos c4] at H
 have LMc4 := Aside0.mk c4
 clear c4
 obtain ⟨y552, hy552⟩ : ∃ y_ : List (S48), y_ = (y549 ++ l1) := ⟨_, rfl⟩
 replace H : ((sortA.f k y546 1).bind fun bt556 => ((sortA.f k y552 1).bind fun bt558 => ((impl_Add_60.f k bt556.2).bind fun t560 => ((impl_Add_60.f k bt558.2).bind fun t563 => ((impl_isBag.f k t560 t563).bind fun t566 => (if t566 = true then (some (t560, t563, true)) else (some (([] : List (S48)), ([] : List (S48)), false)))))))) = some (r1, r2, r3) := by first | (rw [hy552]; with_reducible exact H) | (have H2_ := (Option.bind_some _ _).symm.trans H; rw [hy552]; with_reducible exact H2_) | (have H2_ := (Option.bind_some _ _).symm.trans H; with_reducible exact H2_) | with_reducible exact H | (rw [hy552]; exact H) | exact H
 have Ny552 := Aside0.mk hy552
 clear hy552
 replace H := Option.bind_eq_some_iff.mp H
 obtain ⟨⟨t556, t557⟩, A50, H⟩ := H
 replace H : ((sortA.f k y552 1).bind fun bt558 => ((impl_Add_60.f k t557).bind fun t560 => ((impl_Add_60.f k bt558.2).bind fun t563 => ((impl_isBag.f k t560 t563).bind fun t566 => (if t566 = true then (some (t560, t563, true)) else (some (([] : List (S48)), ([] : List (S48)), false))))))) = some (r1, r2, r3) := H
 have A5 := Aside0.mk A50
 clear A50
 replace H := Option.bind_eq_some_iff.mp H
 obtain ⟨⟨t558, t559⟩, A60, H⟩ := H
 replace H : ((impl_Add_60.f k t557).bind fun t560 => ((impl_Add_60.f k t559).bind fun t563 => ((impl_isBag.f k t560 t563).bind fun t566 => (if t566 = true then (some (t560, t563, true)) else (some (([] : List (S48)), ([] : List (S48)), false)))))) = some (r1, r2, r3) := H
 have A6 := Aside0.mk A60
 clear A60
 replace H := Option.bind_eq_some_iff.mp H
 obtain ⟨t560, A70, H⟩ := H
 replace H : ((impl_Add_60.f k t559).bind fun t563 => ((impl_isBag.f k t560 t563).bind fun t566 => (if t566 = true then (some (t560, t563, true)) else (some (([] : List (S48)), ([] : List (S48)), false))))) = some (r1, r2, r3) := H
 have A7 := Aside0.mk A70
 clear A70
 replace H := Option.bind_eq_some_iff.mp H
 obtain ⟨t563, A80, H⟩ := H
 replace H : ((impl_isBag.f k t560 t563).bind fun t566 => (if t566 = true then (some (t560, t563, true)) else (some (([] : List (S48)), ([] : List (S48)), false)))) = some (r1, r2, r3) := H
 have A8 := Aside0.mk A80
 clear A80
 replace H := Option.bind_eq_some_iff.mp H
 obtain ⟨t566, A90, H⟩ := H
 replace H : (if t566 = true then (some (t560, t563, true)) else (some (([] : List (S48)), ([] : List (S48)), false))) = some (r1, r2, r3) := H
 have A9 := Aside0.mk A90
 clear A90
 by_cases c10 : t566 = true
 rotate_left
 ·replace c10 := Bool.eq_false_iff.mpr c10
  subst c10
  have H1 : (some (([] : List (S48)), ([] : List (S48)), false)) = some (r1, r2, r3) := by rw [if_neg (show ¬ (false = true) by decide)] at H; exact H
  clear H
  have H := H1
  clear H1
  simp only [Option.some.injEq, Prod.mk.injEq] at H
  obtain ⟨rfl, rfl, rfl⟩ := H
  go_enter Try.func33, Try.ntmps33
  go_wp2_with (first | ((with_reducible refine gate_dst (N := 4) rfl ?_); refine box_event rfl (N := 4) rfl (cs := #[.slice none 0 0, .slice none 0 0]) (t := 29) gs_ ?_; intro gb542 hg w40 hbox hb; have BK542 := Aside0.mk (hbox); have GW542 := Aside0.mk ((by rw [hg]; exact bz_ : w.heap.size ≤ gb542)); have GE542 := GW542; replace HB := Aside0.mk (below_step bl_ hb); clear hb hbox hg) | ((with_reducible refine gate_dst (N := 7) rfl ?_); refine Kd.R_lit k48 _ 48 rfl (N := 7) rfl (xs := ([] : List (S48))) (inner := []) (ok := fun _ => True) (okp := fun _ => True) gs_ ?hp (fun _ hk => hk) trivial (Below.refl _ _) (Nat.le_refl _) (by simp) ?_; (case hp => exact (Reps.none _ _)); intro v544 w41 ho42 hb hg_ hnew_; clear hg_ hnew_; (first | rw [← Ny543.out] at ho42 | (simp only [Int.reduceToNat] at ho42; rw [← Ny543.out] at ho42)); have HO545 := Aside0.mk (Kd.R_lower ho42 bz_); replace BK542 := bb_ BK542 hb; replace HB := Aside0.mk (below_step bl_ hb); clear hb ho42) | ((with_reducible refine gate_builtin (b := .append) (xs := #[.tmp 7, .tmp 8]) rfl ?_); at_builtin; refine Kd.R_append_rows k48 (w0 := w) w.heap.size rfl (.tmp 7) (.tmp 8) 27 48 (.agg #[(.string ⟨#[]⟩), (.int .i64 0), (.int .i64 0)]) 32 rfl Try.underlying27 info48 rfl (by decide) (by omega) v544 y543 l0 _ _ _ (fun _ => True) (fun _ => False) rfl rfl ?aO ?aR (fun _ _ h => h) (fun _ h => h.elim) ?aF ?aB ?aS ?aL ?_; (case aR => exact kc_ (Kd.C_below HR0.out HB.out)); (case aB => exact bl_); (case aF => exact (fun _ _ => trivial)); (case aO => exact (kr_ HO545.out)); (case aS => exact bz_); (case aL => have := LMc3.out; omega); intro v547 w43 ho hb hg hat; rw [← Ny546.out] at ho; replace BK542 := bgr_ BK542 hg HO545 BK542; replace HB := Aside0.mk (hb); have HO548 := Aside0.mk (ho); clear HO545 ho hb hg hat) | ((with_reducible refine gate_dst (N := 10) rfl ?_); refine Kd.R_lit k48 _ 48 rfl (N := 10) rfl (xs := ([] : List (S48))) (inner := []) (ok := fun _ => True) (okp := fun _ => True) gs_ ?hp (fun _ hk => hk) trivial (Below.refl _ _) (Nat.le_refl _) (by simp) ?_; (case hp => exact (Reps.none _ _)); intro v550 w44 ho45 hb hg_ hnew_; clear hg_ hnew_; (first | rw [← Ny549.out] at ho45 | (simp only [Int.reduceToNat] at ho45; rw [← Ny549.out] at ho45)); have HO551 := Aside0.mk (Kd.R_lower (rn_ ho45 HO548.out) bz_); replace HO548 := Aside0.mk (Kd.R_elder' (kr_ HO548.out) (Kd.R_base ho45) hb); replace BK542 := bb_ BK542 hb; replace HB := Aside0.mk (below_step bl_ hb); clear hb ho45) | ((with_reducible refine gate_builtin (b := .append) (xs := #[.tmp 10, .tmp 11]) rfl ?_); at_builtin; refine Kd.R_append_rows k48 (w0 := w) w.heap.size rfl (.tmp 10) (.tmp 11) 27 48 (.agg #[(.string ⟨#[]⟩), (.int .i64 0), (.int .i64 0)]) 32 rfl Try.underlying27 info48 rfl (by decide) (by omega) v550 y549 l1 _ _ _ (fun k_ => some k_ ≠ (v547 : Value).ownBlock) (fun _ => False) rfl rfl ?aO ?aR (fun _ _ h => h) (fun _ h => h.elim) ?aF ?aB ?aS ?aL ?_; (case aR => exact kc_ (Kd.C_below HR1.out HB.out)); (case aB => exact bl_); (case aF => exact (fun k_ hk => Kd.fresh' (Kd.R_lt (kr_ HO548.out)) k_ hk)); (case aO => exact (kp_ HO551.out)); (case aS => exact bz_); (case aL => have := LMc4.out; omega); intro v553 w46 ho hb hg hat; rw [← Ny552.out] at ho; replace BK542 := bgr_ BK542 hg HO551 BK542; replace HO548 := Aside0.mk (Kd.R_after (ok := (fun _ => True)) (kr_ HO548.out) hg hat); replace HB := Aside0.mk (hb); have HO554 := Aside0.mk (ho); clear HO551 ho hb hg hat; obtain ⟨Ao47, co47, eo47⟩ := Kd.R_slice HO554.out; subst eo47; obtain ⟨Ao48, co48, eo48⟩ := Kd.R_slice HO548.out; subst eo48) | ((with_reducible refine gate_dst (N := 6) rfl ?_); refine box_event rfl (N := 6) rfl (cs := #[.slice none 0 0, .slice none 0 0]) (t := 29) gs_ ?_; intro gb555 hg w49 hbox hb; replace HO548 := rb_ HO548 hb; replace HO554 := rb_ HO554 hb; have BK555 := Aside0.mk (hbox); have GW555 := Aside0.mk ((by rw [hg]; exact bz_ : w.heap.size ≤ gb555)); have GE555 := GW555; replace HB := Aside0.mk (below_step bl_ hb); have NB542_555 := nl_ hg BK542; have NB555_542 := nm_ hg BK542; replace BK542 := bb_ BK542 hb; clear hb hbox hg; have hnb50 := NB555_542.out; have hnc50 := NB542_555.out; have hcz51_0 : w49.cell? ⟨gb555, 0, none⟩ = some (.slice none 0 0) := bc_ BK555.out 0; have hcz51_1 : w49.cell? ⟨gb555, 1, none⟩ = some (.slice none 0 0) := bc_ BK555.out 1; have hfz51_0 := blk_frozen BK555.out 0; have hfz51_1 := blk_frozen BK555.out 1) | ((with_reducible refine gate_store (t := 29) (p := 6) rfl ?_); refine store_event (t := 29) (p := 6) (v := ?vo_w52) (w1 := ((w49.setCell ⟨gb555, 0, none⟩ (.slice Ao48 y546.length co48)).setCell ⟨gb555, 1, none⟩ (.slice Ao47 y552.length co47))) ?hg ?ho ?hn ?hr ?_; (case ho => rfl); (case hg => rfl); (case hn => rfl); (case hr => first | (go_simp; done) | (go_simp; rfl)); intro w52 hw; have n0_ : Aside0 (Kd.R k48 48 w52 w.heap.size (fun k_ => some k_ ≠ (.slice Ao47 y552.length co47 : Value).ownBlock) (.slice Ao48 y546.length co48) y546) := ⟨(by rw [hw]; exact (by exact kr_ (Kd.R_mono (Kd.R_far (p := ⟨gb555, 1, none⟩) (Kd.R_far (p := ⟨gb555, 0, none⟩) (Kd.R_types HO548.out BK555.out (by decide)) (fun _ hk => hk.2) (.slice Ao48 y546.length co48)) (fun _ hk => hk.2) (.slice Ao47 y552.length co47)) (fun _ hk => hk.1.2))))⟩; have n1_ : Aside0 (Kd.R k48 48 w52 w.heap.size (fun k_ => some k_ ≠ (.slice Ao48 y546.length co48 : Value).ownBlock) (.slice Ao47 y552.length co47) y552) := ⟨(by rw [hw]; exact (by exact kr_ (Kd.R_mono (Kd.R_far (p := ⟨gb555, 1, none⟩) (Kd.R_far (p := ⟨gb555, 0, none⟩) (Kd.R_types HO554.out BK555.out (by decide)) (fun _ hk => hk.2) (.slice Ao48 y546.length co48)) (fun _ hk => hk.2) (.slice Ao47 y552.length co47)) (fun _ hk => hk.1))))⟩; have n2_ : Aside0 (w52.heap[gb542]? = some (.cells #[.slice none 0 0, .slice none 0 0] 29 (0, 0))) := ⟨(by rw [hw]; exact kz_)⟩; have n3_ : Aside0 (w52.heap[gb555]? = some (.cells #[.slice Ao48 y546.length co48, .slice Ao47 y552.length co47] 29 (0, 0))) := ⟨(by rw [hw]; exact (by (with_reducible repeat (first | refine blk_drewN ?_ _ | refine blk_drew ?_ | refine blk_alloc ?_ _)); refine blk_put (cs := #[.slice Ao48 y546.length co48, .slice none 0 0]) ?_ 1 _ rfl; (with_reducible repeat (first | refine blk_drewN ?_ _ | refine blk_drew ?_ | refine blk_alloc ?_ _)); refine blk_put (cs := #[.slice none 0 0, .slice none 0 0]) ?_ 0 _ rfl; exact kb_ BK555.out))⟩; have n4_ : Aside0 (Below w.heap.size w w52) := ⟨(by rw [hw]; exact bl_)⟩; clear hw HO548 HO554 BK542 BK555 HB; have HO548 := n0_; have HO554 := n1_; have BK542 := n2_; have BK555 := n3_; have HB := n4_; clear n0_ n1_ n2_ n3_ n4_; have hcz53_0 : w52.cell? ⟨gb555, 0, none⟩ = some (.slice Ao48 y546.length co48) := bc_ BK555.out 0; have hcz53_1 : w52.cell? ⟨gb555, 1, none⟩ = some (.slice Ao47 y552.length co47) := bc_ BK555.out 1; have hfz53_0 := blk_frozen BK555.out 0; have hfz53_1 := blk_frozen BK555.out 1) | ((with_reducible refine gate_callee (f := 59) rfl ?_); refine goesL_ (some 16) rfl rfl Try.func59 (by kernel_rfl) rfl #[.slice Ao48 y546.length co48, .func (.func 40) #[] #[]] rfl nc_ ?_; (with_reducible refine (sortA.calls k (fun k_ => some k_ = (.slice Ao48 y546.length co48 : Value).ownBlock) (.slice Ao48 y546.length co48) y546 1 t556 t557 w _ ?side1 ?side2 A5.out).mono ?_); (case side1 => repeat (first | (with_reducible first | exact HB.out | apply below_alloc | apply pw_below_drewN | apply below_drew1 | refine below_set ?_ GE542.out | refine below_set ?_ GE555.out) | exact HB.out)); (case side2 => exact Kd.R_tight rfl HO548.out); rintro e w54 ⟨rfl, hy0, hb, hkp⟩; refine ⟨_, rfl, ?_⟩; replace BK542 := Aside0.mk (blk_kept (kb_ BK542.out) hkp (fun hs_ => (fun e_ => (Kd.R_ne HO548.out BK542.out (by decide)) e_) hs_)); replace HO554 := Aside0.mk (Kd.R_mono (ok' := fun k_ => some k_ ≠ (.slice Ao48 y546.length co48 : Value).ownBlock) (Kd.R_keptB (HO554.out) hkp (fun k_ hk_ hs_ => (hk_) hs_)) (fun k_ hk_ => hk_.1)); replace BK555 := Aside0.mk (blk_kept (kb_ BK555.out) hkp (fun hs_ => (fun e_ => (Kd.R_ne HO548.out BK555.out (by decide)) e_) hs_)); replace HO548 := Aside0.mk (Kd.R_reok rfl hy0 (fun k_ e_ => HO548.out.1 k_ e_)); replace HB := Aside0.mk (hb); clear hb; have hcz55_0 : w54.cell? ⟨gb555, 0, none⟩ = some (.slice Ao48 y546.length co48) := bc_ BK555.out 0; have hcz55_1 : w54.cell? ⟨gb555, 1, none⟩ = some (.slice Ao47 y552.length co47) := bc_ BK555.out 1; have hfz55_0 := blk_frozen BK555.out 0; have hfz55_1 := blk_frozen BK555.out 1) | ((with_reducible refine gate_callee (f := 59) rfl ?_); refine goesL_ (some 19) rfl rfl Try.func59 (by kernel_rfl) rfl #[.slice Ao47 y552.length co47, .func (.func 40) #[] #[]] rfl nc_ ?_; (with_reducible refine (sortA.calls k (fun k_ => some k_ = (.slice Ao47 y552.length co47 : Value).ownBlock) (.slice Ao47 y552.length co47) y552 1 t558 t559 w _ ?side1 ?side2 A6.out).mono ?_); (case side1 => repeat (first | (with_reducible first | exact HB.out | apply below_alloc | apply pw_below_drewN | apply below_drew1 | refine below_set ?_ GE542.out | refine below_set ?_ GE555.out) | exact HB.out)); (case side2 => exact Kd.R_tight rfl HO554.out); rintro e w56 ⟨rfl, hy0, hb, hkp⟩; refine ⟨_, rfl, ?_⟩; replace BK542 := Aside0.mk (blk_kept (kb_ BK542.out) hkp (fun hs_ => (fun e_ => (Kd.R_ne HO554.out BK542.out (by decide)) e_) hs_)); replace HO548 := Aside0.mk (Kd.R_mono (ok' := fun k_ => some k_ ≠ (.slice Ao47 y552.length co47 : Value).ownBlock) (Kd.R_keptB (HO548.out) hkp (fun k_ hk_ hs_ => (hk_) hs_)) (fun k_ hk_ => hk_.1)); replace BK555 := Aside0.mk (blk_kept (kb_ BK555.out) hkp (fun hs_ => (fun e_ => (Kd.R_ne HO554.out BK555.out (by decide)) e_) hs_)); replace HO554 := Aside0.mk (Kd.R_reok rfl hy0 (fun k_ e_ => HO554.out.1 k_ e_)); replace HB := Aside0.mk (hb); clear hb; have hcz57_0 : w56.cell? ⟨gb555, 0, none⟩ = some (.slice Ao48 y546.length co48) := bc_ BK555.out 0; have hcz57_1 : w56.cell? ⟨gb555, 1, none⟩ = some (.slice Ao47 y552.length co47) := bc_ BK555.out 1; have hfz57_0 := blk_frozen BK555.out 0; have hfz57_1 := blk_frozen BK555.out 1) | ((with_reducible refine gate_callee (f := 60) rfl ?_); refine goesL_ (some 22) rfl rfl Try.func60 (by kernel_rfl) rfl #[.slice Ao48 y546.length co48] rfl nc_ ?_; (with_reducible refine (impl_Add_60.calls k (fun k_ => some k_ = (.slice Ao48 y546.length co48 : Value).ownBlock) (.slice Ao48 y546.length co48) t557 t560 w _ ?side1 ?side2 A7.out).mono ?_); (case side1 => repeat (first | (with_reducible first | exact HB.out | apply below_alloc | apply pw_below_drewN | apply below_drew1 | refine below_set ?_ GE542.out | refine below_set ?_ GE555.out) | exact HB.out)); (case side2 => exact Kd.R_tight rfl HO548.out); rintro e w58 ⟨v561, rfl, ho0, hb, hkp⟩; refine ⟨_, rfl, ?_⟩; replace BK542 := Aside0.mk (blk_kept (kb_ BK542.out) hkp (fun hs_ => (fun e_ => (Kd.R_ne HO548.out BK542.out (by decide)) e_) hs_)); replace BK555 := Aside0.mk (blk_kept (kb_ BK555.out) hkp (fun hs_ => (fun e_ => (Kd.R_ne HO548.out BK555.out (by decide)) e_) hs_)); have HO562 := Aside0.mk (Kd.R_mono (ok' := fun k_ => some k_ ≠ (.slice Ao47 y552.length co47 : Value).ownBlock) ho0 (fun k_ hk_ => Or.elim hk_ (fun hs_ => fun e_ => (((HO554.out).1 k_ e_.symm)) hs_) (fun hn_ => (Kd.fresh' (Kd.R_lt (kr_ HO554.out)) k_ hn_)))); replace HO554 := Aside0.mk (Kd.R_mono (ok' := fun k_ => some k_ ≠ (v561 : Value).ownBlock) (Kd.R_keptB (HO554.out) hkp (fun k_ hk_ hs_ => (hk_) hs_)) (fun k_ hk_ => fun e_ => Or.elim (ho0.1 k_ e_.symm) (fun hs_ => hk_.2.1 hs_) (fun hn_ => Nat.not_le.2 hk_.2.2 hn_))); replace HB := Aside0.mk (hb); clear HO548 hb ho0; obtain ⟨Ao59, co59, eo59⟩ := Kd.R_slice HO562.out; subst eo59; have hcz60_0 : w58.cell? ⟨gb555, 0, none⟩ = some (.slice Ao48 y546.length co48) := bc_ BK555.out 0; have hcz60_1 : w58.cell? ⟨gb555, 1, none⟩ = some (.slice Ao47 y552.length co47) := bc_ BK555.out 1; have hfz60_0 := blk_frozen BK555.out 0; have hfz60_1 := blk_frozen BK555.out 1) | ((with_reducible refine gate_store (t := 27) (p := 23) rfl ?_); refine store_event (t := 27) (p := 23) (v := ?vo_w61) (w1 := (w58.setCell ⟨gb555, 0, none⟩ (.slice Ao59 t560.length co59))) ?hg ?ho ?hn ?hr ?_; (case ho => rfl); (case hg => rfl); (case hn => rfl); (case hr => first | (go_simp; done) | (go_simp; rfl)); intro w61 hw; have n0_ : Aside0 (Kd.R k48 48 w61 w.heap.size (fun k_ => some k_ ≠ (.slice Ao59 t560.length co59 : Value).ownBlock) (.slice Ao47 y552.length co47) t559) := ⟨(by rw [hw]; exact (by exact kr_ (Kd.R_mono (Kd.R_far (p := ⟨gb555, 0, none⟩) (Kd.R_types HO554.out BK555.out (by decide)) (fun _ hk => hk.2) (.slice Ao59 t560.length co59)) (fun _ hk => hk.1))))⟩; have n1_ : Aside0 (Kd.R k48 48 w61 w.heap.size (fun k_ => some k_ ≠ (.slice Ao47 y552.length co47 : Value).ownBlock) (.slice Ao59 t560.length co59) t560) := ⟨(by rw [hw]; exact (by exact kr_ (Kd.R_mono (Kd.R_far (p := ⟨gb555, 0, none⟩) (Kd.R_types HO562.out BK555.out (by decide)) (fun _ hk => hk.2) (.slice Ao59 t560.length co59)) (fun _ hk => hk.1))))⟩; have n2_ : Aside0 (w61.heap[gb542]? = some (.cells #[.slice none 0 0, .slice none 0 0] 29 (0, 0))) := ⟨(by rw [hw]; exact kz_)⟩; have n3_ : Aside0 (w61.heap[gb555]? = some (.cells #[.slice Ao59 t560.length co59, .slice Ao47 y552.length co47] 29 (0, 0))) := ⟨(by rw [hw]; exact (by (with_reducible repeat (first | refine blk_drewN ?_ _ | refine blk_drew ?_ | refine blk_alloc ?_ _)); refine blk_put (cs := #[.slice Ao48 y546.length co48, .slice Ao47 y552.length co47]) ?_ 0 _ rfl; exact kb_ BK555.out))⟩; have n4_ : Aside0 (Below w.heap.size w w61) := ⟨(by rw [hw]; exact bl_)⟩; clear hw HO554 HO562 BK542 BK555 HB; have HO554 := n0_; have HO562 := n1_; have BK542 := n2_; have BK555 := n3_; have HB := n4_; clear n0_ n1_ n2_ n3_ n4_; have hcz62_0 : w61.cell? ⟨gb555, 0, none⟩ = some (.slice Ao59 t560.length co59) := bc_ BK555.out 0; have hcz62_1 : w61.cell? ⟨gb555, 1, none⟩ = some (.slice Ao47 y552.length co47) := bc_ BK555.out 1; have hfz62_0 := blk_frozen BK555.out 0; have hfz62_1 := blk_frozen BK555.out 1) | ((with_reducible refine gate_callee (f := 60) rfl ?_); refine goesL_ (some 26) rfl rfl Try.func60 (by kernel_rfl) rfl #[.slice Ao47 y552.length co47] rfl nc_ ?_; (with_reducible refine (impl_Add_60.calls k (fun k_ => some k_ = (.slice Ao47 y552.length co47 : Value).ownBlock) (.slice Ao47 y552.length co47) t559 t563 w _ ?side1 ?side2 A8.out).mono ?_); (case side1 => repeat (first | (with_reducible first | exact HB.out | apply below_alloc | apply pw_below_drewN | apply below_drew1 | refine below_set ?_ GE542.out | refine below_set ?_ GE555.out) | exact HB.out)); (case side2 => exact Kd.R_tight rfl HO554.out); rintro e w63 ⟨v564, rfl, ho0, hb, hkp⟩; refine ⟨_, rfl, ?_⟩; replace BK542 := Aside0.mk (blk_kept (kb_ BK542.out) hkp (fun hs_ => (fun e_ => (Kd.R_ne HO554.out BK542.out (by decide)) e_) hs_)); replace BK555 := Aside0.mk (blk_kept (kb_ BK555.out) hkp (fun hs_ => (fun e_ => (Kd.R_ne HO554.out BK555.out (by decide)) e_) hs_)); have HO565 := Aside0.mk (Kd.R_mono (ok' := fun k_ => some k_ ≠ (.slice Ao59 t560.length co59 : Value).ownBlock) ho0 (fun k_ hk_ => Or.elim hk_ (fun hs_ => fun e_ => (((HO562.out).1 k_ e_.symm)) hs_) (fun hn_ => (Kd.fresh' (Kd.R_lt (kr_ HO562.out)) k_ hn_)))); replace HO562 := Aside0.mk (Kd.R_mono (ok' := fun k_ => some k_ ≠ (v564 : Value).ownBlock) (Kd.R_keptB (HO562.out) hkp (fun k_ hk_ hs_ => (hk_) hs_)) (fun k_ hk_ => fun e_ => Or.elim (ho0.1 k_ e_.symm) (fun hs_ => hk_.2.1 hs_) (fun hn_ => Nat.not_le.2 hk_.2.2 hn_))); replace HB := Aside0.mk (hb); clear HO554 hb ho0; obtain ⟨Ao64, co64, eo64⟩ := Kd.R_slice HO565.out; subst eo64; have hcz65_0 : w63.cell? ⟨gb555, 0, none⟩ = some (.slice Ao59 t560.length co59) := bc_ BK555.out 0; have hcz65_1 : w63.cell? ⟨gb555, 1, none⟩ = some (.slice Ao47 y552.length co47) := bc_ BK555.out 1; have hfz65_0 := blk_frozen BK555.out 0; have hfz65_1 := blk_frozen BK555.out 1) | ((with_reducible refine gate_callee (f := 30) rfl ?_); refine goesL_ (some 29) rfl rfl Try.func30 (by kernel_rfl) rfl #[.agg #[.slice Ao59 t560.length co59, .slice Ao64 t563.length co64]] rfl nc_ ?_; (with_reducible refine (impl_isBag.calls k _ _ t560 _ _ t563 false _ ?side1 ?side2 ?side3 ?side4 A9.out).mono ?_); (case side1 => refine (Kd.R_reads' (e := 48) (base := w.heap.size) (ok := fun k_ => some k_ ≠ (.slice Ao64 t563.length co64 : Value).ownBlock) (n := t560.length) (c := co59) ?_).2.2; exact (by exact kr_ ((Kd.R_mono (Kd.R_far (p := ⟨gb555, 1, none⟩) (Kd.R_types HO562.out BK555.out (by decide)) (fun _ hk => hk.2) (.slice Ao64 t563.length co64)) (fun _ h_ => h_.1))))); (case side2 => exact (Kd.R_reads' HO562.out).2.1); (case side3 => refine (Kd.R_reads' (e := 48) (base := w.heap.size) (ok := fun k_ => some k_ ≠ (.slice Ao59 t560.length co59 : Value).ownBlock) (n := t563.length) (c := co64) ?_).2.2; exact (by exact kr_ ((Kd.R_mono (Kd.R_far (p := ⟨gb555, 1, none⟩) (Kd.R_types HO565.out BK555.out (by decide)) (fun _ hk => hk.2) (.slice Ao64 t563.length co64)) (fun _ h_ => h_.1))))); (case side4 => exact (Kd.R_reads' HO565.out).2.1); rintro e w66 ⟨rfl, hb⟩; refine ⟨_, rfl, ?_⟩; replace HO562 := Aside0.mk (Kd.R_below (by exact kr_ ((Kd.R_mono (Kd.R_far (p := ⟨gb555, 1, none⟩) (Kd.R_types HO562.out BK555.out (by decide)) (fun _ hk => hk.2) (.slice Ao64 t563.length co64)) (fun _ h_ => h_.1)))) hb); replace HO565 := Aside0.mk (Kd.R_below (by exact kr_ ((Kd.R_mono (Kd.R_far (p := ⟨gb555, 1, none⟩) (Kd.R_types HO565.out BK555.out (by decide)) (fun _ hk => hk.2) (.slice Ao64 t563.length co64)) (fun _ h_ => h_.1)))) hb); replace BK542 := Aside0.mk (blk_below (g := gb542) (o := .cells #[.slice none 0 0, .slice none 0 0] 29 (0, 0)) kz_ hb); replace BK555 := Aside0.mk (blk_below (g := gb555) (o := .cells #[.slice Ao59 t560.length co59, .slice Ao64 t563.length co64] 29 (0, 0)) (by (with_reducible repeat (first | refine blk_drewN ?_ _ | refine blk_drew ?_ | refine blk_alloc ?_ _)); refine blk_put (cs := #[.slice Ao59 t560.length co59, .slice Ao47 y552.length co47]) ?_ 1 _ rfl; exact kb_ BK555.out) hb); replace HB := Aside0.mk (below_step bl_ hb); clear hb; have hcz67_0 : w66.cell? ⟨gb542, 0, none⟩ = some (.slice none 0 0) := bc_ BK542.out 0; have hcz67_1 : w66.cell? ⟨gb542, 1, none⟩ = some (.slice none 0 0) := bc_ BK542.out 1; have hfz67_0 := blk_frozen BK542.out 0; have hfz67_1 := blk_frozen BK542.out 1))
  refine bodyPost_ret (results_ct rfl _ _ gb542 29 #[.slice none 0 0, .slice none 0 0] (0, 0) _ rfl (by (with_reducible repeat (first | refine blk_drewN ?_ _ | refine blk_drew ?_ | refine blk_alloc ?_ _)); refine blk_put (cs := #[.slice none 0 0, .slice none 0 0]) ?_ 1 _ rfl; (with_reducible repeat (first | refine blk_drewN ?_ _ | refine blk_drew ?_ | refine blk_alloc ?_ _)); refine blk_put (cs := #[.slice none 0 0, .slice none 0 0]) ?_ 0 _ rfl; exact kb_ BK542.out) Try.underlying29 rfl (by kernel_rfl)) rfl ?_
  exact ⟨_, _, ng_, by first | exact Kd.R_nil _ _ _ _ _ | exact Kd.N_nil _ _ _ _ _ | exact Kd.V_nil _ _ _ _ _ | exact Kd.Q_nil _ _ _ _ _ | exact Kd.S_nil _ _ _ _ _, by first | exact Kd.R_nil _ _ _ _ _ | exact Kd.N_nil _ _ _ _ _ | exact Kd.V_nil _ _ _ _ _ | exact Kd.Q_nil _ _ _ _ _ | exact Kd.S_nil _ _ _ _ _, bl_⟩
 subst c10
 have H1 : (some (t560, t563, true)) = some (r1, r2, r3) := by rw [if_pos rfl] at H; exact H
 clear H
 have H := H1
 clear H1
 simp only [Option.some.injEq, Prod.mk.injEq] at H
 obtain ⟨rfl, rfl, rfl⟩ := H
 go_enter Try.func33, Try.ntmps33
 go_wp2_with (first | ((with_reducible refine gate_dst (N := 4) rfl ?_); refine box_event rfl (N := 4) rfl (cs := #[.slice none 0 0, .slice none 0 0]) (t := 29) gs_ ?_; intro gb542 hg w11 hbox hb; have BK542 := Aside0.mk (hbox); have GW542 := Aside0.mk ((by rw [hg]; exact bz_ : w.heap.size ≤ gb542)); have GE542 := GW542; replace HB := Aside0.mk (below_step bl_ hb); clear hb hbox hg) | ((with_reducible refine gate_dst (N := 7) rfl ?_); refine Kd.R_lit k48 _ 48 rfl (N := 7) rfl (xs := ([] : List (S48))) (inner := []) (ok := fun _ => True) (okp := fun _ => True) gs_ ?hp (fun _ hk => hk) trivial (Below.refl _ _) (Nat.le_refl _) (by simp) ?_; (case hp => exact (Reps.none _ _)); intro v544 w12 ho13 hb hg_ hnew_; clear hg_ hnew_; (first | rw [← Ny543.out] at ho13 | (simp only [Int.reduceToNat] at ho13; rw [← Ny543.out] at ho13)); have HO545 := Aside0.mk (Kd.R_lower ho13 bz_); replace BK542 := bb_ BK542 hb; replace HB := Aside0.mk (below_step bl_ hb); clear hb ho13) | ((with_reducible refine gate_builtin (b := .append) (xs := #[.tmp 7, .tmp 8]) rfl ?_); at_builtin; refine Kd.R_append_rows k48 (w0 := w) w.heap.size rfl (.tmp 7) (.tmp 8) 27 48 (.agg #[(.string ⟨#[]⟩), (.int .i64 0), (.int .i64 0)]) 32 rfl Try.underlying27 info48 rfl (by decide) (by omega) v544 y543 l0 _ _ _ (fun _ => True) (fun _ => False) rfl rfl ?aO ?aR (fun _ _ h => h) (fun _ h => h.elim) ?aF ?aB ?aS ?aL ?_; (case aR => exact kc_ (Kd.C_below HR0.out HB.out)); (case aB => exact bl_); (case aF => exact (fun _ _ => trivial)); (case aO => exact (kr_ HO545.out)); (case aS => exact bz_); (case aL => have := LMc3.out; omega); intro v547 w14 ho hb hg hat; rw [← Ny546.out] at ho; replace BK542 := bgr_ BK542 hg HO545 BK542; replace HB := Aside0.mk (hb); have HO548 := Aside0.mk (ho); clear HO545 ho hb hg hat) | ((with_reducible refine gate_dst (N := 10) rfl ?_); refine Kd.R_lit k48 _ 48 rfl (N := 10) rfl (xs := ([] : List (S48))) (inner := []) (ok := fun _ => True) (okp := fun _ => True) gs_ ?hp (fun _ hk => hk) trivial (Below.refl _ _) (Nat.le_refl _) (by simp) ?_; (case hp => exact (Reps.none _ _)); intro v550 w15 ho16 hb hg_ hnew_; clear hg_ hnew_; (first | rw [← Ny549.out] at ho16 | (simp only [Int.reduceToNat] at ho16; rw [← Ny549.out] at ho16)); have HO551 := Aside0.mk (Kd.R_lower (rn_ ho16 HO548.out) bz_); replace HO548 := Aside0.mk (Kd.R_elder' (kr_ HO548.out) (Kd.R_base ho16) hb); replace BK542 := bb_ BK542 hb; replace HB := Aside0.mk (below_step bl_ hb); clear hb ho16) | ((with_reducible refine gate_builtin (b := .append) (xs := #[.tmp 10, .tmp 11]) rfl ?_); at_builtin; refine Kd.R_append_rows k48 (w0 := w) w.heap.size rfl (.tmp 10) (.tmp 11) 27 48 (.agg #[(.string ⟨#[]⟩), (.int .i64 0), (.int .i64 0)]) 32 rfl Try.underlying27 info48 rfl (by decide) (by omega) v550 y549 l1 _ _ _ (fun k_ => some k_ ≠ (v547 : Value).ownBlock) (fun _ => False) rfl rfl ?aO ?aR (fun _ _ h => h) (fun _ h => h.elim) ?aF ?aB ?aS ?aL ?_; (case aR => exact kc_ (Kd.C_below HR1.out HB.out)); (case aB => exact bl_); (case aF => exact (fun k_ hk => Kd.fresh' (Kd.R_lt (kr_ HO548.out)) k_ hk)); (case aO => exact (kp_ HO551.out)); (case aS => exact bz_); (case aL => have := LMc4.out; omega); intro v553 w17 ho hb hg hat; rw [← Ny552.out] at ho; replace BK542 := bgr_ BK542 hg HO551 BK542; replace HO548 := Aside0.mk (Kd.R_after (ok := (fun _ => True)) (kr_ HO548.out) hg hat); replace HB := Aside0.mk (hb); have HO554 := Aside0.mk (ho); clear HO551 ho hb hg hat; obtain ⟨Ao18, co18, eo18⟩ := Kd.R_slice HO554.out; subst eo18; obtain ⟨Ao19, co19, eo19⟩ := Kd.R_slice HO548.out; subst eo19) | ((with_reducible refine gate_dst (N := 6) rfl ?_); refine box_event rfl (N := 6) rfl (cs := #[.slice none 0 0, .slice none 0 0]) (t := 29) gs_ ?_; intro gb555 hg w20 hbox hb; replace HO548 := rb_ HO548 hb; replace HO554 := rb_ HO554 hb; have BK555 := Aside0.mk (hbox); have GW555 := Aside0.mk ((by rw [hg]; exact bz_ : w.heap.size ≤ gb555)); have GE555 := GW555; replace HB := Aside0.mk (below_step bl_ hb); have NB542_555 := nl_ hg BK542; have NB555_542 := nm_ hg BK542; replace BK542 := bb_ BK542 hb; clear hb hbox hg; have hnb21 := NB555_542.out; have hnc21 := NB542_555.out; have hcz22_0 : w20.cell? ⟨gb555, 0, none⟩ = some (.slice none 0 0) := bc_ BK555.out 0; have hcz22_1 : w20.cell? ⟨gb555, 1, none⟩ = some (.slice none 0 0) := bc_ BK555.out 1; have hfz22_0 := blk_frozen BK555.out 0; have hfz22_1 := blk_frozen BK555.out 1) | ((with_reducible refine gate_store (t := 29) (p := 6) rfl ?_); refine store_event (t := 29) (p := 6) (v := ?vo_w23) (w1 := ((w20.setCell ⟨gb555, 0, none⟩ (.slice Ao19 y546.length co19)).setCell ⟨gb555, 1, none⟩ (.slice Ao18 y552.length co18))) ?hg ?ho ?hn ?hr ?_; (case ho => rfl); (case hg => rfl); (case hn => rfl); (case hr => first | (go_simp; done) | (go_simp; rfl)); intro w23 hw; have n0_ : Aside0 (Kd.R k48 48 w23 w.heap.size (fun k_ => some k_ ≠ (.slice Ao18 y552.length co18 : Value).ownBlock) (.slice Ao19 y546.length co19) y546) := ⟨(by rw [hw]; exact (by exact kr_ (Kd.R_mono (Kd.R_far (p := ⟨gb555, 1, none⟩) (Kd.R_far (p := ⟨gb555, 0, none⟩) (Kd.R_types HO548.out BK555.out (by decide)) (fun _ hk => hk.2) (.slice Ao19 y546.length co19)) (fun _ hk => hk.2) (.slice Ao18 y552.length co18)) (fun _ hk => hk.1.2))))⟩; have n1_ : Aside0 (Kd.R k48 48 w23 w.heap.size (fun k_ => some k_ ≠ (.slice Ao19 y546.length co19 : Value).ownBlock) (.slice Ao18 y552.length co18) y552) := ⟨(by rw [hw]; exact (by exact kr_ (Kd.R_mono (Kd.R_far (p := ⟨gb555, 1, none⟩) (Kd.R_far (p := ⟨gb555, 0, none⟩) (Kd.R_types HO554.out BK555.out (by decide)) (fun _ hk => hk.2) (.slice Ao19 y546.length co19)) (fun _ hk => hk.2) (.slice Ao18 y552.length co18)) (fun _ hk => hk.1))))⟩; have n2_ : Aside0 (w23.heap[gb542]? = some (.cells #[.slice none 0 0, .slice none 0 0] 29 (0, 0))) := ⟨(by rw [hw]; exact kz_)⟩; have n3_ : Aside0 (w23.heap[gb555]? = some (.cells #[.slice Ao19 y546.length co19, .slice Ao18 y552.length co18] 29 (0, 0))) := ⟨(by rw [hw]; exact (by (with_reducible repeat (first | refine blk_drewN ?_ _ | refine blk_drew ?_ | refine blk_alloc ?_ _)); refine blk_put (cs := #[.slice Ao19 y546.length co19, .slice none 0 0]) ?_ 1 _ rfl; (with_reducible repeat (first | refine blk_drewN ?_ _ | refine blk_drew ?_ | refine blk_alloc ?_ _)); refine blk_put (cs := #[.slice none 0 0, .slice none 0 0]) ?_ 0 _ rfl; exact kb_ BK555.out))⟩; have n4_ : Aside0 (Below w.heap.size w w23) := ⟨(by rw [hw]; exact bl_)⟩; clear hw HO548 HO554 BK542 BK555 HB; have HO548 := n0_; have HO554 := n1_; have BK542 := n2_; have BK555 := n3_; have HB := n4_; clear n0_ n1_ n2_ n3_ n4_; have hcz24_0 : w23.cell? ⟨gb555, 0, none⟩ = some (.slice Ao19 y546.length co19) := bc_ BK555.out 0; have hcz24_1 : w23.cell? ⟨gb555, 1, none⟩ = some (.slice Ao18 y552.length co18) := bc_ BK555.out 1; have hfz24_0 := blk_frozen BK555.out 0; have hfz24_1 := blk_frozen BK555.out 1) | ((with_reducible refine gate_callee (f := 59) rfl ?_); refine goesL_ (some 16) rfl rfl Try.func59 (by kernel_rfl) rfl #[.slice Ao19 y546.length co19, .func (.func 40) #[] #[]] rfl nc_ ?_; (with_reducible refine (sortA.calls k (fun k_ => some k_ = (.slice Ao19 y546.length co19 : Value).ownBlock) (.slice Ao19 y546.length co19) y546 1 t556 t557 w _ ?side1 ?side2 A5.out).mono ?_); (case side1 => repeat (first | (with_reducible first | exact HB.out | apply below_alloc | apply pw_below_drewN | apply below_drew1 | refine below_set ?_ GE542.out | refine below_set ?_ GE555.out) | exact HB.out)); (case side2 => exact Kd.R_tight rfl HO548.out); rintro e w25 ⟨rfl, hy0, hb, hkp⟩; refine ⟨_, rfl, ?_⟩; replace BK542 := Aside0.mk (blk_kept (kb_ BK542.out) hkp (fun hs_ => (fun e_ => (Kd.R_ne HO548.out BK542.out (by decide)) e_) hs_)); replace HO554 := Aside0.mk (Kd.R_mono (ok' := fun k_ => some k_ ≠ (.slice Ao19 y546.length co19 : Value).ownBlock) (Kd.R_keptB (HO554.out) hkp (fun k_ hk_ hs_ => (hk_) hs_)) (fun k_ hk_ => hk_.1)); replace BK555 := Aside0.mk (blk_kept (kb_ BK555.out) hkp (fun hs_ => (fun e_ => (Kd.R_ne HO548.out BK555.out (by decide)) e_) hs_)); replace HO548 := Aside0.mk (Kd.R_reok rfl hy0 (fun k_ e_ => HO548.out.1 k_ e_)); replace HB := Aside0.mk (hb); clear hb; have hcz26_0 : w25.cell? ⟨gb555, 0, none⟩ = some (.slice Ao19 y546.length co19) := bc_ BK555.out 0; have hcz26_1 : w25.cell? ⟨gb555, 1, none⟩ = some (.slice Ao18 y552.length co18) := bc_ BK555.out 1; have hfz26_0 := blk_frozen BK555.out 0; have hfz26_1 := blk_frozen BK555.out 1) | ((with_reducible refine gate_callee (f := 59) rfl ?_); refine goesL_ (some 19) rfl rfl Try.func59 (by kernel_rfl) rfl #[.slice Ao18 y552.length co18, .func (.func 40) #[] #[]] rfl nc_ ?_; (with_reducible refine (sortA.calls k (fun k_ => some k_ = (.slice Ao18 y552.length co18 : Value).ownBlock) (.slice Ao18 y552.length co18) y552 1 t558 t559 w _ ?side1 ?side2 A6.out).mono ?_); (case side1 => repeat (first | (with_reducible first | exact HB.out | apply below_alloc | apply pw_below_drewN | apply below_drew1 | refine below_set ?_ GE542.out | refine below_set ?_ GE555.out) | exact HB.out)); (case side2 => exact Kd.R_tight rfl HO554.out); rintro e w27 ⟨rfl, hy0, hb, hkp⟩; refine ⟨_, rfl, ?_⟩; replace BK542 := Aside0.mk (blk_kept (kb_ BK542.out) hkp (fun hs_ => (fun e_ => (Kd.R_ne HO554.out BK542.out (by decide)) e_) hs_)); replace HO548 := Aside0.mk (Kd.R_mono (ok' := fun k_ => some k_ ≠ (.slice Ao18 y552.length co18 : Value).ownBlock) (Kd.R_keptB (HO548.out) hkp (fun k_ hk_ hs_ => (hk_) hs_)) (fun k_ hk_ => hk_.1)); replace BK555 := Aside0.mk (blk_kept (kb_ BK555.out) hkp (fun hs_ => (fun e_ => (Kd.R_ne HO554.out BK555.out (by decide)) e_) hs_)); replace HO554 := Aside0.mk (Kd.R_reok rfl hy0 (fun k_ e_ => HO554.out.1 k_ e_)); replace HB := Aside0.mk (hb); clear hb; have hcz28_0 : w27.cell? ⟨gb555, 0, none⟩ = some (.slice Ao19 y546.length co19) := bc_ BK555.out 0; have hcz28_1 : w27.cell? ⟨gb555, 1, none⟩ = some (.slice Ao18 y552.length co18) := bc_ BK555.out 1; have hfz28_0 := blk_frozen BK555.out 0; have hfz28_1 := blk_frozen BK555.out 1) | ((with_reducible refine gate_callee (f := 60) rfl ?_); refine goesL_ (some 22) rfl rfl Try.func60 (by kernel_rfl) rfl #[.slice Ao19 y546.length co19] rfl nc_ ?_; (with_reducible refine (impl_Add_60.calls k (fun k_ => some k_ = (.slice Ao19 y546.length co19 : Value).ownBlock) (.slice Ao19 y546.length co19) t557 t560 w _ ?side1 ?side2 A7.out).mono ?_); (case side1 => repeat (first | (with_reducible first | exact HB.out | apply below_alloc | apply pw_below_drewN | apply below_drew1 | refine below_set ?_ GE542.out | refine below_set ?_ GE555.out) | exact HB.out)); (case side2 => exact Kd.R_tight rfl HO548.out); rintro e w29 ⟨v561, rfl, ho0, hb, hkp⟩; refine ⟨_, rfl, ?_⟩; replace BK542 := Aside0.mk (blk_kept (kb_ BK542.out) hkp (fun hs_ => (fun e_ => (Kd.R_ne HO548.out BK542.out (by decide)) e_) hs_)); replace BK555 := Aside0.mk (blk_kept (kb_ BK555.out) hkp (fun hs_ => (fun e_ => (Kd.R_ne HO548.out BK555.out (by decide)) e_) hs_)); have HO562 := Aside0.mk (Kd.R_mono (ok' := fun k_ => some k_ ≠ (.slice Ao18 y552.length co18 : Value).ownBlock) ho0 (fun k_ hk_ => Or.elim hk_ (fun hs_ => fun e_ => (((HO554.out).1 k_ e_.symm)) hs_) (fun hn_ => (Kd.fresh' (Kd.R_lt (kr_ HO554.out)) k_ hn_)))); replace HO554 := Aside0.mk (Kd.R_mono (ok' := fun k_ => some k_ ≠ (v561 : Value).ownBlock) (Kd.R_keptB (HO554.out) hkp (fun k_ hk_ hs_ => (hk_) hs_)) (fun k_ hk_ => fun e_ => Or.elim (ho0.1 k_ e_.symm) (fun hs_ => hk_.2.1 hs_) (fun hn_ => Nat.not_le.2 hk_.2.2 hn_))); replace HB := Aside0.mk (hb); clear HO548 hb ho0; obtain ⟨Ao30, co30, eo30⟩ := Kd.R_slice HO562.out; subst eo30; have hcz31_0 : w29.cell? ⟨gb555, 0, none⟩ = some (.slice Ao19 y546.length co19) := bc_ BK555.out 0; have hcz31_1 : w29.cell? ⟨gb555, 1, none⟩ = some (.slice Ao18 y552.length co18) := bc_ BK555.out 1; have hfz31_0 := blk_frozen BK555.out 0; have hfz31_1 := blk_frozen BK555.out 1) | ((with_reducible refine gate_store (t := 27) (p := 23) rfl ?_); refine store_event (t := 27) (p := 23) (v := ?vo_w32) (w1 := (w29.setCell ⟨gb555, 0, none⟩ (.slice Ao30 t560.length co30))) ?hg ?ho ?hn ?hr ?_; (case ho => rfl); (case hg => rfl); (case hn => rfl); (case hr => first | (go_simp; done) | (go_simp; rfl)); intro w32 hw; have n0_ : Aside0 (Kd.R k48 48 w32 w.heap.size (fun k_ => some k_ ≠ (.slice Ao30 t560.length co30 : Value).ownBlock) (.slice Ao18 y552.length co18) t559) := ⟨(by rw [hw]; exact (by exact kr_ (Kd.R_mono (Kd.R_far (p := ⟨gb555, 0, none⟩) (Kd.R_types HO554.out BK555.out (by decide)) (fun _ hk => hk.2) (.slice Ao30 t560.length co30)) (fun _ hk => hk.1))))⟩; have n1_ : Aside0 (Kd.R k48 48 w32 w.heap.size (fun k_ => some k_ ≠ (.slice Ao18 y552.length co18 : Value).ownBlock) (.slice Ao30 t560.length co30) t560) := ⟨(by rw [hw]; exact (by exact kr_ (Kd.R_mono (Kd.R_far (p := ⟨gb555, 0, none⟩) (Kd.R_types HO562.out BK555.out (by decide)) (fun _ hk => hk.2) (.slice Ao30 t560.length co30)) (fun _ hk => hk.1))))⟩; have n2_ : Aside0 (w32.heap[gb542]? = some (.cells #[.slice none 0 0, .slice none 0 0] 29 (0, 0))) := ⟨(by rw [hw]; exact kz_)⟩; have n3_ : Aside0 (w32.heap[gb555]? = some (.cells #[.slice Ao30 t560.length co30, .slice Ao18 y552.length co18] 29 (0, 0))) := ⟨(by rw [hw]; exact (by (with_reducible repeat (first | refine blk_drewN ?_ _ | refine blk_drew ?_ | refine blk_alloc ?_ _)); refine blk_put (cs := #[.slice Ao19 y546.length co19, .slice Ao18 y552.length co18]) ?_ 0 _ rfl; exact kb_ BK555.out))⟩; have n4_ : Aside0 (Below w.heap.size w w32) := ⟨(by rw [hw]; exact bl_)⟩; clear hw HO554 HO562 BK542 BK555 HB; have HO554 := n0_; have HO562 := n1_; have BK542 := n2_; have BK555 := n3_; have HB := n4_; clear n0_ n1_ n2_ n3_ n4_; have hcz33_0 : w32.cell? ⟨gb555, 0, none⟩ = some (.slice Ao30 t560.length co30) := bc_ BK555.out 0; have hcz33_1 : w32.cell? ⟨gb555, 1, none⟩ = some (.slice Ao18 y552.length co18) := bc_ BK555.out 1; have hfz33_0 := blk_frozen BK555.out 0; have hfz33_1 := blk_frozen BK555.out 1) | ((with_reducible refine gate_callee (f := 60) rfl ?_); refine goesL_ (some 26) rfl rfl Try.func60 (by kernel_rfl) rfl #[.slice Ao18 y552.length co18] rfl nc_ ?_; (with_reducible refine (impl_Add_60.calls k (fun k_ => some k_ = (.slice Ao18 y552.length co18 : Value).ownBlock) (.slice Ao18 y552.length co18) t559 t563 w _ ?side1 ?side2 A8.out).mono ?_); (case side1 => repeat (first | (with_reducible first | exact HB.out | apply below_alloc | apply pw_below_drewN | apply below_drew1 | refine below_set ?_ GE542.out | refine below_set ?_ GE555.out) | exact HB.out)); (case side2 => exact Kd.R_tight rfl HO554.out); rintro e w34 ⟨v564, rfl, ho0, hb, hkp⟩; refine ⟨_, rfl, ?_⟩; replace BK542 := Aside0.mk (blk_kept (kb_ BK542.out) hkp (fun hs_ => (fun e_ => (Kd.R_ne HO554.out BK542.out (by decide)) e_) hs_)); replace BK555 := Aside0.mk (blk_kept (kb_ BK555.out) hkp (fun hs_ => (fun e_ => (Kd.R_ne HO554.out BK555.out (by decide)) e_) hs_)); have HO565 := Aside0.mk (Kd.R_mono (ok' := fun k_ => some k_ ≠ (.slice Ao30 t560.length co30 : Value).ownBlock) ho0 (fun k_ hk_ => Or.elim hk_ (fun hs_ => fun e_ => (((HO562.out).1 k_ e_.symm)) hs_) (fun hn_ => (Kd.fresh' (Kd.R_lt (kr_ HO562.out)) k_ hn_)))); replace HO562 := Aside0.mk (Kd.R_mono (ok' := fun k_ => some k_ ≠ (v564 : Value).ownBlock) (Kd.R_keptB (HO562.out) hkp (fun k_ hk_ hs_ => (hk_) hs_)) (fun k_ hk_ => fun e_ => Or.elim (ho0.1 k_ e_.symm) (fun hs_ => hk_.2.1 hs_) (fun hn_ => Nat.not_le.2 hk_.2.2 hn_))); replace HB := Aside0.mk (hb); clear HO554 hb ho0; obtain ⟨Ao35, co35, eo35⟩ := Kd.R_slice HO565.out; subst eo35; have hcz36_0 : w34.cell? ⟨gb555, 0, none⟩ = some (.slice Ao30 t560.length co30) := bc_ BK555.out 0; have hcz36_1 : w34.cell? ⟨gb555, 1, none⟩ = some (.slice Ao18 y552.length co18) := bc_ BK555.out 1; have hfz36_0 := blk_frozen BK555.out 0; have hfz36_1 := blk_frozen BK555.out 1) | ((with_reducible refine gate_callee (f := 30) rfl ?_); refine goesL_ (some 29) rfl rfl Try.func30 (by kernel_rfl) rfl #[.agg #[.slice Ao30 t560.length co30, .slice Ao35 t563.length co35]] rfl nc_ ?_; (with_reducible refine (impl_isBag.calls k _ _ t560 _ _ t563 true _ ?side1 ?side2 ?side3 ?side4 A9.out).mono ?_); (case side1 => refine (Kd.R_reads' (e := 48) (base := w.heap.size) (ok := fun k_ => some k_ ≠ (.slice Ao35 t563.length co35 : Value).ownBlock) (n := t560.length) (c := co30) ?_).2.2; exact (by exact kr_ ((Kd.R_mono (Kd.R_far (p := ⟨gb555, 1, none⟩) (Kd.R_types HO562.out BK555.out (by decide)) (fun _ hk => hk.2) (.slice Ao35 t563.length co35)) (fun _ h_ => h_.1))))); (case side2 => exact (Kd.R_reads' HO562.out).2.1); (case side3 => refine (Kd.R_reads' (e := 48) (base := w.heap.size) (ok := fun k_ => some k_ ≠ (.slice Ao30 t560.length co30 : Value).ownBlock) (n := t563.length) (c := co35) ?_).2.2; exact (by exact kr_ ((Kd.R_mono (Kd.R_far (p := ⟨gb555, 1, none⟩) (Kd.R_types HO565.out BK555.out (by decide)) (fun _ hk => hk.2) (.slice Ao35 t563.length co35)) (fun _ h_ => h_.1))))); (case side4 => exact (Kd.R_reads' HO565.out).2.1); rintro e w37 ⟨rfl, hb⟩; refine ⟨_, rfl, ?_⟩; replace HO562 := Aside0.mk (Kd.R_below (by exact kr_ ((Kd.R_mono (Kd.R_far (p := ⟨gb555, 1, none⟩) (Kd.R_types HO562.out BK555.out (by decide)) (fun _ hk => hk.2) (.slice Ao35 t563.length co35)) (fun _ h_ => h_.1)))) hb); replace HO565 := Aside0.mk (Kd.R_below (by exact kr_ ((Kd.R_mono (Kd.R_far (p := ⟨gb555, 1, none⟩) (Kd.R_types HO565.out BK555.out (by decide)) (fun _ hk => hk.2) (.slice Ao35 t563.length co35)) (fun _ h_ => h_.1)))) hb); replace BK542 := Aside0.mk (blk_below (g := gb542) (o := .cells #[.slice none 0 0, .slice none 0 0] 29 (0, 0)) kz_ hb); replace BK555 := Aside0.mk (blk_below (g := gb555) (o := .cells #[.slice Ao30 t560.length co30, .slice Ao35 t563.length co35] 29 (0, 0)) (by (with_reducible repeat (first | refine blk_drewN ?_ _ | refine blk_drew ?_ | refine blk_alloc ?_ _)); refine blk_put (cs := #[.slice Ao30 t560.length co30, .slice Ao18 y552.length co18]) ?_ 1 _ rfl; exact kb_ BK555.out) hb); replace HB := Aside0.mk (below_step bl_ hb); clear hb; have hcz38_0 : w37.cell? ⟨gb555, 0, none⟩ = some (.slice Ao30 t560.length co30) := bc_ BK555.out 0; have hcz38_1 : w37.cell? ⟨gb555, 1, none⟩ = some (.slice Ao35 t563.length co35) := bc_ BK555.out 1; have hfz38_0 := blk_frozen BK555.out 0; have hfz38_1 := blk_frozen BK555.out 1; have hcz39_0 : w37.cell? ⟨gb542, 0, none⟩ = some (.slice none 0 0) := bc_ BK542.out 0; have hcz39_1 : w37.cell? ⟨gb542, 1, none⟩ = some (.slice none 0 0) := bc_ BK542.out 1; have hfz39_0 := blk_frozen BK542.out 0; have hfz39_1 := blk_frozen BK542.out 1))
 refine bodyPost_ret (results_ct rfl _ _ gb542 29 #[.slice Ao30 t560.length co30, .slice Ao35 t563.length co35] (0, 0) _ rfl (by (with_reducible repeat (first | refine blk_drewN ?_ _ | refine blk_drew ?_ | refine blk_alloc ?_ _)); refine blk_put (cs := #[.slice Ao30 t560.length co30, .slice none 0 0]) ?_ 1 _ rfl; (with_reducible repeat (first | refine blk_drewN ?_ _ | refine blk_drew ?_ | refine blk_alloc ?_ _)); refine blk_put (cs := #[.slice none 0 0, .slice none 0 0]) ?_ 0 _ rfl; exact kb_ BK542.out) Try.underlying29 rfl (by kernel_rfl)) rfl ?_
 exact ⟨_, _, ng_, by exact kr_ (Kd.R_mono (Kd.R_far (p := ⟨gb542, 1, none⟩) (Kd.R_far (p := ⟨gb542, 0, none⟩) (Kd.R_types HO562.out BK542.out (by decide)) (fun _ hk => hk.2) (.slice Ao30 t560.length co30)) (fun _ hk => hk.2) (.slice Ao35 t563.length co35)) (fun _ hk => hk.1)), by exact kr_ (Kd.R_mono (Kd.R_far (p := ⟨gb542, 1, none⟩) (Kd.R_far (p := ⟨gb542, 0, none⟩) (Kd.R_types HO565.out BK542.out (by decide)) (fun _ hk => hk.2) (.slice Ao30 t560.length co30)) (fun _ hk => hk.2) (.slice Ao35 t563.length co35)) (fun _ hk => hk.1)), bl_⟩

end Go.Proofs.Ytdnapgnnliibfaa.PAT
