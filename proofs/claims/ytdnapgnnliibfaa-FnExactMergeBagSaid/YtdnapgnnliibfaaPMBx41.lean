/- What this text proves (a hand-built part): slices.Compact at adds, on a row of one's own, returns what the plain function says. Conditions: as each theorem says. -/
import Derived.Test.YtdnapgnnliibfaaPMBx0
import Derived.Test.YtdnapgnnliibfaaPMBx1
import Derived.Test.YtdnapgnnliibfaaPMBx40
namespace Go.Proofs.Ytdnapgnnliibfaa.PMB
open Go.RowKit Go.Proofs.YtdnapgnnliibfaaW.PrintWords Go.Proofs.YtdnapgnnliibfaaW.PrintLast Go.Proofs.YtdnapgnnliibfaaW.PrintMore
attribute [local go_sem] max2_int min2_int max_two min_two max_three min_three max_four min_four   -- for this text's walks alone
set_option linter.unusedVariables false
set_option linter.unusedSimpArgs false

attribute [local go_sem high] eqA48
-- NOT PRINTED: function 80 (impl_Add_80)

-- NOT PRINTED: function 94 (impl_Add_94)

-- NOT PRINTED: function 81 (impl_Add_81)

-- NOT PRINTED: function 82 (impl_Add_82)

-- NOT PRINTED: function 98 (impl_Add_98)

-- NOT PRINTED: function 96 (impl_Add_96)

-- NOT PRINTED: function 95 (impl_Add_95)

-- NOT PRINTED: function 83 (impl_Add_83)

-- NOT PRINTED: function 84 (impl_Add_84)

-- NOT PRINTED: function 85 (impl_Add_85)

-- NOT PRINTED: function 86 (impl_Add_86)

-- NOT PRINTED: function 87 (impl_Add_87)

-- NOT PRINTED: function 67 (impl_Add_67)

-- NOT PRINTED: function 59 (impl_Add_59)

/-! ### impl_Add_60: function 60 -/
mutual
def impl_Add_60.l0 : Nat → List (S48) → Int → Option ((List (S48)))
 | 0, _, _ => none
 | k + 1, x0, x3 => if x3 < (x0.length : Int) then (if 0 ≤ x3 then (if 0 ≤ (wrap64 (x3 - 1)) then (if (wrap64 (x3 - 1)) < (x0.length : Int) then (if ((((rd_T48 x0 x3).f0).toList) == (((rd_T48 x0 (wrap64 (x3 - 1))).f0).toList) && (((rd_T48 x0 x3).f1) == ((rd_T48 x0 (wrap64 (x3 - 1))).f1) && (((rd_T48 x0 x3).f2) == ((rd_T48 x0 (wrap64 (x3 - 1))).f2)))) = true then (if x3 ≤ (x0.length : Int) then (impl_Add_60.l1 k x0 x3 x3 1) else (none)) else (impl_Add_60.l0 k x0 (wrap64 (x3 + 1)))) else (none)) else (none)) else (none)) else (some x0)
def impl_Add_60.l1 : Nat → List (S48) → Int → Int → Int → Option ((List (S48)))
 | 0, _, _, _, _ => none
 | k + 1, x0, x3, x4, x5 => if x5 < ((x0.drop x4.toNat).length : Int) then (if 0 ≤ x5 then (if 0 ≤ (wrap64 (x5 - 1)) then (if (wrap64 (x5 - 1)) < ((x0.drop x4.toNat).length : Int) then (if (!((((rd_T48 (x0.drop x4.toNat) x5).f0).toList) == (((rd_T48 (x0.drop x4.toNat) (wrap64 (x5 - 1))).f0).toList)) || (!(((rd_T48 (x0.drop x4.toNat) x5).f1) == ((rd_T48 (x0.drop x4.toNat) (wrap64 (x5 - 1))).f1)) || (!(((rd_T48 (x0.drop x4.toNat) x5).f2) == ((rd_T48 (x0.drop x4.toNat) (wrap64 (x5 - 1))).f2))))) = true then (if 0 ≤ x3 then (if x3 < (x0.length : Int) then (impl_Add_60.l1 k (x0.set (x3 : Int).toNat (⟨(rd_T48 (x0.drop x4.toNat) x5).f0, (rd_T48 (x0.drop x4.toNat) x5).f1, (rd_T48 (x0.drop x4.toNat) x5).f2⟩ : S48)) (wrap64 (x3 + 1)) x4 (wrap64 (x5 + 1))) else (none)) else (none)) else (impl_Add_60.l1 k x0 x3 x4 (wrap64 (x5 + 1)))) else (none)) else (none)) else (none)) else (if 0 ≤ x3 then (if x3 < (x0.length : Int) then (some (x0.take (x3 : Int).toNat)) else (none)) else (none))
end
def impl_Add_60.f (k : Nat) (l0 : List (S48)) : Option ((List (S48))) := if (l0.length : Int) < 2 then (some l0) else (impl_Add_60.l0 k l0 1)
theorem impl_Add_60.mono_l : ∀ k, (∀ y0 y1, LeO (impl_Add_60.l0 k y0 y1) (impl_Add_60.l0 (k + 1) y0 y1)) ∧ (∀ y0 y1 y2 y3, LeO (impl_Add_60.l1 k y0 y1 y2 y3) (impl_Add_60.l1 (k + 1) y0 y1 y2 y3))
 | 0 => ⟨fun _ _ r h => by simp [impl_Add_60.l0] at h, fun _ _ _ _ r h => by simp [impl_Add_60.l1] at h⟩
 | k + 1 => by
  obtain ⟨ih0, ih1⟩ := impl_Add_60.mono_l k
  refine ⟨?_, ?_⟩
  ·intro y0 y1
   unfold impl_Add_60.l0
   repeat' first
   | (with_reducible exact ih0 _ _)
   | (with_reducible exact ih1 _ _ _ _)
   | (with_reducible exact LeO.refl _)
   | (with_reducible exact LeO.none _)
   | (with_reducible refine LeO.ite ?_ ?_)
   | (with_reducible refine LeO.bind ?_ (fun _ => ?_))
   | exact ih0 _ _
   | exact ih1 _ _ _ _
   | exact LeO.none _
   | refine LeO.ite ?_ ?_
   | refine LeO.bind ?_ (fun _ => ?_)
  ·intro y0 y1 y2 y3
   unfold impl_Add_60.l1
   repeat' first
   | (with_reducible exact ih0 _ _)
   | (with_reducible exact ih1 _ _ _ _)
   | (with_reducible exact LeO.refl _)
   | (with_reducible exact LeO.none _)
   | (with_reducible refine LeO.ite ?_ ?_)
   | (with_reducible refine LeO.bind ?_ (fun _ => ?_))
   | exact ih0 _ _
   | exact ih1 _ _ _ _
   | exact LeO.none _
   | refine LeO.ite ?_ ?_
   | refine LeO.bind ?_ (fun _ => ?_)
theorem impl_Add_60.mono : ∀ a0 k, LeO (impl_Add_60.f k a0) (impl_Add_60.f (k + 1) a0) := by
 intro a0 k
 obtain ⟨ih0, ih1⟩ := impl_Add_60.mono_l k
 unfold impl_Add_60.f
 repeat' first
   | (with_reducible exact ih0 _ _)
   | (with_reducible exact ih1 _ _ _ _)
   | (with_reducible exact LeO.refl _)
   | (with_reducible exact LeO.none _)
   | (with_reducible refine LeO.ite ?_ ?_)
   | (with_reducible refine LeO.bind ?_ (fun _ => ?_))
   | exact ih0 _ _
   | exact ih1 _ _ _ _
   | exact LeO.none _
   | refine LeO.ite ?_ ?_
   | refine LeO.bind ?_ (fun _ => ?_)
set_option maxHeartbeats 8000000 in
set_option maxRecDepth 100000 in
theorem impl_Add_60.calls (k : Nat) (P0_ : Nat → Prop) (u9000_ : Value) (l0 : List (S48)) (r : List (S48)) (w0 w : World) (hB : Below w0.heap.size w0 w) (ho0 : Kd.R k48 48 w w0.heap.size P0_ u9000_ l0) (h : impl_Add_60.f k l0 = some r) :
  Calls Try.prog 60 #[u9000_] w fun e w' => ∃ v0_ : Value, e = .returned (v0_) ∧ Kd.R k48 48 w' w0.heap.size (fun k_ => (P0_ k_ ∨ w.heap.size ≤ k_)) v0_ r ∧ Below w0.heap.size w0 w' ∧ Kept w w' (fun k_ => P0_ k_) := by
 have hu48 := Try.underlying48
 have HO0 := Aside0.mk (show Kd.R k48 48 w w0.heap.size (fun k_ => (P0_ k_ ∨ w.heap.size ≤ k_)) u9000_ l0 from Kd.R_mono ho0 (fun k_ hk => (.inl hk)))
 have HK := Aside0.mk (Kept.refl w (fun k_ => P0_ k_))
 have HW0 := Aside0.mk hB.size
 have HB := Aside0.mk hB
 clear hB
 have H : (if (l0.length : Int) < 2 then (some l0) else (impl_Add_60.l0 k l0 1)) = some r := h
 clear h
 by_cases c2 : (l0.length : Int) < 2
 ·rw [if_pos c2] at H
  have c2b0 : decide ((l0.length : Int) < 2) = true := decide_eq_true c2
  have c2b1 : decide (l0.length < 2) = true := decide_eq_true (by omega)
  clear c2
  obtain rfl := Option.some.inj H
  obtain ⟨Ao3, co3, eo3⟩ := Kd.R_slice HO0.out
  subst eo3
  go_enter Try.func60, Try.ntmps60
  go_wp2
  repeat (go_quiet (fail); try go_wp2)
  go_ret
  exact ⟨_, ng_, by exact kr_ HO0.out, bl_, by repeat (first | (with_reducible first | exact HK.out | apply Kept.alloc | apply Kept.drewN | apply Kept.drew) | exact HK.out)⟩
 rw [if_neg c2] at H
 have c2b0 : decide ((l0.length : Int) < 2) = false := decide_eq_false c2
 have c2b1 : decide (l0.length < 2) = false := decide_eq_false (by omega)
 clear c2
 have H' := Aside0.mk H
 clear H
 obtain ⟨Ao4, co4, eo4⟩ := Kd.R_slice HO0.out
 subst eo4
 obtain ⟨g0_, cg_, eg_, gbg_, glg_, clg_, HGg_⟩ := Kd.R_form HO0.out (by have := of_decide_eq_false c2b0; omega)
 obtain rfl : Ao4 = some ⟨g0_, 0, none⟩ := by injection eg_
 clear eg_ gbg_ glg_ HGg_
 go_enter Try.func60, Try.ntmps60
 go_wp2
 repeat (go_quiet (fail); try go_wp2)
 go_loopg [3] k (fun kq v3 w' => ∃ (x0_1 : List (S48)) (x3_1 : Int), v3 = .int .i64 x3_1 ∧ Aside0 (impl_Add_60.l0 kq x0_1 x3_1 = some r) ∧ Aside0 (kq ≤ k) ∧ Aside0 (Kd.R k48 48 w' w0.heap.size (fun k_ => (P0_ k_ ∨ w.heap.size ≤ k_)) (.slice (some ⟨g0_, 0, none⟩) l0.length co4) x0_1) ∧ Aside0 (Kept w w' (fun k_ => P0_ k_)) ∧ Aside0 (Below w0.heap.size w0 w'))
 case atStart => exact ⟨(l0), (1), (by first | rfl | (simp; done) | (simp [*]; done)), H', ⟨Nat.le_refl _⟩, ⟨by exact kr_ HO0.out⟩, ⟨by repeat (first | (with_reducible first | exact HK.out | apply Kept.alloc | apply Kept.drewN | apply Kept.drew) | exact HK.out)⟩, ⟨bl_⟩⟩
 clear H'
 try clear c2
 try clear c2b0
 try clear c2b1
 try clear p2
 obtain ⟨x0_1, x3_1, rfl, HA, HK1, HO_0, HK, HB⟩ := hrel
 have hl0_1 := (Kd.R_reads' HO_0.out).1
 rw [hl0_1] at HO_0
 (try simp only [hl0_1])
 cases gk with
 | zero => exact absurd HA.out (by simp [impl_Add_60.l0])
 | succ k1 => ?_
 have H := HA.out
 clear HA
 simp only [impl_Add_60.l0] at H
 by_cases c5 : x3_1 < (x0_1.length : Int)
 rotate_left
 ·rw [if_neg c5] at H
  have c5b0 : decide (x3_1 < (x0_1.length : Int)) = false := decide_eq_false c5
  clear c5
  obtain rfl := Option.some.inj H
  go_wp2
  repeat (go_quiet (fail); try go_wp2)
  go_ret
  exact ⟨_, ng_, by exact kr_ HO_0.out, bl_, by repeat (first | (with_reducible first | exact HK.out | apply Kept.alloc | apply Kept.drewN | apply Kept.drew) | exact HK.out)⟩
 rw [if_pos c5] at H
 have c5b0 : decide (x3_1 < (x0_1.length : Int)) = true := decide_eq_true c5
 clear c5
 by_cases c6 : 0 ≤ x3_1
 rotate_left
 ·rw [if_neg c6] at H
  exact absurd H (by simp)
 rw [if_pos c6] at H
 have c6b0 : decide (0 ≤ x3_1) = true := decide_eq_true c6
 clear c6
 obtain ⟨ji7, hji7⟩ : ∃ j_ : Int, (wrap64 (x3_1 - 1)) = j_ := ⟨_, rfl⟩
 replace H : (if 0 ≤ (ji7) then (if (ji7) < (x0_1.length : Int) then (if ((((rd_T48 x0_1 x3_1).f0).toList) == (((rd_T48 x0_1 (ji7)).f0).toList) && (((rd_T48 x0_1 x3_1).f1) == ((rd_T48 x0_1 (ji7)).f1) && (((rd_T48 x0_1 x3_1).f2) == ((rd_T48 x0_1 (ji7)).f2)))) = true then (if x3_1 ≤ (x0_1.length : Int) then (impl_Add_60.l1 k1 x0_1 x3_1 x3_1 1) else (none)) else (impl_Add_60.l0 k1 x0_1 (wrap64 (x3_1 + 1)))) else (none)) else (none)) = some r := by first | (rw [hji7] at H; exact H) | (simp only [hji7] at H ⊢; exact H)
 have hji7w : (IntKind.i64.wrap (x3_1 - 1)) = ji7 := (i64_w _).trans hji7
 by_cases c8 : 0 ≤ (ji7)
 rotate_left
 ·rw [if_neg c8] at H
  exact absurd H (by simp)
 rw [if_pos c8] at H
 have c8b0 : decide (0 ≤ (ji7)) = true := decide_eq_true c8
 clear c8
 by_cases c9 : (ji7) < (x0_1.length : Int)
 rotate_left
 ·rw [if_neg c9] at H
  exact absurd H (by simp)
 rw [if_pos c9] at H
 have c9b0 : decide ((ji7) < (x0_1.length : Int)) = true := decide_eq_true c9
 clear c9
 by_cases c10 : ((((rd_T48 x0_1 x3_1).f0).toList) == (((rd_T48 x0_1 (ji7)).f0).toList) && (((rd_T48 x0_1 x3_1).f1) == ((rd_T48 x0_1 (ji7)).f1) && (((rd_T48 x0_1 x3_1).f2) == ((rd_T48 x0_1 (ji7)).f2)))) = true
 rotate_left
 ·rw [if_neg c10] at H
  have c10b0 : ((((rd_T48 x0_1 x3_1).f0).toList) == (((rd_T48 x0_1 (ji7)).f0).toList) && (((rd_T48 x0_1 x3_1).f1) == ((rd_T48 x0_1 (ji7)).f1) && (((rd_T48 x0_1 x3_1).f2) == ((rd_T48 x0_1 (ji7)).f2)))) = false := by simpa using c10
  (try (have c10b1 : decide ((((rd_T48 x0_1 x3_1).f0).toList) = (((rd_T48 x0_1 (ji7)).f0).toList) && (((rd_T48 x0_1 x3_1).f1) == ((rd_T48 x0_1 (ji7)).f1) && (((rd_T48 x0_1 x3_1).f2) == ((rd_T48 x0_1 (ji7)).f2)))) = false := by simpa using c10))
  (try (have c10b2 : ((((rd_T48 x0_1 x3_1).f0).toList) == (((rd_T48 x0_1 (ji7)).f0).toList) && (((rd_T48 x0_1 x3_1).f1) == ((rd_T48 x0_1 (ji7)).f1) && (((rd_T48 x0_1 x3_1).f2) == ((rd_T48 x0_1 (ji7)).f2)))) = false := by simpa using c10))
  (try (have c10b3 : ¬ ((((rd_T48 x0_1 x3_1).f0).toList) = (((rd_T48 x0_1 (ji7)).f0).toList) && (((rd_T48 x0_1 x3_1).f1) == ((rd_T48 x0_1 (ji7)).f1) && (((rd_T48 x0_1 x3_1).f2) == ((rd_T48 x0_1 (ji7)).f2)))) := by simpa using c10))
  clear c10
  have H' := Aside0.mk H
  clear H
  have p545 : 0 ≤ (x3_1 : Int) := of_decide_eq_true (by first | (with_reducible assumption) | assumption)
  have q545 : x3_1 < (x0_1.length : Int) := of_decide_eq_true (by first | (with_reducible assumption) | assumption)
  obtain ⟨ad545, e545, hx545_0, hx545_1, hx545_2⟩ := at_T48 (Kd.R_reads' HO_0.out).2.2 x3_1 p545 q545
  cases e545
  (try simp only [add_plain] at hx545_0)
  (try simp only [add_plain] at hx545_1)
  (try simp only [add_plain] at hx545_2)
  replace p545 := eq_true p545
  replace q545 := eq_true q545
  have p546 : 0 ≤ ((ji7) : Int) := of_decide_eq_true (by first | (with_reducible assumption) | assumption)
  have q546 : (ji7) < (x0_1.length : Int) := of_decide_eq_true (by first | (with_reducible assumption) | assumption)
  obtain ⟨ad546, e546, hx546_0, hx546_1, hx546_2⟩ := at_T48 (Kd.R_reads' HO_0.out).2.2 (ji7) p546 q546
  cases e546
  (try simp only [add_plain] at hx546_0)
  (try simp only [add_plain] at hx546_1)
  (try simp only [add_plain] at hx546_2)
  replace p546 := eq_true p546
  replace q546 := eq_true q546
  go_wp2
  repeat (go_quiet (fail); try go_wp2)
  (try simp only [← hl0_1])
  go_roundg k1
  case measure => have := HK1.out; omega
  case rel => exact ⟨(x0_1), (wrap64 (x3_1 + 1)), (by first | rfl | (simp; done) | (simp [*]; done)), H', ⟨by have := HK1.out; omega⟩, ⟨by (try simp only [hl0_1]); exact kr_ HO_0.out⟩, ⟨by repeat (first | (with_reducible first | exact HK.out | apply Kept.alloc | apply Kept.drewN | apply Kept.drew) | exact HK.out)⟩, ⟨bl_⟩⟩
 rw [if_pos c10] at H
 have c10b0 : ((((rd_T48 x0_1 x3_1).f0).toList) == (((rd_T48 x0_1 (ji7)).f0).toList) && (((rd_T48 x0_1 x3_1).f1) == ((rd_T48 x0_1 (ji7)).f1) && (((rd_T48 x0_1 x3_1).f2) == ((rd_T48 x0_1 (ji7)).f2)))) = true := c10
 (try (have c10b1 : decide ((((rd_T48 x0_1 x3_1).f0).toList) = (((rd_T48 x0_1 (ji7)).f0).toList) && (((rd_T48 x0_1 x3_1).f1) == ((rd_T48 x0_1 (ji7)).f1) && (((rd_T48 x0_1 x3_1).f2) == ((rd_T48 x0_1 (ji7)).f2)))) = true := by simpa using c10))
 (try (have c10b2 : ((((rd_T48 x0_1 x3_1).f0).toList) == (((rd_T48 x0_1 (ji7)).f0).toList) && (((rd_T48 x0_1 x3_1).f1) == ((rd_T48 x0_1 (ji7)).f1) && (((rd_T48 x0_1 x3_1).f2) == ((rd_T48 x0_1 (ji7)).f2)))) = true := by simpa using c10))
 clear c10
 have c11b0 := eq_true (of_decide_eq_true (by first | (with_reducible assumption) | assumption) : 0 ≤ x3_1)
 by_cases c12 : x3_1 ≤ (x0_1.length : Int)
 rotate_left
 ·rw [if_neg c12] at H
  exact absurd H (by simp)
 rw [if_pos c12] at H
 have c12b0 := eq_true c12
 have c12b1 : decide (x3_1 ≤ (x0_1.length : Int)) = true := decide_eq_true c12
 clear c12
 obtain ⟨y547, hy547⟩ : ∃ y_ : List (S48), y_ = (x0_1.drop (x3_1 : Int).toNat) := ⟨_, rfl⟩
 have Ny547 := Aside0.mk hy547
 clear hy547
 have H' := Aside0.mk H
 clear H
 have p545 : 0 ≤ (x3_1 : Int) := of_decide_eq_true (by first | (with_reducible assumption) | assumption)
 have q545 : x3_1 < (x0_1.length : Int) := of_decide_eq_true (by first | (with_reducible assumption) | assumption)
 obtain ⟨ad545, e545, hx545_0, hx545_1, hx545_2⟩ := at_T48 (Kd.R_reads' HO_0.out).2.2 x3_1 p545 q545
 cases e545
 (try simp only [add_plain] at hx545_0)
 (try simp only [add_plain] at hx545_1)
 (try simp only [add_plain] at hx545_2)
 replace p545 := eq_true p545
 replace q545 := eq_true q545
 have p546 : 0 ≤ ((ji7) : Int) := of_decide_eq_true (by first | (with_reducible assumption) | assumption)
 have q546 : (ji7) < (x0_1.length : Int) := of_decide_eq_true (by first | (with_reducible assumption) | assumption)
 obtain ⟨ad546, e546, hx546_0, hx546_1, hx546_2⟩ := at_T48 (Kd.R_reads' HO_0.out).2.2 (ji7) p546 q546
 cases e546
 (try simp only [add_plain] at hx546_0)
 (try simp only [add_plain] at hx546_1)
 (try simp only [add_plain] at hx546_2)
 replace p546 := eq_true p546
 replace q546 := eq_true q546
 have q13 : (x3_1 : Int) ≤ ((x0_1.length : Int) : Int) := of_decide_eq_true (by first | (with_reducible assumption) | assumption)
 obtain ⟨i013, hi013, _, hsz13, _⟩ := info_parts info48
 have hroom13 : x0_1.length ≤ co4 := (Kd.R_reads' HO_0.out).2.1
 have hC13 : Kd.C k48 _ (some ⟨g0_, 0, none⟩) x0_1.length x0_1 := (Kd.R_reads' HO_0.out).2.2
 have q013 : (0 : Int) ≤ (x3_1 : Int) := of_decide_eq_true (by first | (with_reducible assumption) | assumption)
 have hcut13 := cut_from (P := Try.prog) 27 48 .i64 Try.underlying27 hi013 3 hsz13 (some ⟨g0_, 0, none⟩) x0_1.length co4 x3_1 q013 q13
 have hr13 := Kd.C_drop (m := (x3_1 : Int).toNat) (c := co4) hC13 (by omega) hroom13
 obtain ⟨A13, hA13⟩ : ∃ A1, A1 = (if co4 = (x3_1 : Int).toNat then (some ⟨g0_, 0, none⟩) else ((some ⟨g0_, 0, none⟩) : Option Addr).map (·.add ((x3_1 : Int).toNat * 3))) := ⟨_, rfl⟩
 obtain ⟨c13, hc13⟩ : ∃ c1, c1 = co4 - (x3_1 : Int).toNat := ⟨_, rfl⟩
 have hy13 : y547.length = x0_1.length - (x3_1 : Int).toNat := (by rw [Ny547.out, List.length_drop] <;> omega)
 rw [show (x0_1).drop (x3_1 : Int).toNat = y547 from Ny547.out.symm] at hr13
 replace hr13 : Kd.C k48 _ A13 y547.length y547 := (by rw [hA13]; exact hr13)
 rw [← hy13, ← hA13, ← hc13] at hcut13
 have HR550 := Aside0.mk hr13
 have HC550 := Aside0.mk (show y547.length ≤ c13 from by rw [hy13, hc13]; exact Nat.sub_le_sub_right hroom13 _)
 clear hr13 hC13 hroom13 hi013 hsz13 hc13
 have KY13 := Aside0.mk hy13
 have KA13 := Aside0.mk hA13
 clear hy13 hA13
 have KL13 := Aside0.mk (show (x3_1 : Int).toNat ≤ x0_1.length from by omega)
 replace q13 := eq_true q13
 go_wp2
 repeat (go_quiet (fail); try go_wp2)
 have KM_ := Aside0.mk (show 0 ≤ x3_1 ∧ x3_1 < (x0_1.length : Int) from ⟨of_eq_true p545, of_eq_true q545⟩)
 go_loopg [3, 5] k1 (fun kq v3 v5 w' => ∃ (x0_2 : List (S48)) (x3_2 : Int) (x5_2 : Int), v3 = .int .i64 x3_2 ∧ v5 = .int .i64 x5_2 ∧ Aside0 (impl_Add_60.l1 kq x0_2 x3_2 x3_1 x5_2 = some r) ∧ Aside0 (kq ≤ k1) ∧ Aside0 (Kd.R k48 48 w' w0.heap.size (fun k_ => (P0_ k_ ∨ w.heap.size ≤ k_)) (.slice (some ⟨g0_, 0, none⟩) x0_1.length co4) x0_2) ∧ Aside0 (Kept w w' (fun k_ => P0_ k_)) ∧ Aside0 (Below w0.heap.size w0 w'))
 case atStart => exact ⟨(x0_1), (x3_1), (1), (by first | rfl | (simp; done) | (simp [*]; done)), (by first | rfl | (simp; done) | (simp [*]; done)), H', ⟨Nat.le_refl _⟩, ⟨by (try simp only [hl0_1]); exact kr_ HO_0.out⟩, ⟨by repeat (first | (with_reducible first | exact HK.out | apply Kept.alloc | apply Kept.drewN | apply Kept.drew) | exact HK.out)⟩, ⟨bl_⟩⟩
 clear H'
 try clear c1
 try clear q1
 try clear c2
 try clear c2b0
 try clear c2b1
 try clear p2
 try clear c5
 try clear c5b0
 try clear p5
 try clear q5
 try clear hx5
 try clear c6
 try clear c6b0
 try clear p6
 try clear c8
 try clear c8b0
 try clear c9
 try clear c9b0
 try clear c10
 try clear c10b0
 try clear c10b1
 try clear c10b2
 try clear c11
 try clear c11b0
 try clear c12
 try clear c12b0
 try clear c12b1
 try clear c13
 try clear q13
 try clear hx545_0
 try clear hx545_1
 try clear hx545_2
 try clear hx546_0
 try clear hx546_1
 try clear hx546_2
 try clear p2
 try clear p545
 try clear p546
 try clear q013
 try clear q13
 try clear q545
 try clear q546
 obtain ⟨x0_2, x3_2, x5_2, rfl, rfl, HA, HK2, HO_0, HK, HB⟩ := hrel
 have hl0_2 := (Kd.R_reads' HO_0.out).1
 rw [hl0_2] at HO_0
 (try simp only [hl0_2])
 cases gk with
 | zero => exact absurd HA.out (by simp [impl_Add_60.l1])
 | succ k2 => ?_
 have H := HA.out
 clear HA
 simp only [impl_Add_60.l1] at H
 have hC_b : Kd.C k48 _ (some ⟨g0_, 0, none⟩) x0_2.length x0_2 := (Kd.R_reads' HO_0.out).2.2
 have hroom_b : x0_2.length ≤ co4 := (Kd.R_reads' HO_0.out).2.1
 have hr_b := Kd.C_drop (m := (x3_1 : Int).toNat) (c := co4) hC_b (by have := KM_.out; omega) hroom_b
 obtain ⟨yn, hyn⟩ : ∃ y_ : List (S48), y_ = x0_2.drop (x3_1 : Int).toNat := ⟨_, rfl⟩
 have hylen : yn.length = y547.length := by rw [hyn, List.length_drop, KY13.out]; omega
 rw [← hyn, hylen] at hr_b
 simp only [← hyn, hylen] at H
 have HRb := Aside0.mk (show Kd.C k48 _ A13 y547.length yn from by rw [KA13.out]; exact hr_b)
 clear hC_b hroom_b hr_b hyn hylen
 by_cases c14 : x5_2 < (y547.length : Int)
 rotate_left
 ·rw [if_neg c14] at H
  have c14b0 : decide (x5_2 < (y547.length : Int)) = false := decide_eq_false c14
  clear c14
  by_cases c25 : 0 ≤ x3_2
  rotate_left
  ·rw [if_neg c25] at H
   exact absurd H (by simp)
  rw [if_pos c25] at H
  have c25b0 := eq_true c25
  have c25b1 : decide (0 ≤ x3_2) = true := decide_eq_true c25
  clear c25
  by_cases c26 : x3_2 < (x0_2.length : Int)
  rotate_left
  ·rw [if_neg c26] at H
   exact absurd H (by simp)
  rw [if_pos c26] at H
  have c26L := Aside0.mk (And.intro (of_eq_true c25b0) c26)
  replace c26 : x3_2 ≤ (x0_2.length : Int) := Int.le_of_lt c26
  have c26b0 := eq_true c26
  have c26b1 : decide (x3_2 ≤ (x0_2.length : Int)) = true := decide_eq_true c26
  clear c26
  obtain ⟨y555, hy555⟩ : ∃ y_ : List (S48), y_ = (x0_2.drop (x3_2 : Int).toNat) := ⟨_, rfl⟩
  replace H : (some (x0_2.take (x3_2 : Int).toNat)) = some r := by first | (rw [hy555]; with_reducible exact H) | (have H2_ := (Option.bind_some _ _).symm.trans H; rw [hy555]; with_reducible exact H2_) | (have H2_ := (Option.bind_some _ _).symm.trans H; with_reducible exact H2_) | with_reducible exact H | (rw [hy555]; exact H) | exact H
  have Ny555 := Aside0.mk hy555
  clear hy555
  have c27b0 := eq_true (of_decide_eq_true (by first | (with_reducible assumption) | assumption) : x3_2 ≤ (x0_2.length : Int))
  obtain ⟨y559, hy559⟩ : ∃ y_ : List (S48), y_ = (x0_2.take (x3_2 : Int).toNat) := ⟨_, rfl⟩
  replace H : (some y559) = some r := by first | (rw [hy559]; with_reducible exact H) | (have H2_ := (Option.bind_some _ _).symm.trans H; rw [hy559]; with_reducible exact H2_) | (have H2_ := (Option.bind_some _ _).symm.trans H; with_reducible exact H2_) | with_reducible exact H | (rw [hy559]; exact H) | exact H
  have Ny559 := Aside0.mk hy559
  clear hy559
  obtain rfl := Option.some.inj H
  obtain ⟨gb30, gl30, cl30, HG30⟩ := R_formX HO_0.out (by have := c26L.out; omega)
  have q28 : (x3_2 : Int) ≤ ((x0_2.length : Int) : Int) := of_decide_eq_true (by first | (with_reducible assumption) | assumption)
  obtain ⟨i028, hi028, _, hsz28, _⟩ := info_parts info48
  have hroom28 : x0_2.length ≤ co4 := (Kd.R_reads' HO_0.out).2.1
  have hC28 : Kd.C k48 _ (some ⟨g0_, 0, none⟩) x0_2.length x0_2 := (Kd.R_reads' HO_0.out).2.2
  have q028 : (0 : Int) ≤ (x3_2 : Int) := of_decide_eq_true (by first | (with_reducible assumption) | assumption)
  have hcut28 := cut_from (P := Try.prog) 27 48 .i64 Try.underlying27 hi028 3 hsz28 (some ⟨g0_, 0, none⟩) x0_2.length co4 x3_2 q028 q28
  have hr28 := Kd.C_drop (m := (x3_2 : Int).toNat) (c := co4) hC28 (by omega) hroom28
  obtain ⟨A28, hA28⟩ : ∃ A1, A1 = (if co4 = (x3_2 : Int).toNat then (some ⟨g0_, 0, none⟩) else ((some ⟨g0_, 0, none⟩) : Option Addr).map (·.add ((x3_2 : Int).toNat * 3))) := ⟨_, rfl⟩
  obtain ⟨c28, hc28⟩ : ∃ c1, c1 = co4 - (x3_2 : Int).toNat := ⟨_, rfl⟩
  have hy28 : y555.length = x0_2.length - (x3_2 : Int).toNat := (by rw [Ny555.out, List.length_drop] <;> omega)
  rw [show (x0_2).drop (x3_2 : Int).toNat = y555 from Ny555.out.symm] at hr28
  replace hr28 : Kd.C k48 _ A28 y555.length y555 := (by rw [hA28]; exact hr28)
  rw [← hy28, ← hA28, ← hc28] at hcut28
  have HR558 := Aside0.mk hr28
  have HC558 := Aside0.mk (show y555.length ≤ c28 from by rw [hy28, hc28]; exact Nat.sub_le_sub_right hroom28 _)
  clear hr28 hC28 hroom28 hi028 hsz28 hc28
  have KY28 := Aside0.mk hy28
  have KA28 := Aside0.mk hA28
  clear hy28 hA28
  have KL28 := Aside0.mk (show (x3_2 : Int).toNat ≤ x0_2.length from by omega)
  replace q28 := eq_true q28
  have hcl : ∀ ty, (Builtin.clear_ #[27] ty #[.slice A28 y555.length c28]).run Try.prog wr = .ok (.tuple #[]) (wr.setCells g0_ ((x3_2 : Int).toNat * 3) (zeroL (x0_2.length - (x3_2 : Int).toNat))) := by
    intro ty
    have hlt := c26L.out
    have hro := (Kd.R_reads' HO_0.out).2.1
    have eA : A28 = some ⟨g0_, (x3_2 : Int).toNat * 3, none⟩ := by rw [KA28.out, if_neg (by omega)]; (first | (simp only [Option.map_some, add_plain]; done) | (simp [Addr.add]; done) | (simp [Addr.add]; intro h_; omega))
    rw [eA, KY28.out]
    exact clear_run HO_0.out (by omega) ty
  obtain ⟨hR2, hG2⟩ := clearA (x0_2.length - (x3_2 : Int).toNat) (x3_2 : Int).toNat x0_2 wr (by have := c26L.out; omega) HO_0.out
  generalize hw30 : wr.setCells g0_ ((x3_2 : Int).toNat * 3) (zeroL (x0_2.length - (x3_2 : Int).toNat)) = w30 at hcl hR2 hG2
  clear hw30
  replace HK := Aside0.mk (Kept.of_grown (S := (fun k_ => P0_ k_)) hG2 HK.out (fun k_ e_ => (HO_0.out.1 k_ e_)))
  replace HB := Aside0.mk (pw_below_grown HB.out _ HB.out.size hG2 (fun k_ e_ => by cases e_; exact gb30))
  replace HO_0 := Aside0.mk hR2
  clear hR2 hG2
  have q29 : (x3_2 : Int) ≤ ((x0_2.length : Int) : Int) := of_decide_eq_true (by first | (with_reducible assumption) | assumption)
  obtain ⟨i029, hi029, _, hsz29, _⟩ := info_parts info48
  have hcut29 := cut_to (P := Try.prog) 27 48 .i64 Try.underlying27 hi029 (some ⟨g0_, 0, none⟩) x0_2.length co4 x3_2 (of_decide_eq_true (by first | (with_reducible assumption) | assumption)) q29 (Kd.R_reads' HO_0.out).2.1
  have hr29 := Kd.R_take (m := (x3_2 : Int).toNat) HO_0.out (by simp; omega)
  rw [List.take_left' (by simp; omega)] at hr29
  have hy29 : y559.length = (x3_2 : Int).toNat := (by rw [Ny559.out, List.length_take]; omega)
  rw [← Ny559.out] at hr29
  rw [← hy29] at hr29 hcut29
  clear hy29 hi029 hsz29 HO_0
  have HO561 := Aside0.mk hr29
  clear hr29
  replace q29 := eq_true q29
  go_wp2
  repeat (go_quiet (fail); try go_wp2)
  go_ret
  exact ⟨_, by first | rfl | (simp [errW_none, errW_some] <;> rfl) | (simp only [← hji7]; first | rfl | (simp [errW_none, errW_some] <;> rfl)) | (simp [*, errW_none, errW_some] <;> rfl), by exact kr_ HO561.out, bl_, by repeat (first | (with_reducible first | exact HK.out | apply Kept.alloc | apply Kept.drewN | apply Kept.drew) | exact HK.out)⟩
 rw [if_pos c14] at H
 have c14b0 : decide (x5_2 < (y547.length : Int)) = true := decide_eq_true c14
 clear c14
 by_cases c15 : 0 ≤ x5_2
 rotate_left
 ·rw [if_neg c15] at H
  exact absurd H (by simp)
 rw [if_pos c15] at H
 have c15b0 : decide (0 ≤ x5_2) = true := decide_eq_true c15
 clear c15
 obtain ⟨ji16, hji16⟩ : ∃ j_ : Int, (wrap64 (x5_2 - 1)) = j_ := ⟨_, rfl⟩
 replace H : (if 0 ≤ (ji16) then (if (ji16) < (y547.length : Int) then (if (!((((rd_T48 yn x5_2).f0).toList) == (((rd_T48 yn (ji16)).f0).toList)) || (!(((rd_T48 yn x5_2).f1) == ((rd_T48 yn (ji16)).f1)) || (!(((rd_T48 yn x5_2).f2) == ((rd_T48 yn (ji16)).f2))))) = true then (if 0 ≤ x3_2 then (if x3_2 < (x0_2.length : Int) then (impl_Add_60.l1 k2 (x0_2.set (x3_2 : Int).toNat (⟨(rd_T48 yn x5_2).f0, (rd_T48 yn x5_2).f1, (rd_T48 yn x5_2).f2⟩ : S48)) (wrap64 (x3_2 + 1)) x3_1 (wrap64 (x5_2 + 1))) else (none)) else (none)) else (impl_Add_60.l1 k2 x0_2 x3_2 x3_1 (wrap64 (x5_2 + 1)))) else (none)) else (none)) = some r := by first | (rw [hji16] at H; exact H) | (simp only [hji16] at H ⊢; exact H)
 have hji16w : (IntKind.i64.wrap (x5_2 - 1)) = ji16 := (i64_w _).trans hji16
 by_cases c17 : 0 ≤ (ji16)
 rotate_left
 ·rw [if_neg c17] at H
  exact absurd H (by simp)
 rw [if_pos c17] at H
 have c17b0 : decide (0 ≤ (ji16)) = true := decide_eq_true c17
 clear c17
 by_cases c18 : (ji16) < (y547.length : Int)
 rotate_left
 ·rw [if_neg c18] at H
  exact absurd H (by simp)
 rw [if_pos c18] at H
 have c18b0 : decide ((ji16) < (y547.length : Int)) = true := decide_eq_true c18
 clear c18
 by_cases c19 : (!((((rd_T48 yn x5_2).f0).toList) == (((rd_T48 yn (ji16)).f0).toList)) || (!(((rd_T48 yn x5_2).f1) == ((rd_T48 yn (ji16)).f1)) || (!(((rd_T48 yn x5_2).f2) == ((rd_T48 yn (ji16)).f2))))) = true
 rotate_left
 ·rw [if_neg c19] at H
  have c19b0 : (!((((rd_T48 yn x5_2).f0).toList) == (((rd_T48 yn (ji16)).f0).toList)) || (!(((rd_T48 yn x5_2).f1) == ((rd_T48 yn (ji16)).f1)) || (!(((rd_T48 yn x5_2).f2) == ((rd_T48 yn (ji16)).f2))))) = false := by simpa using c19
  clear c19
  have H' := Aside0.mk H
  clear H
  have p551 : 0 ≤ (x5_2 : Int) := of_decide_eq_true (by first | (with_reducible assumption) | assumption)
  have q551 : x5_2 < (y547.length : Int) := of_decide_eq_true (by first | (with_reducible assumption) | assumption)
  obtain ⟨ad551, e551, hx551_0, hx551_1, hx551_2⟩ := at_T48 HRb.out x5_2 p551 q551
  cases e551
  (try simp only [add_plain] at hx551_0)
  (try simp only [add_plain] at hx551_1)
  (try simp only [add_plain] at hx551_2)
  replace p551 := eq_true p551
  replace q551 := eq_true q551
  have p552 : 0 ≤ ((ji16) : Int) := of_decide_eq_true (by first | (with_reducible assumption) | assumption)
  have q552 : (ji16) < (y547.length : Int) := of_decide_eq_true (by first | (with_reducible assumption) | assumption)
  obtain ⟨ad552, e552, hx552_0, hx552_1, hx552_2⟩ := at_T48 HRb.out (ji16) p552 q552
  obtain rfl : ad551 = ad552 := (by injection e552)
  replace p552 := eq_true p552
  replace q552 := eq_true q552
  go_wp2
  repeat (go_quiet (fail); try go_wp2)
  (try simp only [← hl0_2])
  go_roundg k2
  case measure => have := HK1.out; have := HK2.out; omega
  case rel => exact ⟨(x0_2), (x3_2), (wrap64 (x5_2 + 1)), (by first | rfl | (simp; done) | (simp [*]; done)), (by first | rfl | (simp; done) | (simp [*]; done)), H', ⟨by have := HK1.out; have := HK2.out; omega⟩, ⟨by (try simp only [hl0_1]); (try simp only [hl0_2]); exact kr_ HO_0.out⟩, ⟨by repeat (first | (with_reducible first | exact HK.out | apply Kept.alloc | apply Kept.drewN | apply Kept.drew) | exact HK.out)⟩, ⟨bl_⟩⟩
 rw [if_pos c19] at H
 have c19b0 : (!((((rd_T48 yn x5_2).f0).toList) == (((rd_T48 yn (ji16)).f0).toList)) || (!(((rd_T48 yn x5_2).f1) == ((rd_T48 yn (ji16)).f1)) || (!(((rd_T48 yn x5_2).f2) == ((rd_T48 yn (ji16)).f2))))) = true := c19
 clear c19
 by_cases c20 : 0 ≤ x3_2
 rotate_left
 ·rw [if_neg c20] at H
  exact absurd H (by simp)
 rw [if_pos c20] at H
 have c20b0 : decide (0 ≤ x3_2) = true := decide_eq_true c20
 clear c20
 by_cases c21 : x3_2 < (x0_2.length : Int)
 rotate_left
 ·rw [if_neg c21] at H
  exact absurd H (by simp)
 rw [if_pos c21] at H
 have c21b0 : decide (x3_2 < (x0_2.length : Int)) = true := decide_eq_true c21
 clear c21
 obtain ⟨y554, hy554⟩ : ∃ y_ : List (S48), y_ = (x0_2.set (x3_2 : Int).toNat (⟨(rd_T48 yn x5_2).f0, (rd_T48 yn x5_2).f1, (rd_T48 yn x5_2).f2⟩ : S48)) := ⟨_, rfl⟩
 replace H : (impl_Add_60.l1 k2 y554 (wrap64 (x3_2 + 1)) x3_1 (wrap64 (x5_2 + 1))) = some r := by first | (rw [hy554]; with_reducible exact H) | (have H2_ := (Option.bind_some _ _).symm.trans H; rw [hy554]; with_reducible exact H2_) | (have H2_ := (Option.bind_some _ _).symm.trans H; with_reducible exact H2_) | with_reducible exact H | (rw [hy554]; exact H) | exact H
 have Ny554 := Aside0.mk hy554
 clear hy554
 have H' := Aside0.mk H
 clear H
 have p551 : 0 ≤ (x5_2 : Int) := of_decide_eq_true (by first | (with_reducible assumption) | assumption)
 have q551 : x5_2 < (y547.length : Int) := of_decide_eq_true (by first | (with_reducible assumption) | assumption)
 obtain ⟨ad551, e551, hx551_0, hx551_1, hx551_2⟩ := at_T48 HRb.out x5_2 p551 q551
 cases e551
 (try simp only [add_plain] at hx551_0)
 (try simp only [add_plain] at hx551_1)
 (try simp only [add_plain] at hx551_2)
 replace p551 := eq_true p551
 replace q551 := eq_true q551
 have p552 : 0 ≤ ((ji16) : Int) := of_decide_eq_true (by first | (with_reducible assumption) | assumption)
 have q552 : (ji16) < (y547.length : Int) := of_decide_eq_true (by first | (with_reducible assumption) | assumption)
 obtain ⟨ad552, e552, hx552_0, hx552_1, hx552_2⟩ := at_T48 HRb.out (ji16) p552 q552
 obtain rfl : ad551 = ad552 := (by injection e552)
 replace p552 := eq_true p552
 replace q552 := eq_true q552
 have p553 : 0 ≤ (x5_2 : Int) := of_decide_eq_true (by first | (with_reducible assumption) | assumption)
 have q553 : x5_2 < (y547.length : Int) := of_decide_eq_true (by first | (with_reducible assumption) | assumption)
 obtain ⟨ad553, e553, hx553_0, hx553_1, hx553_2⟩ := at_T48 HRb.out x5_2 p553 q553
 obtain rfl : ad551 = ad553 := (by injection e553)
 replace p553 := eq_true p553
 replace q553 := eq_true q553
 have p22 : 0 ≤ (x3_2 : Int) := of_decide_eq_true (by first | (with_reducible assumption) | assumption)
 have q22 : (x3_2 : Int) < ((x0_2.length : Int) : Int) := of_decide_eq_true (by first | (with_reducible assumption) | assumption)
 obtain ⟨gb22, gl22, cl22, HG22⟩ := R_formX HO_0.out (by omega)
 have GB22 := Aside0.mk gb22
 have GG22 := Aside0.mk HG22
 clear gb22 gl22 HG22
 have HMgo22 := Aside0.mk (show (P0_ g0_ ∨ w.heap.size ≤ g0_) from (HO_0.out.1 _ rfl))
 (first | simp only [add_plain] at hx545_0 | skip)
 (first | simp only [add_plain] at hx545_1 | skip)
 (first | simp only [add_plain] at hx545_2 | skip)
 (first | simp only [add_plain] at hx546_0 | skip)
 (first | simp only [add_plain] at hx546_1 | skip)
 (first | simp only [add_plain] at hx546_2 | skip)
 obtain ⟨ce22, hcl22, hM22, hcc22, hfr22⟩ := Kd.R_elem HO_0.out z48 (x3_2 : Int) p22 q22
 obtain rfl := k48_openM hM22
 have hx22_0 : wr.cell? ⟨g0_, (x3_2 : Int).toNat * 3, none⟩ = some (.string ((rd_T48 x0_2 x3_2).f0)) := hcc22 0 _ rfl
 have hx22_1 : wr.cell? ⟨g0_, (x3_2 : Int).toNat * 3 + 1, none⟩ = some (.int .i64 ((rd_T48 x0_2 x3_2).f1)) := hcc22 1 _ rfl
 have hx22_2 : wr.cell? ⟨g0_, (x3_2 : Int).toNat * 3 + 2, none⟩ = some (.int .i64 ((rd_T48 x0_2 x3_2).f2)) := hcc22 2 _ rfl
 have hf22_0 : wr.frozen? ⟨g0_, (x3_2 : Int).toNat * 3, none⟩ = false := hfr22 0
 have hf22_1 : wr.frozen? ⟨g0_, (x3_2 : Int).toNat * 3 + 1, none⟩ = false := hfr22 1
 have hf22_2 : wr.frozen? ⟨g0_, (x3_2 : Int).toNat * 3 + 2, none⟩ = false := hfr22 2
 clear hcl22 hcc22 hfr22 hM22
 replace p22 := eq_true p22
 replace q22 := eq_true q22
 have HX23 := Aside0.mk (show Kd.R k48 48 wr w0.heap.size (fun k_ => (P0_ k_ ∨ w.heap.size ≤ k_)) (.slice (some ⟨g0_, 0, none⟩) x0_2.length co4) x0_2 from (kr_ HO_0.out))
 obtain ⟨ce23, hcl23, hM23, hcc23, hfr23⟩ := Kd.R_elem HX23.out z48 (x3_2 : Int) (of_decide_eq_true (by first | (with_reducible assumption) | assumption)) (by have h_ : (x3_2 : Int) < ((x0_2.length : Int) : Int) := of_decide_eq_true (by first | (with_reducible assumption) | assumption); first | exact h_ | (have e_ := (Kd.R_reads' HO_0.out).1; omega) | simpa using h_)
 obtain rfl := k48_openM hM23
 have HP23 := Kd.R_seg HX23.out (x3_2 : Int) (of_decide_eq_true (by first | (with_reducible assumption) | assumption)) (by have h_ : (x3_2 : Int) < ((x0_2.length : Int) : Int) := of_decide_eq_true (by first | (with_reducible assumption) | assumption); first | exact h_ | (have e_ := (Kd.R_reads' HO_0.out).1; omega) | simpa using h_) (seg := [.string ((rd_T48 yn x5_2).f0), .int .i64 ((rd_T48 yn x5_2).f1), .int .i64 ((rd_T48 yn x5_2).f2)]) (j := 0) hcl23 hcc23 (show 3 ≤ 3 from by decide) (x' := (⟨(rd_T48 yn x5_2).f0, (rd_T48 yn x5_2).f1, (rd_T48 yn x5_2).f2⟩ : S48)) (k48_mkM _ _ _ (⟨(rd_T48 yn x5_2).f0, (rd_T48 yn x5_2).f1, (rd_T48 yn x5_2).f2⟩ : S48) ) (fun _ hk => hk)
 have hx23_0 := hcc23 0 _ rfl
 (try simp only [show (k48).sz = 3 from rfl, Nat.mul_one, Nat.add_zero] at hx23_0)
 have hf23_0 := hfr23 0
 (try simp only [show (k48).sz = 3 from rfl, Nat.mul_one, Nat.add_zero] at hf23_0)
 have hx23_1 := hcc23 1 _ rfl
 (try simp only [show (k48).sz = 3 from rfl, Nat.mul_one, Nat.add_zero] at hx23_1)
 have hf23_1 := hfr23 1
 (try simp only [show (k48).sz = 3 from rfl, Nat.mul_one, Nat.add_zero] at hf23_1)
 have hx23_2 := hcc23 2 _ rfl
 (try simp only [show (k48).sz = 3 from rfl, Nat.mul_one, Nat.add_zero] at hx23_2)
 have hf23_2 := hfr23 2
 (try simp only [show (k48).sz = 3 from rfl, Nat.mul_one, Nat.add_zero] at hf23_2)
 clear hcl23 hcc23 hfr23 hM23
 go_wp2_with (first | ((with_reducible refine gate_store (t := 48) (p := 51) rfl ?_); (try (rw [drewN_self wr]; generalize hq_ : World.drewN wr _ = wr; have n0_ := Aside0.mk (Kd.R_at hq_ HO_0.out); have n1_ := Aside0.mk (kept_at hq_ HK.out); have n2_ := Aside0.mk (below_at hq_ HB.out); clear hq_ HO_0 HK HB; have HO_0 := n0_; have HK := n1_; have HB := n2_; clear n0_ n1_ n2_; (try (have HX23 := Aside0.mk (show Kd.R k48 48 wr w0.heap.size (fun k_ => (P0_ k_ ∨ w.heap.size ≤ k_)) (.slice (some ⟨g0_, 0, none⟩) x0_2.length co4) x0_2 from (kr_ HO_0.out)))); (try (obtain ⟨ce23, hcl23, hM23, hcc23, hfr23⟩ := Kd.R_elem HX23.out z48 (x3_2 : Int) (of_decide_eq_true (by first | (with_reducible assumption) | assumption)) (by have h_ : (x3_2 : Int) < ((x0_2.length : Int) : Int) := of_decide_eq_true (by first | (with_reducible assumption) | assumption); first | exact h_ | (have e_ := (Kd.R_reads' HO_0.out).1; omega) | simpa using h_))); (try (obtain rfl := k48_openM hM23)); (try (have HP23 := Kd.R_seg HX23.out (x3_2 : Int) (of_decide_eq_true (by first | (with_reducible assumption) | assumption)) (by have h_ : (x3_2 : Int) < ((x0_2.length : Int) : Int) := of_decide_eq_true (by first | (with_reducible assumption) | assumption); first | exact h_ | (have e_ := (Kd.R_reads' HO_0.out).1; omega) | simpa using h_) (seg := [.string ((rd_T48 yn x5_2).f0), .int .i64 ((rd_T48 yn x5_2).f1), .int .i64 ((rd_T48 yn x5_2).f2)]) (j := 0) hcl23 hcc23 (show 3 ≤ 3 from by decide) (x' := (⟨(rd_T48 yn x5_2).f0, (rd_T48 yn x5_2).f1, (rd_T48 yn x5_2).f2⟩ : S48)) (k48_mkM _ _ _ (⟨(rd_T48 yn x5_2).f0, (rd_T48 yn x5_2).f1, (rd_T48 yn x5_2).f2⟩ : S48) ) (fun _ hk => hk))); (try (have hx23_0 := hcc23 0 _ rfl)); (try (try simp only [show (k48).sz = 3 from rfl, Nat.mul_one, Nat.add_zero] at hx23_0)); (try (have hf23_0 := hfr23 0)); (try (try simp only [show (k48).sz = 3 from rfl, Nat.mul_one, Nat.add_zero] at hf23_0)); (try (have hx23_1 := hcc23 1 _ rfl)); (try (try simp only [show (k48).sz = 3 from rfl, Nat.mul_one, Nat.add_zero] at hx23_1)); (try (have hf23_1 := hfr23 1)); (try (try simp only [show (k48).sz = 3 from rfl, Nat.mul_one, Nat.add_zero] at hf23_1)); (try (have hx23_2 := hcc23 2 _ rfl)); (try (try simp only [show (k48).sz = 3 from rfl, Nat.mul_one, Nat.add_zero] at hx23_2)); (try (have hf23_2 := hfr23 2)); (try (try simp only [show (k48).sz = 3 from rfl, Nat.mul_one, Nat.add_zero] at hf23_2)); (try (clear hcl23 hcc23 hfr23 hM23)))); refine store_event (t := 48) (p := 51) (v := ?vo_w24) (w1 := (((wr.setCell ⟨g0_, (x3_2 : Int).toNat * 3, none⟩ (.string ((rd_T48 yn x5_2).f0))).setCell ⟨g0_, (x3_2 : Int).toNat * 3 + 1, none⟩ (.int .i64 ((rd_T48 yn x5_2).f1))).setCell ⟨g0_, (x3_2 : Int).toNat * 3 + 2, none⟩ (.int .i64 ((rd_T48 yn x5_2).f2)))) ?hg ?ho ?hn ?hr ?_; (case ho => rfl); (case hg => rfl); (case hn => rfl); (case hr => first | (go_simp; done) | (go_simp; rfl)); intro w24 hw; have hg : wr.grownBy w24 (some g0_) := (by rw [hw]; exact HP23.2); have hp_ : Kd.R k48 48 w24 w0.heap.size (fun k_ => (P0_ k_ ∨ w.heap.size ≤ k_)) (.slice (some ⟨g0_, 0, none⟩) x0_2.length co4) y554 := (by rw [hw, Ny554.out]; exact HP23.1); clear HP23; have n0_ := Aside0.mk (hp_); have n1_ := Aside0.mk ((by rw [hw]; exact below_set (below_set (below_set (HB.out) GB22.out) GB22.out) GB22.out : Below w0.heap.size w0 w24)); have n2_ := Aside0.mk (Kept.of_grown (S := (fun k_ => P0_ k_)) hg (by repeat (first | (with_reducible first | exact HK.out | apply Kept.alloc | apply Kept.drewN | apply Kept.drew) | exact HK.out)) (fun k_ e_ => (HO_0.out.1 k_ e_))); clear HO_0; clear HB; clear HK; have HO_0 := n0_; have HB := n1_; have HK := n2_; clear n0_ n1_ n2_; clear hg hw hp_))
 repeat (go_quiet (first | ((with_reducible refine gate_store (t := 48) (p := 51) rfl ?_); (try (rw [drewN_self wr]; generalize hq_ : World.drewN wr _ = wr; have n0_ := Aside0.mk (Kd.R_at hq_ HO_0.out); have n1_ := Aside0.mk (kept_at hq_ HK.out); have n2_ := Aside0.mk (below_at hq_ HB.out); clear hq_ HO_0 HK HB; have HO_0 := n0_; have HK := n1_; have HB := n2_; clear n0_ n1_ n2_; (try (have HX23 := Aside0.mk (show Kd.R k48 48 wr w0.heap.size (fun k_ => (P0_ k_ ∨ w.heap.size ≤ k_)) (.slice (some ⟨g0_, 0, none⟩) x0_2.length co4) x0_2 from (kr_ HO_0.out)))); (try (obtain ⟨ce23, hcl23, hM23, hcc23, hfr23⟩ := Kd.R_elem HX23.out z48 (x3_2 : Int) (of_decide_eq_true (by first | (with_reducible assumption) | assumption)) (by have h_ : (x3_2 : Int) < ((x0_2.length : Int) : Int) := of_decide_eq_true (by first | (with_reducible assumption) | assumption); first | exact h_ | (have e_ := (Kd.R_reads' HO_0.out).1; omega) | simpa using h_))); (try (obtain rfl := k48_openM hM23)); (try (have HP23 := Kd.R_seg HX23.out (x3_2 : Int) (of_decide_eq_true (by first | (with_reducible assumption) | assumption)) (by have h_ : (x3_2 : Int) < ((x0_2.length : Int) : Int) := of_decide_eq_true (by first | (with_reducible assumption) | assumption); first | exact h_ | (have e_ := (Kd.R_reads' HO_0.out).1; omega) | simpa using h_) (seg := [.string ((rd_T48 yn x5_2).f0), .int .i64 ((rd_T48 yn x5_2).f1), .int .i64 ((rd_T48 yn x5_2).f2)]) (j := 0) hcl23 hcc23 (show 3 ≤ 3 from by decide) (x' := (⟨(rd_T48 yn x5_2).f0, (rd_T48 yn x5_2).f1, (rd_T48 yn x5_2).f2⟩ : S48)) (k48_mkM _ _ _ (⟨(rd_T48 yn x5_2).f0, (rd_T48 yn x5_2).f1, (rd_T48 yn x5_2).f2⟩ : S48) ) (fun _ hk => hk))); (try (have hx23_0 := hcc23 0 _ rfl)); (try (try simp only [show (k48).sz = 3 from rfl, Nat.mul_one, Nat.add_zero] at hx23_0)); (try (have hf23_0 := hfr23 0)); (try (try simp only [show (k48).sz = 3 from rfl, Nat.mul_one, Nat.add_zero] at hf23_0)); (try (have hx23_1 := hcc23 1 _ rfl)); (try (try simp only [show (k48).sz = 3 from rfl, Nat.mul_one, Nat.add_zero] at hx23_1)); (try (have hf23_1 := hfr23 1)); (try (try simp only [show (k48).sz = 3 from rfl, Nat.mul_one, Nat.add_zero] at hf23_1)); (try (have hx23_2 := hcc23 2 _ rfl)); (try (try simp only [show (k48).sz = 3 from rfl, Nat.mul_one, Nat.add_zero] at hx23_2)); (try (have hf23_2 := hfr23 2)); (try (try simp only [show (k48).sz = 3 from rfl, Nat.mul_one, Nat.add_zero] at hf23_2)); (try (clear hcl23 hcc23 hfr23 hM23)))); refine store_event (t := 48) (p := 51) (v := ?vo_w24) (w1 := (((wr.setCell ⟨g0_, (x3_2 : Int).toNat * 3, none⟩ (.string ((rd_T48 yn x5_2).f0))).setCell ⟨g0_, (x3_2 : Int).toNat * 3 + 1, none⟩ (.int .i64 ((rd_T48 yn x5_2).f1))).setCell ⟨g0_, (x3_2 : Int).toNat * 3 + 2, none⟩ (.int .i64 ((rd_T48 yn x5_2).f2)))) ?hg ?ho ?hn ?hr ?_; (case ho => rfl); (case hg => rfl); (case hn => rfl); (case hr => first | (go_simp; done) | (go_simp; rfl)); intro w24 hw; have hg : wr.grownBy w24 (some g0_) := (by rw [hw]; exact HP23.2); have hp_ : Kd.R k48 48 w24 w0.heap.size (fun k_ => (P0_ k_ ∨ w.heap.size ≤ k_)) (.slice (some ⟨g0_, 0, none⟩) x0_2.length co4) y554 := (by rw [hw, Ny554.out]; exact HP23.1); clear HP23; have n0_ := Aside0.mk (hp_); have n1_ := Aside0.mk ((by rw [hw]; exact below_set (below_set (below_set (HB.out) GB22.out) GB22.out) GB22.out : Below w0.heap.size w0 w24)); have n2_ := Aside0.mk (Kept.of_grown (S := (fun k_ => P0_ k_)) hg (by repeat (first | (with_reducible first | exact HK.out | apply Kept.alloc | apply Kept.drewN | apply Kept.drew) | exact HK.out)) (fun k_ e_ => (HO_0.out.1 k_ e_))); clear HO_0; clear HB; clear HK; have HO_0 := n0_; have HB := n1_; have HK := n2_; clear n0_ n1_ n2_; clear hg hw hp_)); try go_wp2_with (first | ((with_reducible refine gate_store (t := 48) (p := 51) rfl ?_); (try (rw [drewN_self wr]; generalize hq_ : World.drewN wr _ = wr; have n0_ := Aside0.mk (Kd.R_at hq_ HO_0.out); have n1_ := Aside0.mk (kept_at hq_ HK.out); have n2_ := Aside0.mk (below_at hq_ HB.out); clear hq_ HO_0 HK HB; have HO_0 := n0_; have HK := n1_; have HB := n2_; clear n0_ n1_ n2_; (try (have HX23 := Aside0.mk (show Kd.R k48 48 wr w0.heap.size (fun k_ => (P0_ k_ ∨ w.heap.size ≤ k_)) (.slice (some ⟨g0_, 0, none⟩) x0_2.length co4) x0_2 from (kr_ HO_0.out)))); (try (obtain ⟨ce23, hcl23, hM23, hcc23, hfr23⟩ := Kd.R_elem HX23.out z48 (x3_2 : Int) (of_decide_eq_true (by first | (with_reducible assumption) | assumption)) (by have h_ : (x3_2 : Int) < ((x0_2.length : Int) : Int) := of_decide_eq_true (by first | (with_reducible assumption) | assumption); first | exact h_ | (have e_ := (Kd.R_reads' HO_0.out).1; omega) | simpa using h_))); (try (obtain rfl := k48_openM hM23)); (try (have HP23 := Kd.R_seg HX23.out (x3_2 : Int) (of_decide_eq_true (by first | (with_reducible assumption) | assumption)) (by have h_ : (x3_2 : Int) < ((x0_2.length : Int) : Int) := of_decide_eq_true (by first | (with_reducible assumption) | assumption); first | exact h_ | (have e_ := (Kd.R_reads' HO_0.out).1; omega) | simpa using h_) (seg := [.string ((rd_T48 yn x5_2).f0), .int .i64 ((rd_T48 yn x5_2).f1), .int .i64 ((rd_T48 yn x5_2).f2)]) (j := 0) hcl23 hcc23 (show 3 ≤ 3 from by decide) (x' := (⟨(rd_T48 yn x5_2).f0, (rd_T48 yn x5_2).f1, (rd_T48 yn x5_2).f2⟩ : S48)) (k48_mkM _ _ _ (⟨(rd_T48 yn x5_2).f0, (rd_T48 yn x5_2).f1, (rd_T48 yn x5_2).f2⟩ : S48) ) (fun _ hk => hk))); (try (have hx23_0 := hcc23 0 _ rfl)); (try (try simp only [show (k48).sz = 3 from rfl, Nat.mul_one, Nat.add_zero] at hx23_0)); (try (have hf23_0 := hfr23 0)); (try (try simp only [show (k48).sz = 3 from rfl, Nat.mul_one, Nat.add_zero] at hf23_0)); (try (have hx23_1 := hcc23 1 _ rfl)); (try (try simp only [show (k48).sz = 3 from rfl, Nat.mul_one, Nat.add_zero] at hx23_1)); (try (have hf23_1 := hfr23 1)); (try (try simp only [show (k48).sz = 3 from rfl, Nat.mul_one, Nat.add_zero] at hf23_1)); (try (have hx23_2 := hcc23 2 _ rfl)); (try (try simp only [show (k48).sz = 3 from rfl, Nat.mul_one, Nat.add_zero] at hx23_2)); (try (have hf23_2 := hfr23 2)); (try (try simp only [show (k48).sz = 3 from rfl, Nat.mul_one, Nat.add_zero] at hf23_2)); (try (clear hcl23 hcc23 hfr23 hM23)))); refine store_event (t := 48) (p := 51) (v := ?vo_w24) (w1 := (((wr.setCell ⟨g0_, (x3_2 : Int).toNat * 3, none⟩ (.string ((rd_T48 yn x5_2).f0))).setCell ⟨g0_, (x3_2 : Int).toNat * 3 + 1, none⟩ (.int .i64 ((rd_T48 yn x5_2).f1))).setCell ⟨g0_, (x3_2 : Int).toNat * 3 + 2, none⟩ (.int .i64 ((rd_T48 yn x5_2).f2)))) ?hg ?ho ?hn ?hr ?_; (case ho => rfl); (case hg => rfl); (case hn => rfl); (case hr => first | (go_simp; done) | (go_simp; rfl)); intro w24 hw; have hg : wr.grownBy w24 (some g0_) := (by rw [hw]; exact HP23.2); have hp_ : Kd.R k48 48 w24 w0.heap.size (fun k_ => (P0_ k_ ∨ w.heap.size ≤ k_)) (.slice (some ⟨g0_, 0, none⟩) x0_2.length co4) y554 := (by rw [hw, Ny554.out]; exact HP23.1); clear HP23; have n0_ := Aside0.mk (hp_); have n1_ := Aside0.mk ((by rw [hw]; exact below_set (below_set (below_set (HB.out) GB22.out) GB22.out) GB22.out : Below w0.heap.size w0 w24)); have n2_ := Aside0.mk (Kept.of_grown (S := (fun k_ => P0_ k_)) hg (by repeat (first | (with_reducible first | exact HK.out | apply Kept.alloc | apply Kept.drewN | apply Kept.drew) | exact HK.out)) (fun k_ e_ => (HO_0.out.1 k_ e_))); clear HO_0; clear HB; clear HK; have HO_0 := n0_; have HB := n1_; have HK := n2_; clear n0_ n1_ n2_; clear hg hw hp_)))
 (try simp only [← hl0_2])
 go_roundg k2
 case measure => have := HK1.out; have := HK2.out; omega
 case rel => exact ⟨(y554), (wrap64 (x3_2 + 1)), (wrap64 (x5_2 + 1)), (by first | rfl | (simp; done) | (simp [*]; done)), (by first | rfl | (simp; done) | (simp [*]; done)), H', ⟨by have := HK1.out; have := HK2.out; omega⟩, ⟨by (try simp only [hl0_1]); (try simp only [hl0_2]); exact kr_ HO_0.out⟩, ⟨by repeat (first | (with_reducible first | exact HK.out | apply Kept.alloc | apply Kept.drewN | apply Kept.drew) | exact HK.out)⟩, ⟨bl_⟩⟩
end Go.Proofs.Ytdnapgnnliibfaa.PMB
