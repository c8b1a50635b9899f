/- What this text proves: the machine calls of these functions return what the plain functions say. Conditions: as each theorem says. Printed by a program of this session out of the translation. -/
import Derived.Test.YthbollaceiffpaaPMOx0
import Derived.Test.YthbollaceiffpaaPMOx2
import Derived.Test.YthbollaceiffpaaPMOx3
namespace Go.Proofs.Ythbollaceiffpaa.PMO
open Go.RowKit Go.Proofs.YthbollaceiffpaaW.PrintWords Go.Proofs.YthbollaceiffpaaW.PrintLast Go.Proofs.YthbollaceiffpaaW.PrintMore
attribute [local go_sem] max2_int min2_int max_two min_two max_three min_three max_four min_four   -- for this text's walks alone
set_option linter.unusedVariables false
set_option linter.unusedSimpArgs false

/-! ### spec_MinimalOf: function 41 -/
mutual
def spec_MinimalOf.l0 : Nat → List (S28) → List (S28) → List (S28) → Int → Int → Option ((List (S28)) × Bool)
 | 0, _, _, _, _, _ => none
 | k + 1, x1, x6, x17, x18, x19 => if x19 < x18 then (if 0 ≤ x19 then (if x19 < (x17.length : Int) then (spec_MinimalOf.l1 k x1 x6 x19 true x17 x18 x19 x1 (x1.length : Int) 0 ((rd_T28 x17 x19).f0)) else (none)) else (none)) else (some (x6, true))
def spec_MinimalOf.l1 : Nat → List (S28) → List (S28) → Int → Bool → List (S28) → Int → Int → List (S28) → Int → Int → List Int → Option ((List (S28)) × Bool)
 | 0, _, _, _, _, _, _, _, _, _, _, _ => none
 | k + 1, x1, x6, x7, x9, x17, x18, x19, x24, x25, x26, x160000 => if x26 < x25 then (if 0 ≤ x26 then (if x26 < (x24.length : Int) then ((spec_l8Meet.f k x160000 ((rd_T28 x24 x26).f0)).bind fun t171 => (if (t171.length : Int) = (((rd_T28 x24 x26).f0).length : Int) then ((spec_l8Same.f k x160000 ((rd_T28 x24 x26).f0)).bind fun t174 => (if t174 = true then (if x26 < x7 then ((spec_l8Same.f k x160000 ((rd_T28 x24 x26).f0)).bind fun t175 => (if t175 = true then (spec_MinimalOf.l1 k x1 x6 x7 false x17 x18 x19 x24 x25 (wrap64 (x26 + 1)) x160000) else (spec_MinimalOf.l1 k x1 x6 x7 x9 x17 x18 x19 x24 x25 (wrap64 (x26 + 1)) x160000))) else (spec_MinimalOf.l1 k x1 x6 x7 x9 x17 x18 x19 x24 x25 (wrap64 (x26 + 1)) x160000)) else (spec_MinimalOf.l1 k x1 x6 x7 false x17 x18 x19 x24 x25 (wrap64 (x26 + 1)) x160000))) else (if x26 < x7 then ((spec_l8Same.f k x160000 ((rd_T28 x24 x26).f0)).bind fun t176 => (if t176 = true then (spec_MinimalOf.l1 k x1 x6 x7 false x17 x18 x19 x24 x25 (wrap64 (x26 + 1)) x160000) else (spec_MinimalOf.l1 k x1 x6 x7 x9 x17 x18 x19 x24 x25 (wrap64 (x26 + 1)) x160000))) else (spec_MinimalOf.l1 k x1 x6 x7 x9 x17 x18 x19 x24 x25 (wrap64 (x26 + 1)) x160000)))) else (none)) else (none)) else (if x9 = true then ((some (([] : List Int) : List Int)).bind fun y160 => (if y160.length + x160000.length < 17592186044416 then (if x6.length < 5864062014805 then (spec_MinimalOf.l0 k x1 (x6 ++ [(⟨(y160 ++ x160000)⟩ : S28)]) x17 x18 (wrap64 (x19 + 1))) else (none)) else (none))) else (spec_MinimalOf.l0 k x1 x6 x17 x18 (wrap64 (x19 + 1))))
end
def spec_MinimalOf.f (k : Nat) (a0 : Int) (l1 : List (S28)) : Option ((List (S28)) × Bool) := (spec_l8Sets.f k a0 l1).bind fun t157 => (if t157 = true then (spec_MinimalOf.l0 k l1 ([] : List (S28)) l1 (l1.length : Int) 0) else (some (([] : List (S28)), false)))
theorem spec_MinimalOf.mono_l : ∀ k, (∀ y0 y1 y2 y3 y4, LeO (spec_MinimalOf.l0 k y0 y1 y2 y3 y4) (spec_MinimalOf.l0 (k + 1) y0 y1 y2 y3 y4)) ∧ (∀ y0 y1 y2 y3 y4 y5 y6 y7 y8 y9 y10, LeO (spec_MinimalOf.l1 k y0 y1 y2 y3 y4 y5 y6 y7 y8 y9 y10) (spec_MinimalOf.l1 (k + 1) y0 y1 y2 y3 y4 y5 y6 y7 y8 y9 y10))
 | 0 => ⟨fun _ _ _ _ _ r h => by simp [spec_MinimalOf.l0] at h, fun _ _ _ _ _ _ _ _ _ _ _ r h => by simp [spec_MinimalOf.l1] at h⟩
 | k + 1 => by
  obtain ⟨ih0, ih1⟩ := spec_MinimalOf.mono_l k
  refine ⟨?_, ?_⟩
  ·intro y0 y1 y2 y3 y4
   unfold spec_MinimalOf.l0
   repeat' first
   | (with_reducible exact ih0 _ _ _ _ _)
   | (with_reducible exact ih1 _ _ _ _ _ _ _ _ _ _ _)
   | (with_reducible exact spec_l8Meet.mono _ _ _)
   | (with_reducible exact spec_l8Same.mono _ _ _)
   | (with_reducible exact spec_l8Sets.mono _ _ _)
   | (with_reducible exact LeO.refl _)
   | (with_reducible exact LeO.none _)
   | (with_reducible refine LeO.ite ?_ ?_)
   | (with_reducible refine LeO.bind ?_ (fun _ => ?_))
   | exact ih0 _ _ _ _ _
   | exact ih1 _ _ _ _ _ _ _ _ _ _ _
   | exact spec_l8Meet.mono _ _ _
   | exact spec_l8Same.mono _ _ _
   | exact spec_l8Sets.mono _ _ _
   | exact LeO.none _
   | refine LeO.ite ?_ ?_
   | refine LeO.bind ?_ (fun _ => ?_)
  ·intro y0 y1 y2 y3 y4 y5 y6 y7 y8 y9 y10
   unfold spec_MinimalOf.l1
   repeat' first
   | (with_reducible exact ih0 _ _ _ _ _)
   | (with_reducible exact ih1 _ _ _ _ _ _ _ _ _ _ _)
   | (with_reducible exact spec_l8Meet.mono _ _ _)
   | (with_reducible exact spec_l8Same.mono _ _ _)
   | (with_reducible exact spec_l8Sets.mono _ _ _)
   | (with_reducible exact LeO.refl _)
   | (with_reducible exact LeO.none _)
   | (with_reducible refine LeO.ite ?_ ?_)
   | (with_reducible refine LeO.bind ?_ (fun _ => ?_))
   | exact ih0 _ _ _ _ _
   | exact ih1 _ _ _ _ _ _ _ _ _ _ _
   | exact spec_l8Meet.mono _ _ _
   | exact spec_l8Same.mono _ _ _
   | exact spec_l8Sets.mono _ _ _
   | exact LeO.none _
   | refine LeO.ite ?_ ?_
   | refine LeO.bind ?_ (fun _ => ?_)
theorem spec_MinimalOf.mono : ∀ a0 a1 k, LeO (spec_MinimalOf.f k a0 a1) (spec_MinimalOf.f (k + 1) a0 a1) := by
 intro a0 a1 k
 obtain ⟨ih0, ih1⟩ := spec_MinimalOf.mono_l k
 unfold spec_MinimalOf.f
 repeat' first
   | (with_reducible exact ih0 _ _ _ _ _)
   | (with_reducible exact ih1 _ _ _ _ _ _ _ _ _ _ _)
   | (with_reducible exact spec_l8Meet.mono _ _ _)
   | (with_reducible exact spec_l8Same.mono _ _ _)
   | (with_reducible exact spec_l8Sets.mono _ _ _)
   | (with_reducible exact LeO.refl _)
   | (with_reducible exact LeO.none _)
   | (with_reducible refine LeO.ite ?_ ?_)
   | (with_reducible refine LeO.bind ?_ (fun _ => ?_))
   | exact ih0 _ _ _ _ _
   | exact ih1 _ _ _ _ _ _ _ _ _ _ _
   | exact spec_l8Meet.mono _ _ _
   | exact spec_l8Same.mono _ _ _
   | exact spec_l8Sets.mono _ _ _
   | exact LeO.none _
   | refine LeO.ite ?_ ?_
   | refine LeO.bind ?_ (fun _ => ?_)
def spec_MinimalOf.T11 : Bool × List (List Nat × List Nat) := (true, [([], []), ([], []), ([0, 1], [0, 1]), ([2], [2]), ([3], [3]), ([], []), ([5], [5]), ([6], [6]), ([4, 7], [4, 7]), ([8, 2, 0, 1, 2, 3, 4, 5, 6, 7, 8], [8])])
def spec_MinimalOf.B11 : List Nat := [0, 0, 3, 7, 15, 0, 32, 96, 255, 511]
theorem spec_MinimalOf.tab11 : rtab .any (opsOf Try.f41 11) = spec_MinimalOf.T11 := by kernel_rfl
theorem spec_MinimalOf.bits11 : waitsOk spec_MinimalOf.T11.2 spec_MinimalOf.B11 = true := by kernel_rfl
set_option maxHeartbeats 8000000 in
set_option maxRecDepth 100000 in
theorem spec_MinimalOf.calls (k : Nat) (a0 : Int) (A1 : Option Addr) (c1 : Nat) (l1 : List (S28)) (r1 : List (S28)) (r2 : Bool) (w : World) (hr1 : Kd.C k28 w A1 l1.length l1) (hc1 : l1.length ≤ c1) (h : spec_MinimalOf.f k a0 l1 = some (r1, r2)) :
  Calls Try.prog 41 #[.int .i64 a0, .slice A1 l1.length c1] w fun e w' => ∃ v0_ : Value, e = .returned (.tuple #[v0_, .bool r2]) ∧ Kd.S k28 28 w' w.heap.size (fun _ => True) v0_ r1 ∧ Below w.heap.size w w' := by
 have hu28 := Try.underlying28
 have HR1 := Aside0.mk hr1
 have HC1 := Aside0.mk hc1
 clear hr1 hc1
 have HB := Aside0.mk (Below.refl w.heap.size w)
 have H : ((spec_l8Sets.f k a0 l1).bind fun t157 => (if t157 = true then (spec_MinimalOf.l0 k l1 ([] : List (S28)) l1 (l1.length : Int) 0) else (some (([] : List (S28)), false)))) = some (r1, r2) := h
 clear h
 replace H := Option.bind_eq_some_iff.mp H
 obtain ⟨t157, A30, H⟩ := H
 replace H : (if t157 = true then (spec_MinimalOf.l0 k l1 ([] : List (S28)) l1 (l1.length : Int) 0) else (some (([] : List (S28)), false))) = some (r1, r2) := H
 have A3 := Aside0.mk A30
 clear A30
 by_cases c4 : t157 = true
 rotate_left
 ·replace c4 := Bool.eq_false_iff.mpr c4
  subst c4
  have H1 : (some (([] : List (S28)), false)) = some (r1, r2) := by rw [if_neg (show ¬ (false = true) by decide)] at H; exact H
  clear H
  have H := H1
  clear H1
  simp only [Option.some.injEq, Prod.mk.injEq] at H
  obtain ⟨rfl, rfl⟩ := H
  go_enter Try.func41, Try.ntmps41
  go_wp2_with (first | ((with_reducible refine gate_callee (f := 62) rfl ?_); refine goesL_ (some 15) rfl rfl Try.func62 (by kernel_rfl) rfl #[.int .i64 a0, .slice A1 l1.length c1] rfl nc_ ?_; (with_reducible refine (spec_l8Sets.calls k a0 _ _ l1 false _ ?side1 ?side2 A3.out).mono ?_); (case side1 => exact kc_ HR1.out); (case side2 => exact HC1.out); rintro e w106 ⟨rfl, hb⟩; refine ⟨_, rfl, ?_⟩; replace HB := Aside0.mk (below_step bl_ hb); clear hb))
  go_ret2
  exact ⟨_, ng_, by first | exact Kd.S_nil _ _ _ _ _ | exact Kd.N_nil _ _ _ _ _ | exact Kd.V_nil _ _ _ _ _ | exact Kd.Q_nil _ _ _ _ _ | exact Kd.R_nil _ _ _ _ _, bl_⟩
 subst c4
 have H1 : (spec_MinimalOf.l0 k l1 ([] : List (S28)) l1 (l1.length : Int) 0) = some (r1, r2) := by rw [if_pos rfl] at H; exact H
 clear H
 have H := H1
 clear H1
 have H' := Aside0.mk H
 clear H
 go_enter Try.func41, Try.ntmps41
 go_wp2_with (first | ((with_reducible refine gate_callee (f := 62) rfl ?_); refine goesL_ (some 15) rfl rfl Try.func62 (by kernel_rfl) rfl #[.int .i64 a0, .slice A1 l1.length c1] rfl nc_ ?_; (with_reducible refine (spec_l8Sets.calls k a0 _ _ l1 true _ ?side1 ?side2 A3.out).mono ?_); (case side1 => exact kc_ HR1.out); (case side2 => exact HC1.out); rintro e w5 ⟨rfl, hb⟩; refine ⟨_, rfl, ?_⟩; replace HB := Aside0.mk (below_step bl_ hb); clear hb))
 go_loopg [6, 19] k (fun kq v6 v19 w' => ∃ (x6_1 : List (S28)) (x19_1 : Int), v19 = .int .i64 x19_1 ∧ Aside0 (spec_MinimalOf.l0 kq l1 x6_1 l1 (l1.length : Int) x19_1 = some (r1, r2)) ∧ Aside0 (kq ≤ k) ∧ Aside0 (Kd.S k28 28 w' w.heap.size (fun _ => True) v6 x6_1) ∧ Aside0 (Below w.heap.size w w'))
 case atStart => exact ⟨(([] : List (S28))), (0), (by first | rfl | (simp; done) | (simp [*]; done)), H', ⟨Nat.le_refl _⟩, ⟨by first | exact Kd.S_nil _ _ _ _ _ | exact Kd.N_nil _ _ _ _ _ | exact Kd.V_nil _ _ _ _ _ | exact Kd.Q_nil _ _ _ _ _ | exact Kd.R_nil _ _ _ _ _⟩, ⟨bl_⟩⟩
 clear H'
 try clear c1
 try clear p2
 try clear c4
 obtain ⟨x6_1, x19_1, rfl, HA, HK1, HO_6, HB⟩ := hrel
 cases gk with
 | zero => exact absurd HA.out (by simp [spec_MinimalOf.l0])
 | succ k1 => ?_
 have H := HA.out
 clear HA
 simp only [spec_MinimalOf.l0] at H
 by_cases c6 : x19_1 < (l1.length : Int)
 rotate_left
 ·rw [if_neg c6] at H
  have c6b0 : decide (x19_1 < (l1.length : Int)) = false := decide_eq_false c6
  clear c6
  simp only [Option.some.injEq, Prod.mk.injEq] at H
  obtain ⟨rfl, rfl⟩ := H
  go_wp2
  go_ret2
  exact ⟨_, ng_, by (with_reducible repeat (first | apply Kd.S_alloc | apply Kd.S_drewN | apply Kd.S_drew)); exact HO_6.out, bl_⟩
 rw [if_pos c6] at H
 have c6b0 : decide (x19_1 < (l1.length : Int)) = true := decide_eq_true c6
 clear c6
 by_cases c7 : 0 ≤ x19_1
 rotate_left
 ·rw [if_neg c7] at H
  exact absurd H (by simp)
 rw [if_pos c7] at H
 have c7b0 : decide (0 ≤ x19_1) = true := decide_eq_true c7
 clear c7
 by_cases c8 : x19_1 < (l1.length : Int)
 rotate_left
 ·rw [if_neg c8] at H
  exact absurd H (by simp)
 rw [if_pos c8] at H
 have c8b0 : decide (x19_1 < (l1.length : Int)) = true := decide_eq_true c8
 clear c8
 have H' := Aside0.mk H
 clear H
 have p158 : 0 ≤ (x19_1 : Int) := of_decide_eq_true (by first | (with_reducible assumption) | assumption)
 have q158 : x19_1 < (l1.length : Int) := of_decide_eq_true (by first | (with_reducible assumption) | assumption)
 obtain ⟨ad158, A158_0, c158_0, e158, hx158_0, hl158_0, hi158_0⟩ := at_T28 HR1.out x19_1 p158 q158
 cases e158
 replace hx158_0 := (HB.out.cell (World.block_lt_of_cell? w _ hx158_0)).trans hx158_0
 have HR158_0 := Aside0.mk hi158_0
 have HC158_0 := Aside0.mk hl158_0
 clear hi158_0 hl158_0
 replace p158 := eq_true p158
 replace q158 := eq_true q158
 go_wp2_with (first | ((with_reducible refine gate_dst (N := 8) rfl ?_); refine box_event rfl (N := 8) rfl (cs := #[.slice none 0 0]) (t := 28) gs_ ?_; intro gb159 hg w9 hbox hb; replace HO_6 := Aside0.mk (Kd.S_below (Kd.S_elderB (by (with_reducible repeat (first | apply Kd.S_alloc | apply Kd.S_drewN | apply Kd.S_drew)); exact HO_6.out) gb159 (Nat.le_of_eq hg.symm)) hb); have BK159 := Aside0.mk (hbox); have GW159 := Aside0.mk ((by rw [hg]; exact bz_ : w.heap.size ≤ gb159)); have GE159 := GW159; replace HB := Aside0.mk (below_step bl_ hb); clear hb hbox hg; have hcz10_0 : w9.cell? ⟨gb159, 0, none⟩ = some (.slice none 0 0) := bc_ BK159.out 0; have hfz10_0 := blk_frozen BK159.out 0))
 go_loopg [9, 26] k1 (fun kq v9 v26 w' => ∃ (x9_2 : Bool) (x26_2 : Int), v9 = .bool x9_2 ∧ v26 = .int .i64 x26_2 ∧ Aside0 (spec_MinimalOf.l1 kq l1 x6_1 x19_1 x9_2 l1 (l1.length : Int) x19_1 l1 (l1.length : Int) x26_2 ((rd_T28 l1 x19_1).f0) = some (r1, r2)) ∧ Aside0 (kq ≤ k1) ∧ Aside0 (Kd.S k28 28 w' w.heap.size (fun k_ => k_ ≠ gb159) u6 x6_1) ∧ Aside0 (w'.heap[gb159]? = some (.cells #[(.slice A158_0 ((rd_T28 l1 x19_1).f0).length c158_0)] 28 (0, 0))) ∧ Aside0 (Below w.heap.size w w'))
 case atStart => exact ⟨(true), (0), (by first | rfl | (simp; done) | (simp [*]; done)), (by first | rfl | (simp; done) | (simp [*]; done)), H', ⟨Nat.le_refl _⟩, ⟨by (with_reducible repeat (first | apply Kd.S_alloc | apply Kd.S_drewN | apply Kd.S_drew)); exact Kd.S_mono (Kd.S_far (p := ⟨gb159, 0, none⟩) (Kd.S_mono HO_6.out (fun k_ hk => (⟨hk, hk.2⟩ : _ ∧ k_ ≠ gb159))) (fun _ hk => hk.2) (.slice A158_0 ((rd_T28 l1 x19_1).f0).length c158_0)) (fun _ hk => hk.1.2)⟩, ⟨by (with_reducible repeat (first | refine blk_drewN ?_ _ | refine blk_drew ?_ | refine blk_alloc ?_ _)); refine blk_put (cs := #[.slice none 0 0]) ?_ 0 _ rfl; exact kb_ BK159.out⟩, ⟨bl_⟩⟩
 clear H'
 try clear c1
 try clear p1
 try clear q1
 try clear hx1
 try clear p2
 try clear c4
 try clear c6
 try clear c6b0
 try clear c7
 try clear c7b0
 try clear c8
 try clear c8b0
 try clear hcz10_0
 try clear hfz10_0
 try clear hx158_0
 try clear p158
 try clear p2
 try clear q158
 obtain ⟨x9_2, x26_2, rfl, rfl, HA, HK2, HO_6, BK159, HB⟩ := hrel
 cases gk with
 | zero => exact absurd HA.out (by simp [spec_MinimalOf.l1])
 | succ k2 => ?_
 have H := HA.out
 clear HA
 simp only [spec_MinimalOf.l1] at H
 by_cases c11 : x26_2 < (l1.length : Int)
 rotate_left
 ·rw [if_neg c11] at H
  have c11b0 : decide (x26_2 < (l1.length : Int)) = false := decide_eq_false c11
  clear c11
  by_cases c97 : x9_2 = true
  rotate_left
  ·replace c97 := Bool.eq_false_iff.mpr c97
   subst c97
   have H1 : (spec_MinimalOf.l0 k2 l1 x6_1 l1 (l1.length : Int) (wrap64 (x19_1 + 1))) = some (r1, r2) := by rw [if_neg (show ¬ (false = true) by decide)] at H; exact H
   clear H
   have H := H1
   clear H1
   have H' := Aside0.mk H
   clear H
   go_wp2
   go_roundg k2
   case measure => have := HK1.out; have := HK2.out; omega
   case rel => exact ⟨(x6_1), (wrap64 (x19_1 + 1)), (by first | rfl | (simp; done) | (simp [*]; done)), H', ⟨by have := HK1.out; have := HK2.out; omega⟩, ⟨by (with_reducible repeat (first | apply Kd.S_alloc | apply Kd.S_drewN | apply Kd.S_drew)); exact Kd.S_mono HO_6.out (fun _ hk => trivial)⟩, ⟨bl_⟩⟩
  subst c97
  have H1 : ((some (([] : List Int) : List Int)).bind fun y160 => (if y160.length + ((rd_T28 l1 x19_1).f0).length < 17592186044416 then (if x6_1.length < 5864062014805 then (spec_MinimalOf.l0 k2 l1 (x6_1 ++ [(⟨(y160 ++ ((rd_T28 l1 x19_1).f0))⟩ : S28)]) l1 (l1.length : Int) (wrap64 (x19_1 + 1))) else (none)) else (none))) = some (r1, r2) := by rw [if_pos rfl] at H; exact H
  clear H
  have H := H1
  clear H1
  obtain ⟨y160, hy160⟩ : ∃ y_ : List Int, y_ = (([] : List Int)) := ⟨_, rfl⟩
  replace H : (if y160.length + ((rd_T28 l1 x19_1).f0).length < 17592186044416 then (if x6_1.length < 5864062014805 then (spec_MinimalOf.l0 k2 l1 (x6_1 ++ [(⟨(y160 ++ ((rd_T28 l1 x19_1).f0))⟩ : S28)]) l1 (l1.length : Int) (wrap64 (x19_1 + 1))) else (none)) else (none)) = some (r1, r2) := by first | (rw [hy160]; with_reducible exact H) | (have H2_ := (Option.bind_some _ _).symm.trans H; rw [hy160]; with_reducible exact H2_) | (have H2_ := (Option.bind_some _ _).symm.trans H; with_reducible exact H2_) | with_reducible exact H | (rw [hy160]; exact H) | exact H
  have Ny160 := Aside0.mk hy160
  clear hy160
  by_cases c98 : y160.length + ((rd_T28 l1 x19_1).f0).length < 17592186044416
  rotate_left
  ·rw [if_neg c98] at H
   exact absurd H (by simp)
  rw [if_pos c98] at H
  have LMc98 := Aside0.mk c98
  clear c98
  obtain ⟨y163, hy163⟩ : ∃ y_ : List Int, y_ = (y160 ++ ((rd_T28 l1 x19_1).f0)) := ⟨_, rfl⟩
  replace H : (if x6_1.length < 5864062014805 then (spec_MinimalOf.l0 k2 l1 (x6_1 ++ [(⟨y163⟩ : S28)]) l1 (l1.length : Int) (wrap64 (x19_1 + 1))) else (none)) = some (r1, r2) := by first | (rw [hy163]; with_reducible exact H) | (have H2_ := (Option.bind_some _ _).symm.trans H; rw [hy163]; with_reducible exact H2_) | (have H2_ := (Option.bind_some _ _).symm.trans H; with_reducible exact H2_) | with_reducible exact H | (rw [hy163]; exact H) | exact H
  have Ny163 := Aside0.mk hy163
  clear hy163
  by_cases c99 : x6_1.length < 5864062014805
  rotate_left
  ·rw [if_neg c99] at H
   exact absurd H (by simp)
  rw [if_pos c99] at H
  have LMc99 := Aside0.mk c99
  clear c99
  obtain ⟨y166, hy166⟩ : ∃ y_ : List (S28), y_ = (x6_1 ++ [(⟨y163⟩ : S28)]) := ⟨_, rfl⟩
  replace H : (spec_MinimalOf.l0 k2 l1 y166 l1 (l1.length : Int) (wrap64 (x19_1 + 1))) = some (r1, r2) := by first | (rw [hy166]; with_reducible exact H) | (have H2_ := (Option.bind_some _ _).symm.trans H; rw [hy166]; with_reducible exact H2_) | (have H2_ := (Option.bind_some _ _).symm.trans H; with_reducible exact H2_) | with_reducible exact H | (rw [hy166]; exact H) | exact H
  have Ny166 := Aside0.mk hy166
  clear hy166
  have H' := Aside0.mk H
  clear H
  go_wp2_with (first | ((with_reducible refine gate_dst (N := 60) rfl ?_); refine Kd.R_lit (Kd.int .i64) _ 3 rfl (N := 60) rfl (xs := ([] : List Int)) (inner := []) (ok := fun _ => True) (okp := fun _ => True) gs_ ?hp (fun _ hk => hk) trivial (Below.refl _ _) (Nat.le_refl _) (by simp) ?_; (case hp => exact (Reps.none _ _)); intro v161 w100 ho101 hb hg_ hnew_; clear hg_ hnew_; (first | rw [← Ny160.out] at ho101 | (simp only [Int.reduceToNat] at ho101; rw [← Ny160.out] at ho101)); replace HO_6 := Aside0.mk (Kd.S_elder' (by (with_reducible repeat (first | apply Kd.S_alloc | apply Kd.S_drewN | apply Kd.S_drew)); exact HO_6.out) (Kd.R_base ho101) hb); have HO162 := Aside0.mk (Kd.R_lower ho101 bz_); replace BK159 := bb_ BK159 hb; replace HB := Aside0.mk (below_step bl_ hb); clear hb ho101; have hcz102_0 : w100.cell? ⟨gb159, 0, none⟩ = some (.slice A158_0 ((rd_T28 l1 x19_1).f0).length c158_0) := bc_ BK159.out 0; have hfz102_0 := blk_frozen BK159.out 0) | ((with_reducible refine gate_builtin (b := .append) (xs := #[.tmp 60, .tmp 62]) rfl ?_); at_builtin; refine Kd.R_append_rows (Kd.int .i64) (w0 := w) w.heap.size rfl (.tmp 60) (.tmp 62) 22 3 (.int .i64 0) 8 rfl Try.underlying22 info3 rfl (by decide) (by omega) v161 y160 ((rd_T28 l1 x19_1).f0) _ _ _ (fun _ => True) (fun _ => False) rfl rfl ?aO ?aR (fun _ _ h => h) (fun _ h => h.elim) ?aF ?aB ?aS ?aL ?_; (case aR => exact kc_ (Kd.C_below HR158_0.out HB.out)); (case aB => exact bl_); (case aF => exact (fun _ _ => trivial)); (case aO => exact (kr_ HO162.out)); (case aS => exact bz_); (case aL => have := LMc98.out; omega); intro v164 w103 ho hb hg hat; rw [← Ny163.out] at ho; replace HO_6 := Aside0.mk (Kd.S_after (ok := (fun k_ => k_ ≠ gb159)) (by (with_reducible repeat (first | apply Kd.S_alloc | apply Kd.S_drewN | apply Kd.S_drew)); exact HO_6.out) hg hat); replace BK159 := bgr_ BK159 hg HO162 BK159; replace HB := Aside0.mk (hb); have HO165 := Aside0.mk (ho); clear HO162 ho hb hg hat; obtain ⟨Ao104, co104, eo104⟩ := Kd.R_slice HO165.out; subst eo104) | ((with_reducible refine gate_builtin (b := .append) (xs := #[.tmp 59, .tmp 65]) rfl ?_); at_builtin; refine Kd.S_append k28 (w0 := w) w.heap.size rfl (.tmp 59) (.tmp 65) 54 28 (.agg #[(.slice none 0 0)]) 24 rfl Try.underlying54 info28 rfl (by decide) (by omega) u6 x6_1 (⟨y163⟩ : S28) [.slice Ao104 y163.length co104] (fun k_ => k_ ≠ gb159) (fun k_ => some k_ = (.slice Ao104 y163.length co104 : Value).ownBlock) rfl rfl ?aP (fun k_ hk_ => ((Kd.R_mono (ok' := fun k_ => ((fun k_ => k_ ≠ gb159)) k_ ∧ some k_ ≠ (u6 : Value).ownBlock) (Kd.R_types (Kd.R_apart' (HO165.out) (Kd.S_typed HO_6.out) (by decide)) BK159.out (by decide)) (fun k_ hk => ⟨hk.2, hk.1.2⟩))).1 k_ hk_.symm) ?aF ?aO ?aB ?aS ?aL ?_; (case aP => exact k28_mkM _ _ _ (⟨y163⟩ : S28) (Kd.R_mono (Kd.R_tight rfl (Kd.R_mono (ok' := fun k_ => ((fun k_ => k_ ≠ gb159)) k_ ∧ some k_ ≠ (u6 : Value).ownBlock) (Kd.R_types (Kd.R_apart' (HO165.out) (Kd.S_typed HO_6.out) (by decide)) BK159.out (by decide)) (fun k_ hk => ⟨hk.2, hk.1.2⟩))) (fun _ h_ => h_))); (case aB => exact bl_); (case aF => exact (fun k_ hk => Kd.freshB (kb_ BK159.out) k_ hk)); (case aO => exact (by (with_reducible repeat (first | apply Kd.S_alloc | apply Kd.S_drewN | apply Kd.S_drew)); exact Kd.S_mono HO_6.out (fun k_ hk => ⟨hk.1, fun e_ => hk.2 e_⟩))); (case aS => exact bz_); (case aL => have := LMc99.out; omega); intro v167 w105 ho hb hg hat; rw [← Ny166.out] at ho; replace BK159 := Aside0.mk (blk_grown (kb_ BK159.out) hg (Kd.S_away HO_6.out (fun _ hk => hk.1))); replace HB := Aside0.mk (hb); have HO168 := Aside0.mk (ho); clear HO_6 HO165 ho hb hg hat))
  go_roundg k2
  case measure => have := HK1.out; have := HK2.out; omega
  case rel => exact ⟨(y166), (wrap64 (x19_1 + 1)), (by first | rfl | (simp; done) | (simp [*]; done)), H', ⟨by have := HK1.out; have := HK2.out; omega⟩, ⟨by (with_reducible repeat (first | apply Kd.S_alloc | apply Kd.S_drewN | apply Kd.S_drew)); exact Kd.S_mono HO168.out (fun _ hk => trivial)⟩, ⟨bl_⟩⟩
 rw [if_pos c11] at H
 have c11b0 : decide (x26_2 < (l1.length : Int)) = true := decide_eq_true c11
 clear c11
 by_cases c12 : 0 ≤ x26_2
 rotate_left
 ·rw [if_neg c12] at H
  exact absurd H (by simp)
 rw [if_pos c12] at H
 have c12b0 : decide (0 ≤ x26_2) = true := decide_eq_true c12
 clear c12
 by_cases c13 : x26_2 < (l1.length : Int)
 rotate_left
 ·rw [if_neg c13] at H
  exact absurd H (by simp)
 rw [if_pos c13] at H
 have c13b0 : decide (x26_2 < (l1.length : Int)) = true := decide_eq_true c13
 clear c13
 replace H := Option.bind_eq_some_iff.mp H
 obtain ⟨t171, A140, H⟩ := H
 replace H : (if (t171.length : Int) = (((rd_T28 l1 x26_2).f0).length : Int) then ((spec_l8Same.f k2 ((rd_T28 l1 x19_1).f0) ((rd_T28 l1 x26_2).f0)).bind fun t174 => (if t174 = true then (if x26_2 < x19_1 then ((spec_l8Same.f k2 ((rd_T28 l1 x19_1).f0) ((rd_T28 l1 x26_2).f0)).bind fun t175 => (if t175 = true then (spec_MinimalOf.l1 k2 l1 x6_1 x19_1 false l1 (l1.length : Int) x19_1 l1 (l1.length : Int) (wrap64 (x26_2 + 1)) ((rd_T28 l1 x19_1).f0)) else (spec_MinimalOf.l1 k2 l1 x6_1 x19_1 x9_2 l1 (l1.length : Int) x19_1 l1 (l1.length : Int) (wrap64 (x26_2 + 1)) ((rd_T28 l1 x19_1).f0)))) else (spec_MinimalOf.l1 k2 l1 x6_1 x19_1 x9_2 l1 (l1.length : Int) x19_1 l1 (l1.length : Int) (wrap64 (x26_2 + 1)) ((rd_T28 l1 x19_1).f0))) else (spec_MinimalOf.l1 k2 l1 x6_1 x19_1 false l1 (l1.length : Int) x19_1 l1 (l1.length : Int) (wrap64 (x26_2 + 1)) ((rd_T28 l1 x19_1).f0)))) else (if x26_2 < x19_1 then ((spec_l8Same.f k2 ((rd_T28 l1 x19_1).f0) ((rd_T28 l1 x26_2).f0)).bind fun t176 => (if t176 = true then (spec_MinimalOf.l1 k2 l1 x6_1 x19_1 false l1 (l1.length : Int) x19_1 l1 (l1.length : Int) (wrap64 (x26_2 + 1)) ((rd_T28 l1 x19_1).f0)) else (spec_MinimalOf.l1 k2 l1 x6_1 x19_1 x9_2 l1 (l1.length : Int) x19_1 l1 (l1.length : Int) (wrap64 (x26_2 + 1)) ((rd_T28 l1 x19_1).f0)))) else (spec_MinimalOf.l1 k2 l1 x6_1 x19_1 x9_2 l1 (l1.length : Int) x19_1 l1 (l1.length : Int) (wrap64 (x26_2 + 1)) ((rd_T28 l1 x19_1).f0)))) = some (r1, r2) := H
 have A14 := Aside0.mk A140
 clear A140
 by_cases c15 : (t171.length : Int) = (((rd_T28 l1 x26_2).f0).length : Int)
 rotate_left
 ·rw [if_neg c15] at H
  have c15b0 : ((t171.length : Int) == (((rd_T28 l1 x26_2).f0).length : Int)) = false := beq_eq_false_iff_ne.mpr c15
  have c15b1 : ((t171.length : Int) != (((rd_T28 l1 x26_2).f0).length : Int)) = true := bne_iff_ne.mpr c15
  have c15b2 : (t171.length == ((rd_T28 l1 x26_2).f0).length) = false := by first | simpa using c15 | (simp at c15 ⊢; omega)
  by_cases c67 : x26_2 < x19_1
  rotate_left
  ·rw [if_neg c67] at H
   have c67b0 : decide (x26_2 < x19_1) = false := decide_eq_false c67
   clear c67
   have H' := Aside0.mk H
   clear H
   have p169 : 0 ≤ (x26_2 : Int) := of_decide_eq_true (by first | (with_reducible assumption) | assumption)
   have q169 : x26_2 < (l1.length : Int) := of_decide_eq_true (by first | (with_reducible assumption) | assumption)
   obtain ⟨ad169, A169_0, c169_0, e169, hx169_0, hl169_0, hi169_0⟩ := at_T28 HR1.out x26_2 p169 q169
   obtain rfl : ad158 = ad169 := (by injection e169)
   replace hx169_0 := (HB.out.cell (World.block_lt_of_cell? w _ hx169_0)).trans hx169_0
   have HR169_0 := Aside0.mk hi169_0
   have HC169_0 := Aside0.mk hl169_0
   clear hi169_0 hl169_0
   replace p169 := eq_true p169
   replace q169 := eq_true q169
   try go_wp2_with (first | ((with_reducible refine gate_dst (N := 11) rfl ?_); refine box_event rfl (N := 11) rfl (cs := #[.slice none 0 0]) (t := 28) gs_ ?_; intro gb170 hg w90 hbox hb; replace HO_6 := Aside0.mk (Kd.S_below (Kd.S_elderB (by (with_reducible repeat (first | apply Kd.S_alloc | apply Kd.S_drewN | apply Kd.S_drew)); exact HO_6.out) gb170 (Nat.le_of_eq hg.symm)) hb); have BK170 := Aside0.mk (hbox); have GW170 := Aside0.mk ((by rw [hg]; exact bz_ : w.heap.size ≤ gb170)); have GE170 := GW170; replace HB := Aside0.mk (below_step bl_ hb); have NB159_170 := nl_ hg BK159; have NB170_159 := nm_ hg BK159; replace BK159 := bb_ BK159 hb; clear hb hbox hg; have hnb91 := NB170_159.out; have hnc91 := NB159_170.out; have hcz92_0 : w90.cell? ⟨gb170, 0, none⟩ = some (.slice none 0 0) := bc_ BK170.out 0; have hfz92_0 := blk_frozen BK170.out 0))
   have n0_ : Aside0 (Kd.S k28 28 (w90.setCell ⟨gb170, 0, none⟩ (.slice A169_0 ((rd_T28 l1 x26_2).f0).length c169_0)) w.heap.size (fun k_ => k_ ≠ gb159 ∧ k_ ≠ gb170) u6 x6_1) := ⟨by (with_reducible repeat (first | apply Kd.S_alloc | apply Kd.S_drewN | apply Kd.S_drew)); exact Kd.S_mono (Kd.S_far (p := ⟨gb170, 0, none⟩) (Kd.S_mono HO_6.out (fun k_ hk => (⟨hk, hk.2⟩ : _ ∧ k_ ≠ gb170))) (fun _ hk => hk.2) (.slice A169_0 ((rd_T28 l1 x26_2).f0).length c169_0)) (fun _ hk => ⟨hk.1.1, hk.1.2⟩)⟩
   have n1_ : Aside0 ((w90.setCell ⟨gb170, 0, none⟩ (.slice A169_0 ((rd_T28 l1 x26_2).f0).length c169_0)).heap[gb159]? = some (.cells #[.slice A158_0 ((rd_T28 l1 x19_1).f0).length c158_0] 28 (0, 0))) := ⟨kz_⟩
   have n2_ : Aside0 ((w90.setCell ⟨gb170, 0, none⟩ (.slice A169_0 ((rd_T28 l1 x26_2).f0).length c169_0)).heap[gb170]? = some (.cells #[.slice A169_0 ((rd_T28 l1 x26_2).f0).length c169_0] 28 (0, 0))) := ⟨by (with_reducible repeat (first | refine blk_drewN ?_ _ | refine blk_drew ?_ | refine blk_alloc ?_ _)); refine blk_put (cs := #[.slice none 0 0]) ?_ 0 _ rfl; exact kb_ BK170.out⟩
   have n3_ : Aside0 (Below w.heap.size w (w90.setCell ⟨gb170, 0, none⟩ (.slice A169_0 ((rd_T28 l1 x26_2).f0).length c169_0))) := ⟨bl_⟩
   (try clear HO_6)
   (try clear BK159)
   (try clear BK170)
   (try clear HB)
   generalize (w90.setCell ⟨gb170, 0, none⟩ (.slice A169_0 ((rd_T28 l1 x26_2).f0).length c169_0)) = w93 at n0_ n1_ n2_ n3_ ⊢
   have HO_6 := n0_
   have BK159 := n1_
   have BK170 := n2_
   have HB := n3_
   clear n0_ n1_ n2_ n3_
   replace HO_6 := Aside0.mk (Kd.S_drew HO_6.out)
   replace BK159 := Aside0.mk (blk_drew BK159.out)
   replace BK170 := Aside0.mk (blk_drew BK170.out)
   replace HB := Aside0.mk (below_drew1 HB.out)
   refine start_ (n := 10) (S := fun w' => w'.cell? ⟨gb159, 0, none⟩ = some (.slice A158_0 ((rd_T28 l1 x19_1).f0).length c158_0) ∧ w'.cell? ⟨gb170, 0, none⟩ = some (.slice A169_0 ((rd_T28 l1 x26_2).f0).length c169_0)) (ds := []) #[false, false, false, false, false, false, false, false, false, false] (by kernel_rfl) rfl rfl ⟨bc_ BK159.out 0, bc_ BK170.out 0⟩ (fun hHeld => ?_); refine with_tabW spec_MinimalOf.tab11 spec_MinimalOf.bits11 (fun HT_ HW_ => ?_)
   generalize w93.drew = w94 at HO_6 BK159 BK170 HB hHeld ⊢
   first | refine pu_ 5 (some 36) (h := ?_) | refine pu_ 5 (some 36) (hy := Or.inl ⟨by rfl, by intro w'; go_simp; simp [Instr.field, hu28, Sem.run, underlying]; rfl⟩) (h := ?_)
   refine tk2_ 0 (some 31) (h := ?_)
   refine tk2_ 1 (some 32) (h := ?_)
   refine tk2_ 6 (some 37) (h := ?_)
   first | refine pu_ 7 (some 38) (h := ?_) | refine pu_ 7 (some 38) (hy := Or.inl ⟨by rfl, by intro w'; go_simp; simp [Instr.field, hu28, Sem.run, underlying]; rfl⟩) (h := ?_)
   refine on_ 2 (some 33) (h := fun K hK => ?_)
   refine goes_ Try.func58 (by kernel_rfl) rfl #[.agg #[.slice A158_0 ((rd_T28 l1 x19_1).f0).length c158_0], .agg #[.slice A169_0 ((rd_T28 l1 x26_2).f0).length c169_0]] (by rfl) rfl rfl nc_ ?_
   with_reducible refine (spec_l8Meet.calls k2 _ _ ((rd_T28 l1 x19_1).f0) _ _ ((rd_T28 l1 x26_2).f0) t171 _ ?side1 ?side2 ?side3 ?side4 A14.out).mono ?_
   (case side1 => exact kc_ (Kd.C_below HR158_0.out HB.out))
   (case side2 => exact HC158_0.out)
   (case side3 => exact kc_ (Kd.C_below HR169_0.out HB.out))
   (case side4 => exact HC169_0.out)
   rintro e w95 ⟨v172, rfl, ho0, hb⟩
   refine ⟨_, rfl, ?_⟩
   replace HO_6 := Aside0.mk (Kd.S_elder' (by (with_reducible repeat (first | apply Kd.S_alloc | apply Kd.S_drewN | apply Kd.S_drew)); exact HO_6.out) (Kd.R_base ho0) hb)
   have HO173 := Aside0.mk (Kd.R_lower ho0 bz_)
   replace BK159 := bb_ BK159 hb
   replace BK170 := bb_ BK170 hb
   replace HB := Aside0.mk (below_step bl_ hb)
   clear hb ho0
   obtain ⟨Ao96, co96, eo96⟩ := Kd.R_slice HO173.out
   (first | subst eo96 | (injection eo96 with f1_ f2_ f3_; have f4_ := f1_.symm; have f5_ := f3_.symm; clear f1_ f2_ f3_; subst f4_; subst f5_))
   refine hK.out _ _ ⟨bc_ BK159.out 0, bc_ BK170.out 0⟩ (fun hHeld => ?_)
   clear hK K
   refine norm_ nn_ ?_
   first | refine pu_ 3 (some 34) (h := ?_) | refine pu_ 3 (some 34) (hy := Or.inl ⟨by rfl, by intro w'; go_simp; simp [Instr.field, hu28, Sem.run, underlying]; rfl⟩) (h := ?_)
   first | refine pu_ 4 (some 35) (h := ?_) | refine pu_ 4 (some 35) (hy := Or.inl ⟨by rfl, by intro w'; go_simp; simp [Instr.field, hu28, Sem.run, underlying]; rfl⟩) (h := ?_)
   first | refine pu_ 8 (some 39) (h := ?_) | refine pu_ 8 (some 39) (hy := Or.inl ⟨by rfl, by intro w'; go_simp; simp [Instr.field, hu28, Sem.run, underlying]; rfl⟩) (h := ?_)
   first | refine pu_ 9 (some 12) (h := ?_) | refine pu_ 9 (some 12) (hy := Or.inl ⟨by rfl, by intro w'; go_simp; simp [Instr.field, hu28, Sem.run, underlying]; rfl⟩) (h := ?_)
   refine done_ (done_of HT_.out (by kernel_rfl)) ?_
   try go_wp2
   go_roundg k2
   case measure => have := HK1.out; have := HK2.out; omega
   case rel => exact ⟨(x9_2), (wrap64 (x26_2 + 1)), (by first | rfl | (simp; done) | (simp [*]; done)), (by first | rfl | (simp; done) | (simp [*]; done)), H', ⟨by have := HK1.out; have := HK2.out; omega⟩, ⟨by (with_reducible repeat (first | apply Kd.S_alloc | apply Kd.S_drewN | apply Kd.S_drew)); exact Kd.S_mono HO_6.out (fun _ hk => hk.1.1)⟩, ⟨by exact kb_ BK159.out⟩, ⟨bl_⟩⟩
  rw [if_pos c67] at H
  have c67b0 : decide (x26_2 < x19_1) = true := decide_eq_true c67
  clear c67
  replace H := Option.bind_eq_some_iff.mp H
  obtain ⟨t176, A680, H⟩ := H
  replace H : (if t176 = true then (spec_MinimalOf.l1 k2 l1 x6_1 x19_1 false l1 (l1.length : Int) x19_1 l1 (l1.length : Int) (wrap64 (x26_2 + 1)) ((rd_T28 l1 x19_1).f0)) else (spec_MinimalOf.l1 k2 l1 x6_1 x19_1 x9_2 l1 (l1.length : Int) x19_1 l1 (l1.length : Int) (wrap64 (x26_2 + 1)) ((rd_T28 l1 x19_1).f0))) = some (r1, r2) := H
  have A68 := Aside0.mk A680
  clear A680
  by_cases c69 : t176 = true
  ·subst c69
   have H1 : (spec_MinimalOf.l1 k2 l1 x6_1 x19_1 false l1 (l1.length : Int) x19_1 l1 (l1.length : Int) (wrap64 (x26_2 + 1)) ((rd_T28 l1 x19_1).f0)) = some (r1, r2) := by rw [if_pos rfl] at H; exact H
   clear H
   have H := H1
   clear H1
   have H' := Aside0.mk H
   clear H
   have p169 : 0 ≤ (x26_2 : Int) := of_decide_eq_true (by first | (with_reducible assumption) | assumption)
   have q169 : x26_2 < (l1.length : Int) := of_decide_eq_true (by first | (with_reducible assumption) | assumption)
   obtain ⟨ad169, A169_0, c169_0, e169, hx169_0, hl169_0, hi169_0⟩ := at_T28 HR1.out x26_2 p169 q169
   obtain rfl : ad158 = ad169 := (by injection e169)
   replace hx169_0 := (HB.out.cell (World.block_lt_of_cell? w _ hx169_0)).trans hx169_0
   have HR169_0 := Aside0.mk hi169_0
   have HC169_0 := Aside0.mk hl169_0
   clear hi169_0 hl169_0
   replace p169 := eq_true p169
   replace q169 := eq_true q169
   try go_wp2_with (first | ((with_reducible refine gate_dst (N := 11) rfl ?_); refine box_event rfl (N := 11) rfl (cs := #[.slice none 0 0]) (t := 28) gs_ ?_; intro gb170 hg w70 hbox hb; replace HO_6 := Aside0.mk (Kd.S_below (Kd.S_elderB (by (with_reducible repeat (first | apply Kd.S_alloc | apply Kd.S_drewN | apply Kd.S_drew)); exact HO_6.out) gb170 (Nat.le_of_eq hg.symm)) hb); have BK170 := Aside0.mk (hbox); have GW170 := Aside0.mk ((by rw [hg]; exact bz_ : w.heap.size ≤ gb170)); have GE170 := GW170; replace HB := Aside0.mk (below_step bl_ hb); have NB159_170 := nl_ hg BK159; have NB170_159 := nm_ hg BK159; replace BK159 := bb_ BK159 hb; clear hb hbox hg; have hnb71 := NB170_159.out; have hnc71 := NB159_170.out; have hcz72_0 : w70.cell? ⟨gb170, 0, none⟩ = some (.slice none 0 0) := bc_ BK170.out 0; have hfz72_0 := blk_frozen BK170.out 0))
   have n0_ : Aside0 (Kd.S k28 28 (w70.setCell ⟨gb170, 0, none⟩ (.slice A169_0 ((rd_T28 l1 x26_2).f0).length c169_0)) w.heap.size (fun k_ => k_ ≠ gb159 ∧ k_ ≠ gb170) u6 x6_1) := ⟨by (with_reducible repeat (first | apply Kd.S_alloc | apply Kd.S_drewN | apply Kd.S_drew)); exact Kd.S_mono (Kd.S_far (p := ⟨gb170, 0, none⟩) (Kd.S_mono HO_6.out (fun k_ hk => (⟨hk, hk.2⟩ : _ ∧ k_ ≠ gb170))) (fun _ hk => hk.2) (.slice A169_0 ((rd_T28 l1 x26_2).f0).length c169_0)) (fun _ hk => ⟨hk.1.1, hk.1.2⟩)⟩
   have n1_ : Aside0 ((w70.setCell ⟨gb170, 0, none⟩ (.slice A169_0 ((rd_T28 l1 x26_2).f0).length c169_0)).heap[gb159]? = some (.cells #[.slice A158_0 ((rd_T28 l1 x19_1).f0).length c158_0] 28 (0, 0))) := ⟨kz_⟩
   have n2_ : Aside0 ((w70.setCell ⟨gb170, 0, none⟩ (.slice A169_0 ((rd_T28 l1 x26_2).f0).length c169_0)).heap[gb170]? = some (.cells #[.slice A169_0 ((rd_T28 l1 x26_2).f0).length c169_0] 28 (0, 0))) := ⟨by (with_reducible repeat (first | refine blk_drewN ?_ _ | refine blk_drew ?_ | refine blk_alloc ?_ _)); refine blk_put (cs := #[.slice none 0 0]) ?_ 0 _ rfl; exact kb_ BK170.out⟩
   have n3_ : Aside0 (Below w.heap.size w (w70.setCell ⟨gb170, 0, none⟩ (.slice A169_0 ((rd_T28 l1 x26_2).f0).length c169_0))) := ⟨bl_⟩
   (try clear HO_6)
   (try clear BK159)
   (try clear BK170)
   (try clear HB)
   generalize (w70.setCell ⟨gb170, 0, none⟩ (.slice A169_0 ((rd_T28 l1 x26_2).f0).length c169_0)) = w73 at n0_ n1_ n2_ n3_ ⊢
   have HO_6 := n0_
   have BK159 := n1_
   have BK170 := n2_
   have HB := n3_
   clear n0_ n1_ n2_ n3_
   replace HO_6 := Aside0.mk (Kd.S_drew HO_6.out)
   replace BK159 := Aside0.mk (blk_drew BK159.out)
   replace BK170 := Aside0.mk (blk_drew BK170.out)
   replace HB := Aside0.mk (below_drew1 HB.out)
   refine start_ (n := 10) (S := fun w' => w'.cell? ⟨gb159, 0, none⟩ = some (.slice A158_0 ((rd_T28 l1 x19_1).f0).length c158_0) ∧ w'.cell? ⟨gb170, 0, none⟩ = some (.slice A169_0 ((rd_T28 l1 x26_2).f0).length c169_0)) (ds := []) #[false, false, false, false, false, false, false, false, false, false] (by kernel_rfl) rfl rfl ⟨bc_ BK159.out 0, bc_ BK170.out 0⟩ (fun hHeld => ?_); refine with_tabW spec_MinimalOf.tab11 spec_MinimalOf.bits11 (fun HT_ HW_ => ?_)
   generalize w73.drew = w74 at HO_6 BK159 BK170 HB hHeld ⊢
   first | refine pu_ 5 (some 36) (h := ?_) | refine pu_ 5 (some 36) (hy := Or.inl ⟨by rfl, by intro w'; go_simp; simp [Instr.field, hu28, Sem.run, underlying]; rfl⟩) (h := ?_)
   refine tk2_ 0 (some 31) (h := ?_)
   refine tk2_ 1 (some 32) (h := ?_)
   refine tk2_ 6 (some 37) (h := ?_)
   first | refine pu_ 7 (some 38) (h := ?_) | refine pu_ 7 (some 38) (hy := Or.inl ⟨by rfl, by intro w'; go_simp; simp [Instr.field, hu28, Sem.run, underlying]; rfl⟩) (h := ?_)
   refine on_ 2 (some 33) (h := fun K hK => ?_)
   refine goes_ Try.func58 (by kernel_rfl) rfl #[.agg #[.slice A158_0 ((rd_T28 l1 x19_1).f0).length c158_0], .agg #[.slice A169_0 ((rd_T28 l1 x26_2).f0).length c169_0]] (by rfl) rfl rfl nc_ ?_
   with_reducible refine (spec_l8Meet.calls k2 _ _ ((rd_T28 l1 x19_1).f0) _ _ ((rd_T28 l1 x26_2).f0) t171 _ ?side1 ?side2 ?side3 ?side4 A14.out).mono ?_
   (case side1 => exact kc_ (Kd.C_below HR158_0.out HB.out))
   (case side2 => exact HC158_0.out)
   (case side3 => exact kc_ (Kd.C_below HR169_0.out HB.out))
   (case side4 => exact HC169_0.out)
   rintro e w75 ⟨v172, rfl, ho0, hb⟩
   refine ⟨_, rfl, ?_⟩
   replace HO_6 := Aside0.mk (Kd.S_elder' (by (with_reducible repeat (first | apply Kd.S_alloc | apply Kd.S_drewN | apply Kd.S_drew)); exact HO_6.out) (Kd.R_base ho0) hb)
   have HO173 := Aside0.mk (Kd.R_lower ho0 bz_)
   replace BK159 := bb_ BK159 hb
   replace BK170 := bb_ BK170 hb
   replace HB := Aside0.mk (below_step bl_ hb)
   clear hb ho0
   obtain ⟨Ao76, co76, eo76⟩ := Kd.R_slice HO173.out
   (first | subst eo76 | (injection eo76 with f1_ f2_ f3_; have f4_ := f1_.symm; have f5_ := f3_.symm; clear f1_ f2_ f3_; subst f4_; subst f5_))
   refine hK.out _ _ ⟨bc_ BK159.out 0, bc_ BK170.out 0⟩ (fun hHeld => ?_)
   clear hK K
   refine norm_ nn_ ?_
   first | refine pu_ 3 (some 34) (h := ?_) | refine pu_ 3 (some 34) (hy := Or.inl ⟨by rfl, by intro w'; go_simp; simp [Instr.field, hu28, Sem.run, underlying]; rfl⟩) (h := ?_)
   first | refine pu_ 4 (some 35) (h := ?_) | refine pu_ 4 (some 35) (hy := Or.inl ⟨by rfl, by intro w'; go_simp; simp [Instr.field, hu28, Sem.run, underlying]; rfl⟩) (h := ?_)
   first | refine pu_ 8 (some 39) (h := ?_) | refine pu_ 8 (some 39) (hy := Or.inl ⟨by rfl, by intro w'; go_simp; simp [Instr.field, hu28, Sem.run, underlying]; rfl⟩) (h := ?_)
   first | refine pu_ 9 (some 12) (h := ?_) | refine pu_ 9 (some 12) (hy := Or.inl ⟨by rfl, by intro w'; go_simp; simp [Instr.field, hu28, Sem.run, underlying]; rfl⟩) (h := ?_)
   refine done_ (done_of HT_.out (by kernel_rfl)) ?_
   have hcz77_0 : w75.cell? ⟨gb159, 0, none⟩ = some (.slice A158_0 ((rd_T28 l1 x19_1).f0).length c158_0) := bc_ BK159.out 0
   have hfz77_0 := blk_frozen BK159.out 0
   have hcz78_0 : w75.cell? ⟨gb170, 0, none⟩ = some (.slice A169_0 ((rd_T28 l1 x26_2).f0).length c169_0) := bc_ BK170.out 0
   have hfz78_0 := blk_frozen BK170.out 0
   try go_wp2_with (first | (go_at_call 64; (with_reducible refine (spec_l8Same.calls k2 _ _ ((rd_T28 l1 x19_1).f0) _ _ ((rd_T28 l1 x26_2).f0) true _ ?side1 ?side2 ?side3 ?side4 A68.out).mono ?_); (case side1 => exact kc_ (Kd.C_below HR158_0.out HB.out)); (case side2 => exact HC158_0.out); (case side3 => exact kc_ (Kd.C_below HR169_0.out HB.out)); (case side4 => exact HC169_0.out); rintro e w79 ⟨rfl, hb⟩; replace HO_6 := Aside0.mk (Kd.S_below (by (with_reducible repeat (first | apply Kd.S_alloc | apply Kd.S_drewN | apply Kd.S_drew)); exact HO_6.out) hb); replace HO173 := rb_ HO173 hb; replace BK159 := bb_ BK159 hb; replace BK170 := bb_ BK170 hb; replace HB := Aside0.mk (below_step bl_ hb); clear hb))
   go_roundg k2
   case measure => have := HK1.out; have := HK2.out; omega
   case rel => exact ⟨(false), (wrap64 (x26_2 + 1)), (by first | rfl | (simp; done) | (simp [*]; done)), (by first | rfl | (simp; done) | (simp [*]; done)), H', ⟨by have := HK1.out; have := HK2.out; omega⟩, ⟨by (with_reducible repeat (first | apply Kd.S_alloc | apply Kd.S_drewN | apply Kd.S_drew)); exact Kd.S_mono HO_6.out (fun _ hk => hk.1.1)⟩, ⟨by exact kb_ BK159.out⟩, ⟨bl_⟩⟩
  replace c69 := Bool.eq_false_iff.mpr c69
  subst c69
  have H1 : (spec_MinimalOf.l1 k2 l1 x6_1 x19_1 x9_2 l1 (l1.length : Int) x19_1 l1 (l1.length : Int) (wrap64 (x26_2 + 1)) ((rd_T28 l1 x19_1).f0)) = some (r1, r2) := by rw [if_neg (show ¬ (false = true) by decide)] at H; exact H
  clear H
  have H := H1
  clear H1
  have H' := Aside0.mk H
  clear H
  have p169 : 0 ≤ (x26_2 : Int) := of_decide_eq_true (by first | (with_reducible assumption) | assumption)
  have q169 : x26_2 < (l1.length : Int) := of_decide_eq_true (by first | (with_reducible assumption) | assumption)
  obtain ⟨ad169, A169_0, c169_0, e169, hx169_0, hl169_0, hi169_0⟩ := at_T28 HR1.out x26_2 p169 q169
  obtain rfl : ad158 = ad169 := (by injection e169)
  replace hx169_0 := (HB.out.cell (World.block_lt_of_cell? w _ hx169_0)).trans hx169_0
  have HR169_0 := Aside0.mk hi169_0
  have HC169_0 := Aside0.mk hl169_0
  clear hi169_0 hl169_0
  replace p169 := eq_true p169
  replace q169 := eq_true q169
  try go_wp2_with (first | ((with_reducible refine gate_dst (N := 11) rfl ?_); refine box_event rfl (N := 11) rfl (cs := #[.slice none 0 0]) (t := 28) gs_ ?_; intro gb170 hg w80 hbox hb; replace HO_6 := Aside0.mk (Kd.S_below (Kd.S_elderB (by (with_reducible repeat (first | apply Kd.S_alloc | apply Kd.S_drewN | apply Kd.S_drew)); exact HO_6.out) gb170 (Nat.le_of_eq hg.symm)) hb); have BK170 := Aside0.mk (hbox); have GW170 := Aside0.mk ((by rw [hg]; exact bz_ : w.heap.size ≤ gb170)); have GE170 := GW170; replace HB := Aside0.mk (below_step bl_ hb); have NB159_170 := nl_ hg BK159; have NB170_159 := nm_ hg BK159; replace BK159 := bb_ BK159 hb; clear hb hbox hg; have hnb81 := NB170_159.out; have hnc81 := NB159_170.out; have hcz82_0 : w80.cell? ⟨gb170, 0, none⟩ = some (.slice none 0 0) := bc_ BK170.out 0; have hfz82_0 := blk_frozen BK170.out 0))
  have n0_ : Aside0 (Kd.S k28 28 (w80.setCell ⟨gb170, 0, none⟩ (.slice A169_0 ((rd_T28 l1 x26_2).f0).length c169_0)) w.heap.size (fun k_ => k_ ≠ gb159 ∧ k_ ≠ gb170) u6 x6_1) := ⟨by (with_reducible repeat (first | apply Kd.S_alloc | apply Kd.S_drewN | apply Kd.S_drew)); exact Kd.S_mono (Kd.S_far (p := ⟨gb170, 0, none⟩) (Kd.S_mono HO_6.out (fun k_ hk => (⟨hk, hk.2⟩ : _ ∧ k_ ≠ gb170))) (fun _ hk => hk.2) (.slice A169_0 ((rd_T28 l1 x26_2).f0).length c169_0)) (fun _ hk => ⟨hk.1.1, hk.1.2⟩)⟩
  have n1_ : Aside0 ((w80.setCell ⟨gb170, 0, none⟩ (.slice A169_0 ((rd_T28 l1 x26_2).f0).length c169_0)).heap[gb159]? = some (.cells #[.slice A158_0 ((rd_T28 l1 x19_1).f0).length c158_0] 28 (0, 0))) := ⟨kz_⟩
  have n2_ : Aside0 ((w80.setCell ⟨gb170, 0, none⟩ (.slice A169_0 ((rd_T28 l1 x26_2).f0).length c169_0)).heap[gb170]? = some (.cells #[.slice A169_0 ((rd_T28 l1 x26_2).f0).length c169_0] 28 (0, 0))) := ⟨by (with_reducible repeat (first | refine blk_drewN ?_ _ | refine blk_drew ?_ | refine blk_alloc ?_ _)); refine blk_put (cs := #[.slice none 0 0]) ?_ 0 _ rfl; exact kb_ BK170.out⟩
  have n3_ : Aside0 (Below w.heap.size w (w80.setCell ⟨gb170, 0, none⟩ (.slice A169_0 ((rd_T28 l1 x26_2).f0).length c169_0))) := ⟨bl_⟩
  (try clear HO_6)
  (try clear BK159)
  (try clear BK170)
  (try clear HB)
  generalize (w80.setCell ⟨gb170, 0, none⟩ (.slice A169_0 ((rd_T28 l1 x26_2).f0).length c169_0)) = w83 at n0_ n1_ n2_ n3_ ⊢
  have HO_6 := n0_
  have BK159 := n1_
  have BK170 := n2_
  have HB := n3_
  clear n0_ n1_ n2_ n3_
  replace HO_6 := Aside0.mk (Kd.S_drew HO_6.out)
  replace BK159 := Aside0.mk (blk_drew BK159.out)
  replace BK170 := Aside0.mk (blk_drew BK170.out)
  replace HB := Aside0.mk (below_drew1 HB.out)
  refine start_ (n := 10) (S := fun w' => w'.cell? ⟨gb159, 0, none⟩ = some (.slice A158_0 ((rd_T28 l1 x19_1).f0).length c158_0) ∧ w'.cell? ⟨gb170, 0, none⟩ = some (.slice A169_0 ((rd_T28 l1 x26_2).f0).length c169_0)) (ds := []) #[false, false, false, false, false, false, false, false, false, false] (by kernel_rfl) rfl rfl ⟨bc_ BK159.out 0, bc_ BK170.out 0⟩ (fun hHeld => ?_); refine with_tabW spec_MinimalOf.tab11 spec_MinimalOf.bits11 (fun HT_ HW_ => ?_)
  generalize w83.drew = w84 at HO_6 BK159 BK170 HB hHeld ⊢
  first | refine pu_ 5 (some 36) (h := ?_) | refine pu_ 5 (some 36) (hy := Or.inl ⟨by rfl, by intro w'; go_simp; simp [Instr.field, hu28, Sem.run, underlying]; rfl⟩) (h := ?_)
  refine tk2_ 0 (some 31) (h := ?_)
  refine tk2_ 1 (some 32) (h := ?_)
  refine tk2_ 6 (some 37) (h := ?_)
  first | refine pu_ 7 (some 38) (h := ?_) | refine pu_ 7 (some 38) (hy := Or.inl ⟨by rfl, by intro w'; go_simp; simp [Instr.field, hu28, Sem.run, underlying]; rfl⟩) (h := ?_)
  refine on_ 2 (some 33) (h := fun K hK => ?_)
  refine goes_ Try.func58 (by kernel_rfl) rfl #[.agg #[.slice A158_0 ((rd_T28 l1 x19_1).f0).length c158_0], .agg #[.slice A169_0 ((rd_T28 l1 x26_2).f0).length c169_0]] (by rfl) rfl rfl nc_ ?_
  with_reducible refine (spec_l8Meet.calls k2 _ _ ((rd_T28 l1 x19_1).f0) _ _ ((rd_T28 l1 x26_2).f0) t171 _ ?side1 ?side2 ?side3 ?side4 A14.out).mono ?_
  (case side1 => exact kc_ (Kd.C_below HR158_0.out HB.out))
  (case side2 => exact HC158_0.out)
  (case side3 => exact kc_ (Kd.C_below HR169_0.out HB.out))
  (case side4 => exact HC169_0.out)
  rintro e w85 ⟨v172, rfl, ho0, hb⟩
  refine ⟨_, rfl, ?_⟩
  replace HO_6 := Aside0.mk (Kd.S_elder' (by (with_reducible repeat (first | apply Kd.S_alloc | apply Kd.S_drewN | apply Kd.S_drew)); exact HO_6.out) (Kd.R_base ho0) hb)
  have HO173 := Aside0.mk (Kd.R_lower ho0 bz_)
  replace BK159 := bb_ BK159 hb
  replace BK170 := bb_ BK170 hb
  replace HB := Aside0.mk (below_step bl_ hb)
  clear hb ho0
  obtain ⟨Ao86, co86, eo86⟩ := Kd.R_slice HO173.out
  (first | subst eo86 | (injection eo86 with f1_ f2_ f3_; have f4_ := f1_.symm; have f5_ := f3_.symm; clear f1_ f2_ f3_; subst f4_; subst f5_))
  refine hK.out _ _ ⟨bc_ BK159.out 0, bc_ BK170.out 0⟩ (fun hHeld => ?_)
  clear hK K
  refine norm_ nn_ ?_
  first | refine pu_ 3 (some 34) (h := ?_) | refine pu_ 3 (some 34) (hy := Or.inl ⟨by rfl, by intro w'; go_simp; simp [Instr.field, hu28, Sem.run, underlying]; rfl⟩) (h := ?_)
  first | refine pu_ 4 (some 35) (h := ?_) | refine pu_ 4 (some 35) (hy := Or.inl ⟨by rfl, by intro w'; go_simp; simp [Instr.field, hu28, Sem.run, underlying]; rfl⟩) (h := ?_)
  first | refine pu_ 8 (some 39) (h := ?_) | refine pu_ 8 (some 39) (hy := Or.inl ⟨by rfl, by intro w'; go_simp; simp [Instr.field, hu28, Sem.run, underlying]; rfl⟩) (h := ?_)
  first | refine pu_ 9 (some 12) (h := ?_) | refine pu_ 9 (some 12) (hy := Or.inl ⟨by rfl, by intro w'; go_simp; simp [Instr.field, hu28, Sem.run, underlying]; rfl⟩) (h := ?_)
  refine done_ (done_of HT_.out (by kernel_rfl)) ?_
  have hcz87_0 : w85.cell? ⟨gb159, 0, none⟩ = some (.slice A158_0 ((rd_T28 l1 x19_1).f0).length c158_0) := bc_ BK159.out 0
  have hfz87_0 := blk_frozen BK159.out 0
  have hcz88_0 : w85.cell? ⟨gb170, 0, none⟩ = some (.slice A169_0 ((rd_T28 l1 x26_2).f0).length c169_0) := bc_ BK170.out 0
  have hfz88_0 := blk_frozen BK170.out 0
  try go_wp2_with (first | (go_at_call 64; (with_reducible refine (spec_l8Same.calls k2 _ _ ((rd_T28 l1 x19_1).f0) _ _ ((rd_T28 l1 x26_2).f0) false _ ?side1 ?side2 ?side3 ?side4 A68.out).mono ?_); (case side1 => exact kc_ (Kd.C_below HR158_0.out HB.out)); (case side2 => exact HC158_0.out); (case side3 => exact kc_ (Kd.C_below HR169_0.out HB.out)); (case side4 => exact HC169_0.out); rintro e w89 ⟨rfl, hb⟩; replace HO_6 := Aside0.mk (Kd.S_below (by (with_reducible repeat (first | apply Kd.S_alloc | apply Kd.S_drewN | apply Kd.S_drew)); exact HO_6.out) hb); replace HO173 := rb_ HO173 hb; replace BK159 := bb_ BK159 hb; replace BK170 := bb_ BK170 hb; replace HB := Aside0.mk (below_step bl_ hb); clear hb))
  go_roundg k2
  case measure => have := HK1.out; have := HK2.out; omega
  case rel => exact ⟨(x9_2), (wrap64 (x26_2 + 1)), (by first | rfl | (simp; done) | (simp [*]; done)), (by first | rfl | (simp; done) | (simp [*]; done)), H', ⟨by have := HK1.out; have := HK2.out; omega⟩, ⟨by (with_reducible repeat (first | apply Kd.S_alloc | apply Kd.S_drewN | apply Kd.S_drew)); exact Kd.S_mono HO_6.out (fun _ hk => hk.1.1)⟩, ⟨by exact kb_ BK159.out⟩, ⟨bl_⟩⟩
 rw [if_pos c15] at H
 have c15b0 : ((t171.length : Int) == (((rd_T28 l1 x26_2).f0).length : Int)) = true := beq_iff_eq.mpr c15
 have c15b1 : ((t171.length : Int) != (((rd_T28 l1 x26_2).f0).length : Int)) = false := bne_eq_false_iff_eq.mpr c15
 have c15b2 : (t171.length == ((rd_T28 l1 x26_2).f0).length) = true := by first | simpa using c15 | (simp at c15 ⊢; omega)
 clear c15
 replace H := Option.bind_eq_some_iff.mp H
 obtain ⟨t174, A160, H⟩ := H
 replace H : (if t174 = true then (if x26_2 < x19_1 then ((spec_l8Same.f k2 ((rd_T28 l1 x19_1).f0) ((rd_T28 l1 x26_2).f0)).bind fun t175 => (if t175 = true then (spec_MinimalOf.l1 k2 l1 x6_1 x19_1 false l1 (l1.length : Int) x19_1 l1 (l1.length : Int) (wrap64 (x26_2 + 1)) ((rd_T28 l1 x19_1).f0)) else (spec_MinimalOf.l1 k2 l1 x6_1 x19_1 x9_2 l1 (l1.length : Int) x19_1 l1 (l1.length : Int) (wrap64 (x26_2 + 1)) ((rd_T28 l1 x19_1).f0)))) else (spec_MinimalOf.l1 k2 l1 x6_1 x19_1 x9_2 l1 (l1.length : Int) x19_1 l1 (l1.length : Int) (wrap64 (x26_2 + 1)) ((rd_T28 l1 x19_1).f0))) else (spec_MinimalOf.l1 k2 l1 x6_1 x19_1 false l1 (l1.length : Int) x19_1 l1 (l1.length : Int) (wrap64 (x26_2 + 1)) ((rd_T28 l1 x19_1).f0))) = some (r1, r2) := H
 have A16 := Aside0.mk A160
 clear A160
 by_cases c17 : t174 = true
 rotate_left
 ·replace c17 := Bool.eq_false_iff.mpr c17
  subst c17
  have H1 : (spec_MinimalOf.l1 k2 l1 x6_1 x19_1 false l1 (l1.length : Int) x19_1 l1 (l1.length : Int) (wrap64 (x26_2 + 1)) ((rd_T28 l1 x19_1).f0)) = some (r1, r2) := by rw [if_neg (show ¬ (false = true) by decide)] at H; exact H
  clear H
  have H := H1
  clear H1
  have H' := Aside0.mk H
  clear H
  have p169 : 0 ≤ (x26_2 : Int) := of_decide_eq_true (by first | (with_reducible assumption) | assumption)
  have q169 : x26_2 < (l1.length : Int) := of_decide_eq_true (by first | (with_reducible assumption) | assumption)
  obtain ⟨ad169, A169_0, c169_0, e169, hx169_0, hl169_0, hi169_0⟩ := at_T28 HR1.out x26_2 p169 q169
  obtain rfl : ad158 = ad169 := (by injection e169)
  replace hx169_0 := (HB.out.cell (World.block_lt_of_cell? w _ hx169_0)).trans hx169_0
  have HR169_0 := Aside0.mk hi169_0
  have HC169_0 := Aside0.mk hl169_0
  clear hi169_0 hl169_0
  replace p169 := eq_true p169
  replace q169 := eq_true q169
  try go_wp2_with (first | ((with_reducible refine gate_dst (N := 11) rfl ?_); refine box_event rfl (N := 11) rfl (cs := #[.slice none 0 0]) (t := 28) gs_ ?_; intro gb170 hg w57 hbox hb; replace HO_6 := Aside0.mk (Kd.S_below (Kd.S_elderB (by (with_reducible repeat (first | apply Kd.S_alloc | apply Kd.S_drewN | apply Kd.S_drew)); exact HO_6.out) gb170 (Nat.le_of_eq hg.symm)) hb); have BK170 := Aside0.mk (hbox); have GW170 := Aside0.mk ((by rw [hg]; exact bz_ : w.heap.size ≤ gb170)); have GE170 := GW170; replace HB := Aside0.mk (below_step bl_ hb); have NB159_170 := nl_ hg BK159; have NB170_159 := nm_ hg BK159; replace BK159 := bb_ BK159 hb; clear hb hbox hg; have hnb58 := NB170_159.out; have hnc58 := NB159_170.out; have hcz59_0 : w57.cell? ⟨gb170, 0, none⟩ = some (.slice none 0 0) := bc_ BK170.out 0; have hfz59_0 := blk_frozen BK170.out 0))
  have n0_ : Aside0 (Kd.S k28 28 (w57.setCell ⟨gb170, 0, none⟩ (.slice A169_0 ((rd_T28 l1 x26_2).f0).length c169_0)) w.heap.size (fun k_ => k_ ≠ gb159 ∧ k_ ≠ gb170) u6 x6_1) := ⟨by (with_reducible repeat (first | apply Kd.S_alloc | apply Kd.S_drewN | apply Kd.S_drew)); exact Kd.S_mono (Kd.S_far (p := ⟨gb170, 0, none⟩) (Kd.S_mono HO_6.out (fun k_ hk => (⟨hk, hk.2⟩ : _ ∧ k_ ≠ gb170))) (fun _ hk => hk.2) (.slice A169_0 ((rd_T28 l1 x26_2).f0).length c169_0)) (fun _ hk => ⟨hk.1.1, hk.1.2⟩)⟩
  have n1_ : Aside0 ((w57.setCell ⟨gb170, 0, none⟩ (.slice A169_0 ((rd_T28 l1 x26_2).f0).length c169_0)).heap[gb159]? = some (.cells #[.slice A158_0 ((rd_T28 l1 x19_1).f0).length c158_0] 28 (0, 0))) := ⟨kz_⟩
  have n2_ : Aside0 ((w57.setCell ⟨gb170, 0, none⟩ (.slice A169_0 ((rd_T28 l1 x26_2).f0).length c169_0)).heap[gb170]? = some (.cells #[.slice A169_0 ((rd_T28 l1 x26_2).f0).length c169_0] 28 (0, 0))) := ⟨by (with_reducible repeat (first | refine blk_drewN ?_ _ | refine blk_drew ?_ | refine blk_alloc ?_ _)); refine blk_put (cs := #[.slice none 0 0]) ?_ 0 _ rfl; exact kb_ BK170.out⟩
  have n3_ : Aside0 (Below w.heap.size w (w57.setCell ⟨gb170, 0, none⟩ (.slice A169_0 ((rd_T28 l1 x26_2).f0).length c169_0))) := ⟨bl_⟩
  (try clear HO_6)
  (try clear BK159)
  (try clear BK170)
  (try clear HB)
  generalize (w57.setCell ⟨gb170, 0, none⟩ (.slice A169_0 ((rd_T28 l1 x26_2).f0).length c169_0)) = w60 at n0_ n1_ n2_ n3_ ⊢
  have HO_6 := n0_
  have BK159 := n1_
  have BK170 := n2_
  have HB := n3_
  clear n0_ n1_ n2_ n3_
  replace HO_6 := Aside0.mk (Kd.S_drew HO_6.out)
  replace BK159 := Aside0.mk (blk_drew BK159.out)
  replace BK170 := Aside0.mk (blk_drew BK170.out)
  replace HB := Aside0.mk (below_drew1 HB.out)
  refine start_ (n := 10) (S := fun w' => w'.cell? ⟨gb159, 0, none⟩ = some (.slice A158_0 ((rd_T28 l1 x19_1).f0).length c158_0) ∧ w'.cell? ⟨gb170, 0, none⟩ = some (.slice A169_0 ((rd_T28 l1 x26_2).f0).length c169_0)) (ds := []) #[false, false, false, false, false, false, false, false, false, false] (by kernel_rfl) rfl rfl ⟨bc_ BK159.out 0, bc_ BK170.out 0⟩ (fun hHeld => ?_); refine with_tabW spec_MinimalOf.tab11 spec_MinimalOf.bits11 (fun HT_ HW_ => ?_)
  generalize w60.drew = w61 at HO_6 BK159 BK170 HB hHeld ⊢
  first | refine pu_ 5 (some 36) (h := ?_) | refine pu_ 5 (some 36) (hy := Or.inl ⟨by rfl, by intro w'; go_simp; simp [Instr.field, hu28, Sem.run, underlying]; rfl⟩) (h := ?_)
  refine tk2_ 0 (some 31) (h := ?_)
  refine tk2_ 1 (some 32) (h := ?_)
  refine tk2_ 6 (some 37) (h := ?_)
  first | refine pu_ 7 (some 38) (h := ?_) | refine pu_ 7 (some 38) (hy := Or.inl ⟨by rfl, by intro w'; go_simp; simp [Instr.field, hu28, Sem.run, underlying]; rfl⟩) (h := ?_)
  refine on_ 2 (some 33) (h := fun K hK => ?_)
  refine goes_ Try.func58 (by kernel_rfl) rfl #[.agg #[.slice A158_0 ((rd_T28 l1 x19_1).f0).length c158_0], .agg #[.slice A169_0 ((rd_T28 l1 x26_2).f0).length c169_0]] (by rfl) rfl rfl nc_ ?_
  with_reducible refine (spec_l8Meet.calls k2 _ _ ((rd_T28 l1 x19_1).f0) _ _ ((rd_T28 l1 x26_2).f0) t171 _ ?side1 ?side2 ?side3 ?side4 A14.out).mono ?_
  (case side1 => exact kc_ (Kd.C_below HR158_0.out HB.out))
  (case side2 => exact HC158_0.out)
  (case side3 => exact kc_ (Kd.C_below HR169_0.out HB.out))
  (case side4 => exact HC169_0.out)
  rintro e w62 ⟨v172, rfl, ho0, hb⟩
  refine ⟨_, rfl, ?_⟩
  replace HO_6 := Aside0.mk (Kd.S_elder' (by (with_reducible repeat (first | apply Kd.S_alloc | apply Kd.S_drewN | apply Kd.S_drew)); exact HO_6.out) (Kd.R_base ho0) hb)
  have HO173 := Aside0.mk (Kd.R_lower ho0 bz_)
  replace BK159 := bb_ BK159 hb
  replace BK170 := bb_ BK170 hb
  replace HB := Aside0.mk (below_step bl_ hb)
  clear hb ho0
  obtain ⟨Ao63, co63, eo63⟩ := Kd.R_slice HO173.out
  (first | subst eo63 | (injection eo63 with f1_ f2_ f3_; have f4_ := f1_.symm; have f5_ := f3_.symm; clear f1_ f2_ f3_; subst f4_; subst f5_))
  refine hK.out _ _ ⟨bc_ BK159.out 0, bc_ BK170.out 0⟩ (fun hHeld => ?_)
  clear hK K
  refine norm_ nn_ ?_
  first | refine pu_ 3 (some 34) (h := ?_) | refine pu_ 3 (some 34) (hy := Or.inl ⟨by rfl, by intro w'; go_simp; simp [Instr.field, hu28, Sem.run, underlying]; rfl⟩) (h := ?_)
  first | refine pu_ 4 (some 35) (h := ?_) | refine pu_ 4 (some 35) (hy := Or.inl ⟨by rfl, by intro w'; go_simp; simp [Instr.field, hu28, Sem.run, underlying]; rfl⟩) (h := ?_)
  first | refine pu_ 8 (some 39) (h := ?_) | refine pu_ 8 (some 39) (hy := Or.inl ⟨by rfl, by intro w'; go_simp; simp [Instr.field, hu28, Sem.run, underlying]; rfl⟩) (h := ?_)
  first | refine pu_ 9 (some 12) (h := ?_) | refine pu_ 9 (some 12) (hy := Or.inl ⟨by rfl, by intro w'; go_simp; simp [Instr.field, hu28, Sem.run, underlying]; rfl⟩) (h := ?_)
  refine done_ (done_of HT_.out (by kernel_rfl)) ?_
  have hcz64_0 : w62.cell? ⟨gb159, 0, none⟩ = some (.slice A158_0 ((rd_T28 l1 x19_1).f0).length c158_0) := bc_ BK159.out 0
  have hfz64_0 := blk_frozen BK159.out 0
  have hcz65_0 : w62.cell? ⟨gb170, 0, none⟩ = some (.slice A169_0 ((rd_T28 l1 x26_2).f0).length c169_0) := bc_ BK170.out 0
  have hfz65_0 := blk_frozen BK170.out 0
  try go_wp2_with (first | (go_at_call 64; (with_reducible refine (spec_l8Same.calls k2 _ _ ((rd_T28 l1 x19_1).f0) _ _ ((rd_T28 l1 x26_2).f0) false _ ?side1 ?side2 ?side3 ?side4 A16.out).mono ?_); (case side1 => exact kc_ (Kd.C_below HR158_0.out HB.out)); (case side2 => exact HC158_0.out); (case side3 => exact kc_ (Kd.C_below HR169_0.out HB.out)); (case side4 => exact HC169_0.out); rintro e w66 ⟨rfl, hb⟩; replace HO_6 := Aside0.mk (Kd.S_below (by (with_reducible repeat (first | apply Kd.S_alloc | apply Kd.S_drewN | apply Kd.S_drew)); exact HO_6.out) hb); replace HO173 := rb_ HO173 hb; replace BK159 := bb_ BK159 hb; replace BK170 := bb_ BK170 hb; replace HB := Aside0.mk (below_step bl_ hb); clear hb))
  go_roundg k2
  case measure => have := HK1.out; have := HK2.out; omega
  case rel => exact ⟨(false), (wrap64 (x26_2 + 1)), (by first | rfl | (simp; done) | (simp [*]; done)), (by first | rfl | (simp; done) | (simp [*]; done)), H', ⟨by have := HK1.out; have := HK2.out; omega⟩, ⟨by (with_reducible repeat (first | apply Kd.S_alloc | apply Kd.S_drewN | apply Kd.S_drew)); exact Kd.S_mono HO_6.out (fun _ hk => hk.1.1)⟩, ⟨by exact kb_ BK159.out⟩, ⟨bl_⟩⟩
 subst c17
 have H1 : (if x26_2 < x19_1 then ((spec_l8Same.f k2 ((rd_T28 l1 x19_1).f0) ((rd_T28 l1 x26_2).f0)).bind fun t175 => (if t175 = true then (spec_MinimalOf.l1 k2 l1 x6_1 x19_1 false l1 (l1.length : Int) x19_1 l1 (l1.length : Int) (wrap64 (x26_2 + 1)) ((rd_T28 l1 x19_1).f0)) else (spec_MinimalOf.l1 k2 l1 x6_1 x19_1 x9_2 l1 (l1.length : Int) x19_1 l1 (l1.length : Int) (wrap64 (x26_2 + 1)) ((rd_T28 l1 x19_1).f0)))) else (spec_MinimalOf.l1 k2 l1 x6_1 x19_1 x9_2 l1 (l1.length : Int) x19_1 l1 (l1.length : Int) (wrap64 (x26_2 + 1)) ((rd_T28 l1 x19_1).f0))) = some (r1, r2) := by rw [if_pos rfl] at H; exact H
 clear H
 have H := H1
 clear H1
 by_cases c18 : x26_2 < x19_1
 rotate_left
 ·rw [if_neg c18] at H
  have c18b0 : decide (x26_2 < x19_1) = false := decide_eq_false c18
  clear c18
  have H' := Aside0.mk H
  clear H
  have p169 : 0 ≤ (x26_2 : Int) := of_decide_eq_true (by first | (with_reducible assumption) | assumption)
  have q169 : x26_2 < (l1.length : Int) := of_decide_eq_true (by first | (with_reducible assumption) | assumption)
  obtain ⟨ad169, A169_0, c169_0, e169, hx169_0, hl169_0, hi169_0⟩ := at_T28 HR1.out x26_2 p169 q169
  obtain rfl : ad158 = ad169 := (by injection e169)
  replace hx169_0 := (HB.out.cell (World.block_lt_of_cell? w _ hx169_0)).trans hx169_0
  have HR169_0 := Aside0.mk hi169_0
  have HC169_0 := Aside0.mk hl169_0
  clear hi169_0 hl169_0
  replace p169 := eq_true p169
  replace q169 := eq_true q169
  try go_wp2_with (first | ((with_reducible refine gate_dst (N := 11) rfl ?_); refine box_event rfl (N := 11) rfl (cs := #[.slice none 0 0]) (t := 28) gs_ ?_; intro gb170 hg w47 hbox hb; replace HO_6 := Aside0.mk (Kd.S_below (Kd.S_elderB (by (with_reducible repeat (first | apply Kd.S_alloc | apply Kd.S_drewN | apply Kd.S_drew)); exact HO_6.out) gb170 (Nat.le_of_eq hg.symm)) hb); have BK170 := Aside0.mk (hbox); have GW170 := Aside0.mk ((by rw [hg]; exact bz_ : w.heap.size ≤ gb170)); have GE170 := GW170; replace HB := Aside0.mk (below_step bl_ hb); have NB159_170 := nl_ hg BK159; have NB170_159 := nm_ hg BK159; replace BK159 := bb_ BK159 hb; clear hb hbox hg; have hnb48 := NB170_159.out; have hnc48 := NB159_170.out; have hcz49_0 : w47.cell? ⟨gb170, 0, none⟩ = some (.slice none 0 0) := bc_ BK170.out 0; have hfz49_0 := blk_frozen BK170.out 0))
  have n0_ : Aside0 (Kd.S k28 28 (w47.setCell ⟨gb170, 0, none⟩ (.slice A169_0 ((rd_T28 l1 x26_2).f0).length c169_0)) w.heap.size (fun k_ => k_ ≠ gb159 ∧ k_ ≠ gb170) u6 x6_1) := ⟨by (with_reducible repeat (first | apply Kd.S_alloc | apply Kd.S_drewN | apply Kd.S_drew)); exact Kd.S_mono (Kd.S_far (p := ⟨gb170, 0, none⟩) (Kd.S_mono HO_6.out (fun k_ hk => (⟨hk, hk.2⟩ : _ ∧ k_ ≠ gb170))) (fun _ hk => hk.2) (.slice A169_0 ((rd_T28 l1 x26_2).f0).length c169_0)) (fun _ hk => ⟨hk.1.1, hk.1.2⟩)⟩
  have n1_ : Aside0 ((w47.setCell ⟨gb170, 0, none⟩ (.slice A169_0 ((rd_T28 l1 x26_2).f0).length c169_0)).heap[gb159]? = some (.cells #[.slice A158_0 ((rd_T28 l1 x19_1).f0).length c158_0] 28 (0, 0))) := ⟨kz_⟩
  have n2_ : Aside0 ((w47.setCell ⟨gb170, 0, none⟩ (.slice A169_0 ((rd_T28 l1 x26_2).f0).length c169_0)).heap[gb170]? = some (.cells #[.slice A169_0 ((rd_T28 l1 x26_2).f0).length c169_0] 28 (0, 0))) := ⟨by (with_reducible repeat (first | refine blk_drewN ?_ _ | refine blk_drew ?_ | refine blk_alloc ?_ _)); refine blk_put (cs := #[.slice none 0 0]) ?_ 0 _ rfl; exact kb_ BK170.out⟩
  have n3_ : Aside0 (Below w.heap.size w (w47.setCell ⟨gb170, 0, none⟩ (.slice A169_0 ((rd_T28 l1 x26_2).f0).length c169_0))) := ⟨bl_⟩
  (try clear HO_6)
  (try clear BK159)
  (try clear BK170)
  (try clear HB)
  generalize (w47.setCell ⟨gb170, 0, none⟩ (.slice A169_0 ((rd_T28 l1 x26_2).f0).length c169_0)) = w50 at n0_ n1_ n2_ n3_ ⊢
  have HO_6 := n0_
  have BK159 := n1_
  have BK170 := n2_
  have HB := n3_
  clear n0_ n1_ n2_ n3_
  replace HO_6 := Aside0.mk (Kd.S_drew HO_6.out)
  replace BK159 := Aside0.mk (blk_drew BK159.out)
  replace BK170 := Aside0.mk (blk_drew BK170.out)
  replace HB := Aside0.mk (below_drew1 HB.out)
  refine start_ (n := 10) (S := fun w' => w'.cell? ⟨gb159, 0, none⟩ = some (.slice A158_0 ((rd_T28 l1 x19_1).f0).length c158_0) ∧ w'.cell? ⟨gb170, 0, none⟩ = some (.slice A169_0 ((rd_T28 l1 x26_2).f0).length c169_0)) (ds := []) #[false, false, false, false, false, false, false, false, false, false] (by kernel_rfl) rfl rfl ⟨bc_ BK159.out 0, bc_ BK170.out 0⟩ (fun hHeld => ?_); refine with_tabW spec_MinimalOf.tab11 spec_MinimalOf.bits11 (fun HT_ HW_ => ?_)
  generalize w50.drew = w51 at HO_6 BK159 BK170 HB hHeld ⊢
  first | refine pu_ 5 (some 36) (h := ?_) | refine pu_ 5 (some 36) (hy := Or.inl ⟨by rfl, by intro w'; go_simp; simp [Instr.field, hu28, Sem.run, underlying]; rfl⟩) (h := ?_)
  refine tk2_ 0 (some 31) (h := ?_)
  refine tk2_ 1 (some 32) (h := ?_)
  refine tk2_ 6 (some 37) (h := ?_)
  first | refine pu_ 7 (some 38) (h := ?_) | refine pu_ 7 (some 38) (hy := Or.inl ⟨by rfl, by intro w'; go_simp; simp [Instr.field, hu28, Sem.run, underlying]; rfl⟩) (h := ?_)
  refine on_ 2 (some 33) (h := fun K hK => ?_)
  refine goes_ Try.func58 (by kernel_rfl) rfl #[.agg #[.slice A158_0 ((rd_T28 l1 x19_1).f0).length c158_0], .agg #[.slice A169_0 ((rd_T28 l1 x26_2).f0).length c169_0]] (by rfl) rfl rfl nc_ ?_
  with_reducible refine (spec_l8Meet.calls k2 _ _ ((rd_T28 l1 x19_1).f0) _ _ ((rd_T28 l1 x26_2).f0) t171 _ ?side1 ?side2 ?side3 ?side4 A14.out).mono ?_
  (case side1 => exact kc_ (Kd.C_below HR158_0.out HB.out))
  (case side2 => exact HC158_0.out)
  (case side3 => exact kc_ (Kd.C_below HR169_0.out HB.out))
  (case side4 => exact HC169_0.out)
  rintro e w52 ⟨v172, rfl, ho0, hb⟩
  refine ⟨_, rfl, ?_⟩
  replace HO_6 := Aside0.mk (Kd.S_elder' (by (with_reducible repeat (first | apply Kd.S_alloc | apply Kd.S_drewN | apply Kd.S_drew)); exact HO_6.out) (Kd.R_base ho0) hb)
  have HO173 := Aside0.mk (Kd.R_lower ho0 bz_)
  replace BK159 := bb_ BK159 hb
  replace BK170 := bb_ BK170 hb
  replace HB := Aside0.mk (below_step bl_ hb)
  clear hb ho0
  obtain ⟨Ao53, co53, eo53⟩ := Kd.R_slice HO173.out
  (first | subst eo53 | (injection eo53 with f1_ f2_ f3_; have f4_ := f1_.symm; have f5_ := f3_.symm; clear f1_ f2_ f3_; subst f4_; subst f5_))
  refine hK.out _ _ ⟨bc_ BK159.out 0, bc_ BK170.out 0⟩ (fun hHeld => ?_)
  clear hK K
  refine norm_ nn_ ?_
  first | refine pu_ 3 (some 34) (h := ?_) | refine pu_ 3 (some 34) (hy := Or.inl ⟨by rfl, by intro w'; go_simp; simp [Instr.field, hu28, Sem.run, underlying]; rfl⟩) (h := ?_)
  first | refine pu_ 4 (some 35) (h := ?_) | refine pu_ 4 (some 35) (hy := Or.inl ⟨by rfl, by intro w'; go_simp; simp [Instr.field, hu28, Sem.run, underlying]; rfl⟩) (h := ?_)
  first | refine pu_ 8 (some 39) (h := ?_) | refine pu_ 8 (some 39) (hy := Or.inl ⟨by rfl, by intro w'; go_simp; simp [Instr.field, hu28, Sem.run, underlying]; rfl⟩) (h := ?_)
  first | refine pu_ 9 (some 12) (h := ?_) | refine pu_ 9 (some 12) (hy := Or.inl ⟨by rfl, by intro w'; go_simp; simp [Instr.field, hu28, Sem.run, underlying]; rfl⟩) (h := ?_)
  refine done_ (done_of HT_.out (by kernel_rfl)) ?_
  have hcz54_0 : w52.cell? ⟨gb159, 0, none⟩ = some (.slice A158_0 ((rd_T28 l1 x19_1).f0).length c158_0) := bc_ BK159.out 0
  have hfz54_0 := blk_frozen BK159.out 0
  have hcz55_0 : w52.cell? ⟨gb170, 0, none⟩ = some (.slice A169_0 ((rd_T28 l1 x26_2).f0).length c169_0) := bc_ BK170.out 0
  have hfz55_0 := blk_frozen BK170.out 0
  try go_wp2_with (first | (go_at_call 64; (with_reducible refine (spec_l8Same.calls k2 _ _ ((rd_T28 l1 x19_1).f0) _ _ ((rd_T28 l1 x26_2).f0) true _ ?side1 ?side2 ?side3 ?side4 A16.out).mono ?_); (case side1 => exact kc_ (Kd.C_below HR158_0.out HB.out)); (case side2 => exact HC158_0.out); (case side3 => exact kc_ (Kd.C_below HR169_0.out HB.out)); (case side4 => exact HC169_0.out); rintro e w56 ⟨rfl, hb⟩; replace HO_6 := Aside0.mk (Kd.S_below (by (with_reducible repeat (first | apply Kd.S_alloc | apply Kd.S_drewN | apply Kd.S_drew)); exact HO_6.out) hb); replace HO173 := rb_ HO173 hb; replace BK159 := bb_ BK159 hb; replace BK170 := bb_ BK170 hb; replace HB := Aside0.mk (below_step bl_ hb); clear hb))
  go_roundg k2
  case measure => have := HK1.out; have := HK2.out; omega
  case rel => exact ⟨(x9_2), (wrap64 (x26_2 + 1)), (by first | rfl | (simp; done) | (simp [*]; done)), (by first | rfl | (simp; done) | (simp [*]; done)), H', ⟨by have := HK1.out; have := HK2.out; omega⟩, ⟨by (with_reducible repeat (first | apply Kd.S_alloc | apply Kd.S_drewN | apply Kd.S_drew)); exact Kd.S_mono HO_6.out (fun _ hk => hk.1.1)⟩, ⟨by exact kb_ BK159.out⟩, ⟨bl_⟩⟩
 rw [if_pos c18] at H
 have c18b0 : decide (x26_2 < x19_1) = true := decide_eq_true c18
 clear c18
 replace H := Option.bind_eq_some_iff.mp H
 obtain ⟨t175, A190, H⟩ := H
 replace H : (if t175 = true then (spec_MinimalOf.l1 k2 l1 x6_1 x19_1 false l1 (l1.length : Int) x19_1 l1 (l1.length : Int) (wrap64 (x26_2 + 1)) ((rd_T28 l1 x19_1).f0)) else (spec_MinimalOf.l1 k2 l1 x6_1 x19_1 x9_2 l1 (l1.length : Int) x19_1 l1 (l1.length : Int) (wrap64 (x26_2 + 1)) ((rd_T28 l1 x19_1).f0))) = some (r1, r2) := H
 have A19 := Aside0.mk A190
 clear A190
 by_cases c20 : t175 = true
 ·subst c20
  have H1 : (spec_MinimalOf.l1 k2 l1 x6_1 x19_1 false l1 (l1.length : Int) x19_1 l1 (l1.length : Int) (wrap64 (x26_2 + 1)) ((rd_T28 l1 x19_1).f0)) = some (r1, r2) := by rw [if_pos rfl] at H; exact H
  clear H
  have H := H1
  clear H1
  have H' := Aside0.mk H
  clear H
  have p169 : 0 ≤ (x26_2 : Int) := of_decide_eq_true (by first | (with_reducible assumption) | assumption)
  have q169 : x26_2 < (l1.length : Int) := of_decide_eq_true (by first | (with_reducible assumption) | assumption)
  obtain ⟨ad169, A169_0, c169_0, e169, hx169_0, hl169_0, hi169_0⟩ := at_T28 HR1.out x26_2 p169 q169
  obtain rfl : ad158 = ad169 := (by injection e169)
  replace hx169_0 := (HB.out.cell (World.block_lt_of_cell? w _ hx169_0)).trans hx169_0
  have HR169_0 := Aside0.mk hi169_0
  have HC169_0 := Aside0.mk hl169_0
  clear hi169_0 hl169_0
  replace p169 := eq_true p169
  replace q169 := eq_true q169
  try go_wp2_with (first | ((with_reducible refine gate_dst (N := 11) rfl ?_); refine box_event rfl (N := 11) rfl (cs := #[.slice none 0 0]) (t := 28) gs_ ?_; intro gb170 hg w21 hbox hb; replace HO_6 := Aside0.mk (Kd.S_below (Kd.S_elderB (by (with_reducible repeat (first | apply Kd.S_alloc | apply Kd.S_drewN | apply Kd.S_drew)); exact HO_6.out) gb170 (Nat.le_of_eq hg.symm)) hb); have BK170 := Aside0.mk (hbox); have GW170 := Aside0.mk ((by rw [hg]; exact bz_ : w.heap.size ≤ gb170)); have GE170 := GW170; replace HB := Aside0.mk (below_step bl_ hb); have NB159_170 := nl_ hg BK159; have NB170_159 := nm_ hg BK159; replace BK159 := bb_ BK159 hb; clear hb hbox hg; have hnb22 := NB170_159.out; have hnc22 := NB159_170.out; have hcz23_0 : w21.cell? ⟨gb170, 0, none⟩ = some (.slice none 0 0) := bc_ BK170.out 0; have hfz23_0 := blk_frozen BK170.out 0))
  have n0_ : Aside0 (Kd.S k28 28 (w21.setCell ⟨gb170, 0, none⟩ (.slice A169_0 ((rd_T28 l1 x26_2).f0).length c169_0)) w.heap.size (fun k_ => k_ ≠ gb159 ∧ k_ ≠ gb170) u6 x6_1) := ⟨by (with_reducible repeat (first | apply Kd.S_alloc | apply Kd.S_drewN | apply Kd.S_drew)); exact Kd.S_mono (Kd.S_far (p := ⟨gb170, 0, none⟩) (Kd.S_mono HO_6.out (fun k_ hk => (⟨hk, hk.2⟩ : _ ∧ k_ ≠ gb170))) (fun _ hk => hk.2) (.slice A169_0 ((rd_T28 l1 x26_2).f0).length c169_0)) (fun _ hk => ⟨hk.1.1, hk.1.2⟩)⟩
  have n1_ : Aside0 ((w21.setCell ⟨gb170, 0, none⟩ (.slice A169_0 ((rd_T28 l1 x26_2).f0).length c169_0)).heap[gb159]? = some (.cells #[.slice A158_0 ((rd_T28 l1 x19_1).f0).length c158_0] 28 (0, 0))) := ⟨kz_⟩
  have n2_ : Aside0 ((w21.setCell ⟨gb170, 0, none⟩ (.slice A169_0 ((rd_T28 l1 x26_2).f0).length c169_0)).heap[gb170]? = some (.cells #[.slice A169_0 ((rd_T28 l1 x26_2).f0).length c169_0] 28 (0, 0))) := ⟨by (with_reducible repeat (first | refine blk_drewN ?_ _ | refine blk_drew ?_ | refine blk_alloc ?_ _)); refine blk_put (cs := #[.slice none 0 0]) ?_ 0 _ rfl; exact kb_ BK170.out⟩
  have n3_ : Aside0 (Below w.heap.size w (w21.setCell ⟨gb170, 0, none⟩ (.slice A169_0 ((rd_T28 l1 x26_2).f0).length c169_0))) := ⟨bl_⟩
  (try clear HO_6)
  (try clear BK159)
  (try clear BK170)
  (try clear HB)
  generalize (w21.setCell ⟨gb170, 0, none⟩ (.slice A169_0 ((rd_T28 l1 x26_2).f0).length c169_0)) = w24 at n0_ n1_ n2_ n3_ ⊢
  have HO_6 := n0_
  have BK159 := n1_
  have BK170 := n2_
  have HB := n3_
  clear n0_ n1_ n2_ n3_
  replace HO_6 := Aside0.mk (Kd.S_drew HO_6.out)
  replace BK159 := Aside0.mk (blk_drew BK159.out)
  replace BK170 := Aside0.mk (blk_drew BK170.out)
  replace HB := Aside0.mk (below_drew1 HB.out)
  refine start_ (n := 10) (S := fun w' => w'.cell? ⟨gb159, 0, none⟩ = some (.slice A158_0 ((rd_T28 l1 x19_1).f0).length c158_0) ∧ w'.cell? ⟨gb170, 0, none⟩ = some (.slice A169_0 ((rd_T28 l1 x26_2).f0).length c169_0)) (ds := []) #[false, false, false, false, false, false, false, false, false, false] (by kernel_rfl) rfl rfl ⟨bc_ BK159.out 0, bc_ BK170.out 0⟩ (fun hHeld => ?_); refine with_tabW spec_MinimalOf.tab11 spec_MinimalOf.bits11 (fun HT_ HW_ => ?_)
  generalize w24.drew = w25 at HO_6 BK159 BK170 HB hHeld ⊢
  first | refine pu_ 5 (some 36) (h := ?_) | refine pu_ 5 (some 36) (hy := Or.inl ⟨by rfl, by intro w'; go_simp; simp [Instr.field, hu28, Sem.run, underlying]; rfl⟩) (h := ?_)
  refine tk2_ 0 (some 31) (h := ?_)
  refine tk2_ 1 (some 32) (h := ?_)
  refine tk2_ 6 (some 37) (h := ?_)
  first | refine pu_ 7 (some 38) (h := ?_) | refine pu_ 7 (some 38) (hy := Or.inl ⟨by rfl, by intro w'; go_simp; simp [Instr.field, hu28, Sem.run, underlying]; rfl⟩) (h := ?_)
  refine on_ 2 (some 33) (h := fun K hK => ?_)
  refine goes_ Try.func58 (by kernel_rfl) rfl #[.agg #[.slice A158_0 ((rd_T28 l1 x19_1).f0).length c158_0], .agg #[.slice A169_0 ((rd_T28 l1 x26_2).f0).length c169_0]] (by rfl) rfl rfl nc_ ?_
  with_reducible refine (spec_l8Meet.calls k2 _ _ ((rd_T28 l1 x19_1).f0) _ _ ((rd_T28 l1 x26_2).f0) t171 _ ?side1 ?side2 ?side3 ?side4 A14.out).mono ?_
  (case side1 => exact kc_ (Kd.C_below HR158_0.out HB.out))
  (case side2 => exact HC158_0.out)
  (case side3 => exact kc_ (Kd.C_below HR169_0.out HB.out))
  (case side4 => exact HC169_0.out)
  rintro e w26 ⟨v172, rfl, ho0, hb⟩
  refine ⟨_, rfl, ?_⟩
  replace HO_6 := Aside0.mk (Kd.S_elder' (by (with_reducible repeat (first | apply Kd.S_alloc | apply Kd.S_drewN | apply Kd.S_drew)); exact HO_6.out) (Kd.R_base ho0) hb)
  have HO173 := Aside0.mk (Kd.R_lower ho0 bz_)
  replace BK159 := bb_ BK159 hb
  replace BK170 := bb_ BK170 hb
  replace HB := Aside0.mk (below_step bl_ hb)
  clear hb ho0
  obtain ⟨Ao27, co27, eo27⟩ := Kd.R_slice HO173.out
  (first | subst eo27 | (injection eo27 with f1_ f2_ f3_; have f4_ := f1_.symm; have f5_ := f3_.symm; clear f1_ f2_ f3_; subst f4_; subst f5_))
  refine hK.out _ _ ⟨bc_ BK159.out 0, bc_ BK170.out 0⟩ (fun hHeld => ?_)
  clear hK K
  refine norm_ nn_ ?_
  first | refine pu_ 3 (some 34) (h := ?_) | refine pu_ 3 (some 34) (hy := Or.inl ⟨by rfl, by intro w'; go_simp; simp [Instr.field, hu28, Sem.run, underlying]; rfl⟩) (h := ?_)
  first | refine pu_ 4 (some 35) (h := ?_) | refine pu_ 4 (some 35) (hy := Or.inl ⟨by rfl, by intro w'; go_simp; simp [Instr.field, hu28, Sem.run, underlying]; rfl⟩) (h := ?_)
  first | refine pu_ 8 (some 39) (h := ?_) | refine pu_ 8 (some 39) (hy := Or.inl ⟨by rfl, by intro w'; go_simp; simp [Instr.field, hu28, Sem.run, underlying]; rfl⟩) (h := ?_)
  first | refine pu_ 9 (some 12) (h := ?_) | refine pu_ 9 (some 12) (hy := Or.inl ⟨by rfl, by intro w'; go_simp; simp [Instr.field, hu28, Sem.run, underlying]; rfl⟩) (h := ?_)
  refine done_ (done_of HT_.out (by kernel_rfl)) ?_
  have hcz28_0 : w26.cell? ⟨gb159, 0, none⟩ = some (.slice A158_0 ((rd_T28 l1 x19_1).f0).length c158_0) := bc_ BK159.out 0
  have hfz28_0 := blk_frozen BK159.out 0
  have hcz29_0 : w26.cell? ⟨gb170, 0, none⟩ = some (.slice A169_0 ((rd_T28 l1 x26_2).f0).length c169_0) := bc_ BK170.out 0
  have hfz29_0 := blk_frozen BK170.out 0
  try go_wp2_with (first | (go_at_call 64; (with_reducible refine (spec_l8Same.calls k2 _ _ ((rd_T28 l1 x19_1).f0) _ _ ((rd_T28 l1 x26_2).f0) true _ ?side1 ?side2 ?side3 ?side4 A16.out).mono ?_); (case side1 => exact kc_ (Kd.C_below HR158_0.out HB.out)); (case side2 => exact HC158_0.out); (case side3 => exact kc_ (Kd.C_below HR169_0.out HB.out)); (case side4 => exact HC169_0.out); rintro e w30 ⟨rfl, hb⟩; replace HO_6 := Aside0.mk (Kd.S_below (by (with_reducible repeat (first | apply Kd.S_alloc | apply Kd.S_drewN | apply Kd.S_drew)); exact HO_6.out) hb); replace HO173 := rb_ HO173 hb; replace BK159 := bb_ BK159 hb; replace BK170 := bb_ BK170 hb; replace HB := Aside0.mk (below_step bl_ hb); clear hb; have hcz31_0 : w30.cell? ⟨gb159, 0, none⟩ = some (.slice A158_0 ((rd_T28 l1 x19_1).f0).length c158_0) := bc_ BK159.out 0; have hfz31_0 := blk_frozen BK159.out 0; have hcz32_0 : w30.cell? ⟨gb170, 0, none⟩ = some (.slice A169_0 ((rd_T28 l1 x26_2).f0).length c169_0) := bc_ BK170.out 0; have hfz32_0 := blk_frozen BK170.out 0) | (go_at_call 64; (with_reducible refine (spec_l8Same.calls k2 _ _ ((rd_T28 l1 x19_1).f0) _ _ ((rd_T28 l1 x26_2).f0) true _ ?side1 ?side2 ?side3 ?side4 A19.out).mono ?_); (case side1 => exact kc_ (Kd.C_below HR158_0.out HB.out)); (case side2 => exact HC158_0.out); (case side3 => exact kc_ (Kd.C_below HR169_0.out HB.out)); (case side4 => exact HC169_0.out); rintro e w33 ⟨rfl, hb⟩; replace HO_6 := Aside0.mk (Kd.S_below (by (with_reducible repeat (first | apply Kd.S_alloc | apply Kd.S_drewN | apply Kd.S_drew)); exact HO_6.out) hb); replace HO173 := rb_ HO173 hb; replace BK159 := bb_ BK159 hb; replace BK170 := bb_ BK170 hb; replace HB := Aside0.mk (below_step bl_ hb); clear hb))
  go_roundg k2
  case measure => have := HK1.out; have := HK2.out; omega
  case rel => exact ⟨(false), (wrap64 (x26_2 + 1)), (by first | rfl | (simp; done) | (simp [*]; done)), (by first | rfl | (simp; done) | (simp [*]; done)), H', ⟨by have := HK1.out; have := HK2.out; omega⟩, ⟨by (with_reducible repeat (first | apply Kd.S_alloc | apply Kd.S_drewN | apply Kd.S_drew)); exact Kd.S_mono HO_6.out (fun _ hk => hk.1.1)⟩, ⟨by exact kb_ BK159.out⟩, ⟨bl_⟩⟩
 replace c20 := Bool.eq_false_iff.mpr c20
 subst c20
 exact absurd (A16.out.symm.trans A19.out) (by simp)

end Go.Proofs.Ythbollaceiffpaa.PMO
