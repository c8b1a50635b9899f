/- What this text proves: the machine calls of these functions return what the plain functions say. Conditions: as each theorem says. Printed by a program of this session out of the translation. -/
import Derived.Test.YthbollaceiffpaaPMOx0
import Derived.Test.YthbollaceiffpaaPMOx1
namespace Go.Proofs.Ythbollaceiffpaa.PMO
open Go.RowKit Go.Proofs.YthbollaceiffpaaW.PrintWords Go.Proofs.YthbollaceiffpaaW.PrintLast Go.Proofs.YthbollaceiffpaaW.PrintMore
attribute [local go_sem] max2_int min2_int max_two min_two max_three min_three max_four min_four   -- for this text's walks alone
set_option linter.unusedVariables false
set_option linter.unusedSimpArgs false

/-! ### laws_eqGroupS: function 40 -/
def laws_eqGroupS.l0 : Nat → List (S28) → List (S28) → Int → Option (Bool)
 | 0, _, _, _ => none
 | k + 1, x0, x1, x5 => if x5 < (x0.length : Int) then (if 0 ≤ x5 then (if x5 < (x1.length : Int) then ((laws_eqGroup.f k ((rd_T28 x0 x5).f0) ((rd_T28 x1 x5).f0)).bind fun t131 => (if t131 = true then (laws_eqGroupS.l0 k x0 x1 (wrap64 (x5 + 1))) else (some false))) else (none)) else (none)) else (some true)
def laws_eqGroupS.f (k : Nat) (l0 : List (S28)) (l1 : List (S28)) : Option (Bool) := if (l0.length : Int) = (l1.length : Int) then (laws_eqGroupS.l0 k l0 l1 0) else (some false)
theorem laws_eqGroupS.mono_l : ∀ k, (∀ y0 y1 y2, LeO (laws_eqGroupS.l0 k y0 y1 y2) (laws_eqGroupS.l0 (k + 1) y0 y1 y2))
 | 0 => fun _ _ _ r h => by simp [laws_eqGroupS.l0] at h
 | k + 1 => by
  have ih0 := laws_eqGroupS.mono_l k
  ·intro y0 y1 y2
   unfold laws_eqGroupS.l0
   repeat' first
   | (with_reducible exact ih0 _ _ _)
   | (with_reducible exact laws_eqGroup.mono _ _ _)
   | (with_reducible exact LeO.refl _)
   | (with_reducible exact LeO.none _)
   | (with_reducible refine LeO.ite ?_ ?_)
   | (with_reducible refine LeO.bind ?_ (fun _ => ?_))
   | exact ih0 _ _ _
   | exact laws_eqGroup.mono _ _ _
   | exact LeO.none _
   | refine LeO.ite ?_ ?_
   | refine LeO.bind ?_ (fun _ => ?_)
theorem laws_eqGroupS.mono : ∀ a0 a1 k, LeO (laws_eqGroupS.f k a0 a1) (laws_eqGroupS.f (k + 1) a0 a1) := by
 intro a0 a1 k
 have ih0 := laws_eqGroupS.mono_l k
 unfold laws_eqGroupS.f
 repeat' first
   | (with_reducible exact ih0 _ _ _)
   | (with_reducible exact laws_eqGroup.mono _ _ _)
   | (with_reducible exact LeO.refl _)
   | (with_reducible exact LeO.none _)
   | (with_reducible refine LeO.ite ?_ ?_)
   | (with_reducible refine LeO.bind ?_ (fun _ => ?_))
   | exact ih0 _ _ _
   | exact laws_eqGroup.mono _ _ _
   | exact LeO.none _
   | refine LeO.ite ?_ ?_
   | refine LeO.bind ?_ (fun _ => ?_)
def laws_eqGroupS.T6 : Bool × List (List Nat × List Nat) := (true, [([], []), ([], []), ([0, 1], [0, 1]), ([2], [2]), ([], []), ([], []), ([4, 5], [4, 5]), ([6], [6]), ([3, 7], [3, 7]), ([8], [8])])
def laws_eqGroupS.B6 : List Nat := [0, 0, 3, 7, 0, 0, 48, 112, 255, 511]
theorem laws_eqGroupS.tab6 : rtab .any (opsOf Try.f40 6) = laws_eqGroupS.T6 := by kernel_rfl
theorem laws_eqGroupS.bits6 : waitsOk laws_eqGroupS.T6.2 laws_eqGroupS.B6 = true := by kernel_rfl
set_option maxHeartbeats 8000000 in
set_option maxRecDepth 100000 in
theorem laws_eqGroupS.calls (k : Nat) (A0 : Option Addr) (c0 : Nat) (l0 : List (S28)) (A1 : Option Addr) (c1 : Nat) (l1 : List (S28)) (r : Bool) (w : World) (hr0 : Kd.C k28 w A0 l0.length l0) (hc0 : l0.length ≤ c0) (hr1 : Kd.C k28 w A1 l1.length l1) (hc1 : l1.length ≤ c1) (h : laws_eqGroupS.f k l0 l1 = some r) :
  Calls Try.prog 40 #[.slice A0 l0.length c0, .slice A1 l1.length c1] w fun e w' => e = .returned (.bool r) ∧ Below w.heap.size w w' := by
 have hu28 := Try.underlying28
 have HR0 := Aside0.mk hr0
 have HC0 := Aside0.mk hc0
 clear hr0 hc0
 have HR1 := Aside0.mk hr1
 have HC1 := Aside0.mk hc1
 clear hr1 hc1
 have HB := Aside0.mk (Below.refl w.heap.size w)
 have H : (if (l0.length : Int) = (l1.length : Int) then (laws_eqGroupS.l0 k l0 l1 0) else (some false)) = some r := h
 clear h
 by_cases c3 : (l0.length : Int) = (l1.length : Int)
 rotate_left
 ·rw [if_neg c3] at H
  have c3b0 : ((l0.length : Int) == (l1.length : Int)) = false := beq_eq_false_iff_ne.mpr c3
  have c3b1 : ((l0.length : Int) != (l1.length : Int)) = true := bne_iff_ne.mpr c3
  have c3b2 : (l0.length == l1.length) = false := by first | simpa using c3 | (simp at c3 ⊢; omega)
  obtain rfl := Option.some.inj H
  go_enter Try.func40, Try.ntmps40
  go_wp2
  go_ret
  exact ⟨ng_, bl_⟩
 rw [if_pos c3] at H
 have c3b0 : ((l0.length : Int) == (l1.length : Int)) = true := beq_iff_eq.mpr c3
 have c3b1 : ((l0.length : Int) != (l1.length : Int)) = false := bne_eq_false_iff_eq.mpr c3
 have c3b2 : (l0.length == l1.length) = true := by first | simpa using c3 | (simp at c3 ⊢; omega)
 clear c3
 have H' := Aside0.mk H
 clear H
 go_enter Try.func40, Try.ntmps40
 go_wp2
 go_loopg [5] k (fun kq v5 w' => ∃ (x5_1 : Int), v5 = .int .i64 x5_1 ∧ Aside0 (laws_eqGroupS.l0 kq l0 l1 x5_1 = some r) ∧ Aside0 (kq ≤ k) ∧ Aside0 (Below w.heap.size w w'))
 case atStart => exact ⟨(0), (by first | rfl | (simp; done) | (simp [*]; done)), H', ⟨Nat.le_refl _⟩, ⟨bl_⟩⟩
 clear H'
 try clear c1
 try clear p2
 try clear c3
 try clear c3b0
 try clear c3b1
 try clear c3b2
 obtain ⟨x5_1, rfl, HA, HK1, HB⟩ := hrel
 cases gk with
 | zero => exact absurd HA.out (by simp [laws_eqGroupS.l0])
 | succ k1 => ?_
 have H := HA.out
 clear HA
 simp only [laws_eqGroupS.l0] at H
 by_cases c4 : x5_1 < (l0.length : Int)
 rotate_left
 ·rw [if_neg c4] at H
  have c4b0 : decide (x5_1 < (l0.length : Int)) = false := decide_eq_false c4
  clear c4
  obtain rfl := Option.some.inj H
  go_wp2
  go_ret
  exact ⟨ng_, bl_⟩
 rw [if_pos c4] at H
 have c4b0 : decide (x5_1 < (l0.length : Int)) = true := decide_eq_true c4
 clear c4
 by_cases c5 : 0 ≤ x5_1
 rotate_left
 ·rw [if_neg c5] at H
  exact absurd H (by simp)
 rw [if_pos c5] at H
 have c5b0 : decide (0 ≤ x5_1) = true := decide_eq_true c5
 clear c5
 by_cases c6 : x5_1 < (l1.length : Int)
 rotate_left
 ·rw [if_neg c6] at H
  exact absurd H (by simp)
 rw [if_pos c6] at H
 have c6b0 : decide (x5_1 < (l1.length : Int)) = true := decide_eq_true c6
 clear c6
 replace H := Option.bind_eq_some_iff.mp H
 obtain ⟨t131, A70, H⟩ := H
 replace H : (if t131 = true then (laws_eqGroupS.l0 k1 l0 l1 (wrap64 (x5_1 + 1))) else (some false)) = some r := H
 have A7 := Aside0.mk A70
 clear A70
 by_cases c8 : t131 = true
 rotate_left
 ·replace c8 := Bool.eq_false_iff.mpr c8
  subst c8
  have H1 : (some false) = some r := by rw [if_neg (show ¬ (false = true) by decide)] at H; exact H
  clear H
  have H := H1
  clear H1
  obtain rfl := Option.some.inj H
  try go_wp2
  replace HB := Aside0.mk (below_drew1 HB.out)
  have p129 : 0 ≤ (x5_1 : Int) := of_decide_eq_true (by first | (with_reducible assumption) | assumption)
  have q129 : x5_1 < (l0.length : Int) := of_decide_eq_true (by first | (with_reducible assumption) | assumption)
  obtain ⟨ad129, A129_0, c129_0, e129, hx129_0, hl129_0, hi129_0⟩ := at_T28 HR0.out x5_1 p129 q129
  have hw129_0 := hx129_0
  cases e129
  replace hx129_0 := (HB.out.cell (World.block_lt_of_cell? w _ hx129_0)).trans hx129_0
  have HR129_0 := Aside0.mk hi129_0
  have HC129_0 := Aside0.mk hl129_0
  clear hi129_0 hl129_0
  replace p129 := eq_true p129
  replace q129 := eq_true q129
  have p130 : 0 ≤ (x5_1 : Int) := of_decide_eq_true (by first | (with_reducible assumption) | assumption)
  have q130 : x5_1 < (l1.length : Int) := of_decide_eq_true (by first | (with_reducible assumption) | assumption)
  obtain ⟨ad130, A130_0, c130_0, e130, hx130_0, hl130_0, hi130_0⟩ := at_T28 HR1.out x5_1 p130 q130
  have hw130_0 := hx130_0
  cases e130
  replace hx130_0 := (HB.out.cell (World.block_lt_of_cell? w _ hx130_0)).trans hx130_0
  have HR130_0 := Aside0.mk hi130_0
  have HC130_0 := Aside0.mk hl130_0
  clear hi130_0 hl130_0
  replace p130 := eq_true p130
  replace q130 := eq_true q130
  refine start_ (n := 10) (S := fun w' => w'.cell? (ad129.add (x5_1).toNat) = some (.slice A129_0 ((rd_T28 l0 x5_1).f0).length c129_0) ∧ w'.cell? (ad130.add (x5_1).toNat) = some (.slice A130_0 ((rd_T28 l1 x5_1).f0).length c130_0)) (ds := []) #[false, false, false, false, false, false, false, false, false, false] (by kernel_rfl) rfl rfl ⟨((HB.out.cell (World.block_lt_of_cell? w _ hw129_0)).trans hw129_0), ((HB.out.cell (World.block_lt_of_cell? w _ hw130_0)).trans hw130_0)⟩ (fun hHeld => ?_); refine with_tabW laws_eqGroupS.tab6 laws_eqGroupS.bits6 (fun HT_ HW_ => ?_)
  generalize wr.drew = w11 at HB HR129_0 HR130_0 hx129_0 hx130_0 hHeld ⊢
  refine pu_ 0 (some 17) (h := ?_)
  refine pu_ 1 (some 18) (h := ?_)
  refine pu_ 2 (some 19) (h := ?_)
  refine pu_ 4 (some 21) (h := ?_)
  refine pu_ 5 (some 22) (h := ?_)
  refine pu_ 6 (some 23) (h := ?_)
  refine tk2_ 3 (some 20) (h := ?_)
  refine tk2_ 7 (some 24) (h := ?_)
  refine on_ 8 (some 25) (h := fun K hK => ?_)
  refine goes_ Try.func16 (by kernel_rfl) rfl #[.agg #[.slice A129_0 ((rd_T28 l0 x5_1).f0).length c129_0], .agg #[.slice A130_0 ((rd_T28 l1 x5_1).f0).length c130_0]] (by rfl) rfl rfl nc_ ?_
  with_reducible refine (laws_eqGroup.calls k1 _ _ ((rd_T28 l0 x5_1).f0) _ _ ((rd_T28 l1 x5_1).f0) false _ ?side1 ?side2 ?side3 ?side4 A7.out).mono ?_
  (case side1 => exact kc_ (Kd.C_below HR129_0.out HB.out))
  (case side2 => exact HC129_0.out)
  (case side3 => exact kc_ (Kd.C_below HR130_0.out HB.out))
  (case side4 => exact HC130_0.out)
  rintro e w12 ⟨rfl, hb⟩
  refine ⟨_, rfl, ?_⟩
  replace HB := Aside0.mk (below_step bl_ hb)
  clear hb
  refine hK.out _ _ ⟨((HB.out.cell (World.block_lt_of_cell? w _ hw129_0)).trans hw129_0), ((HB.out.cell (World.block_lt_of_cell? w _ hw130_0)).trans hw130_0)⟩ (fun hHeld => ?_)
  clear hK K
  refine norm_ nn_ ?_
  refine pu_ 9 (some 26) (h := ?_)
  refine done_ (done_of HT_.out (by kernel_rfl)) ?_
  try go_wp2
  go_ret
  exact ⟨ng_, bl_⟩
 subst c8
 have H1 : (laws_eqGroupS.l0 k1 l0 l1 (wrap64 (x5_1 + 1))) = some r := by rw [if_pos rfl] at H; exact H
 clear H
 have H := H1
 clear H1
 have H' := Aside0.mk H
 clear H
 try go_wp2
 replace HB := Aside0.mk (below_drew1 HB.out)
 have p129 : 0 ≤ (x5_1 : Int) := of_decide_eq_true (by first | (with_reducible assumption) | assumption)
 have q129 : x5_1 < (l0.length : Int) := of_decide_eq_true (by first | (with_reducible assumption) | assumption)
 obtain ⟨ad129, A129_0, c129_0, e129, hx129_0, hl129_0, hi129_0⟩ := at_T28 HR0.out x5_1 p129 q129
 have hw129_0 := hx129_0
 cases e129
 replace hx129_0 := (HB.out.cell (World.block_lt_of_cell? w _ hx129_0)).trans hx129_0
 have HR129_0 := Aside0.mk hi129_0
 have HC129_0 := Aside0.mk hl129_0
 clear hi129_0 hl129_0
 replace p129 := eq_true p129
 replace q129 := eq_true q129
 have p130 : 0 ≤ (x5_1 : Int) := of_decide_eq_true (by first | (with_reducible assumption) | assumption)
 have q130 : x5_1 < (l1.length : Int) := of_decide_eq_true (by first | (with_reducible assumption) | assumption)
 obtain ⟨ad130, A130_0, c130_0, e130, hx130_0, hl130_0, hi130_0⟩ := at_T28 HR1.out x5_1 p130 q130
 have hw130_0 := hx130_0
 cases e130
 replace hx130_0 := (HB.out.cell (World.block_lt_of_cell? w _ hx130_0)).trans hx130_0
 have HR130_0 := Aside0.mk hi130_0
 have HC130_0 := Aside0.mk hl130_0
 clear hi130_0 hl130_0
 replace p130 := eq_true p130
 replace q130 := eq_true q130
 refine start_ (n := 10) (S := fun w' => w'.cell? (ad129.add (x5_1).toNat) = some (.slice A129_0 ((rd_T28 l0 x5_1).f0).length c129_0) ∧ w'.cell? (ad130.add (x5_1).toNat) = some (.slice A130_0 ((rd_T28 l1 x5_1).f0).length c130_0)) (ds := []) #[false, false, false, false, false, false, false, false, false, false] (by kernel_rfl) rfl rfl ⟨((HB.out.cell (World.block_lt_of_cell? w _ hw129_0)).trans hw129_0), ((HB.out.cell (World.block_lt_of_cell? w _ hw130_0)).trans hw130_0)⟩ (fun hHeld => ?_); refine with_tabW laws_eqGroupS.tab6 laws_eqGroupS.bits6 (fun HT_ HW_ => ?_)
 generalize wr.drew = w9 at HB HR129_0 HR130_0 hx129_0 hx130_0 hHeld ⊢
 refine pu_ 0 (some 17) (h := ?_)
 refine pu_ 1 (some 18) (h := ?_)
 refine pu_ 2 (some 19) (h := ?_)
 refine pu_ 4 (some 21) (h := ?_)
 refine pu_ 5 (some 22) (h := ?_)
 refine pu_ 6 (some 23) (h := ?_)
 refine tk2_ 3 (some 20) (h := ?_)
 refine tk2_ 7 (some 24) (h := ?_)
 refine on_ 8 (some 25) (h := fun K hK => ?_)
 refine goes_ Try.func16 (by kernel_rfl) rfl #[.agg #[.slice A129_0 ((rd_T28 l0 x5_1).f0).length c129_0], .agg #[.slice A130_0 ((rd_T28 l1 x5_1).f0).length c130_0]] (by rfl) rfl rfl nc_ ?_
 with_reducible refine (laws_eqGroup.calls k1 _ _ ((rd_T28 l0 x5_1).f0) _ _ ((rd_T28 l1 x5_1).f0) true _ ?side1 ?side2 ?side3 ?side4 A7.out).mono ?_
 (case side1 => exact kc_ (Kd.C_below HR129_0.out HB.out))
 (case side2 => exact HC129_0.out)
 (case side3 => exact kc_ (Kd.C_below HR130_0.out HB.out))
 (case side4 => exact HC130_0.out)
 rintro e w10 ⟨rfl, hb⟩
 refine ⟨_, rfl, ?_⟩
 replace HB := Aside0.mk (below_step bl_ hb)
 clear hb
 refine hK.out _ _ ⟨((HB.out.cell (World.block_lt_of_cell? w _ hw129_0)).trans hw129_0), ((HB.out.cell (World.block_lt_of_cell? w _ hw130_0)).trans hw130_0)⟩ (fun hHeld => ?_)
 clear hK K
 refine norm_ nn_ ?_
 refine pu_ 9 (some 26) (h := ?_)
 refine done_ (done_of HT_.out (by kernel_rfl)) ?_
 try go_wp2
 go_roundg k1
 case measure => have := HK1.out; omega
 case rel => exact ⟨(wrap64 (x5_1 + 1)), (by first | rfl | (simp; done) | (simp [*]; done)), H', ⟨by have := HK1.out; omega⟩, ⟨bl_⟩⟩

/-! ### spec_l1Has: function 75 -/
def spec_l1Has.l0 : Nat → Int → List Int → Int → Int → Option (Bool)
 | 0, _, _, _, _ => none
 | k + 1, x1, x7, x8, x9 => if x9 < x8 then (if 0 ≤ x9 then (if x9 < (x7.length : Int) then (if (rd x7 x9) = x1 then (some true) else (spec_l1Has.l0 k x1 x7 x8 (wrap64 (x9 + 1)))) else (none)) else (none)) else (some false)
def spec_l1Has.f (k : Nat) (l0 : List Int) (a1 : Int) : Option (Bool) := spec_l1Has.l0 k a1 l0 (l0.length : Int) 0
theorem spec_l1Has.mono_l : ∀ k, (∀ y0 y1 y2 y3, LeO (spec_l1Has.l0 k y0 y1 y2 y3) (spec_l1Has.l0 (k + 1) y0 y1 y2 y3))
 | 0 => fun _ _ _ _ r h => by simp [spec_l1Has.l0] at h
 | k + 1 => by
  have ih0 := spec_l1Has.mono_l k
  ·intro y0 y1 y2 y3
   unfold spec_l1Has.l0
   repeat' first
   | (with_reducible exact ih0 _ _ _ _)
   | (with_reducible exact LeO.refl _)
   | (with_reducible exact LeO.none _)
   | (with_reducible refine LeO.ite ?_ ?_)
   | (with_reducible refine LeO.bind ?_ (fun _ => ?_))
   | exact ih0 _ _ _ _
   | exact LeO.none _
   | refine LeO.ite ?_ ?_
   | refine LeO.bind ?_ (fun _ => ?_)
theorem spec_l1Has.mono : ∀ a0 a1 k, LeO (spec_l1Has.f k a0 a1) (spec_l1Has.f (k + 1) a0 a1) := by
 intro a0 a1 k
 have ih0 := spec_l1Has.mono_l k
 unfold spec_l1Has.f
 repeat' first
   | (with_reducible exact ih0 _ _ _ _)
   | (with_reducible exact LeO.refl _)
   | (with_reducible exact LeO.none _)
   | (with_reducible refine LeO.ite ?_ ?_)
   | (with_reducible refine LeO.bind ?_ (fun _ => ?_))
   | exact ih0 _ _ _ _
   | exact LeO.none _
   | refine LeO.ite ?_ ?_
   | refine LeO.bind ?_ (fun _ => ?_)
set_option maxHeartbeats 8000000 in
set_option maxRecDepth 100000 in
theorem spec_l1Has.calls (k : Nat) (A0 : Option Addr) (c0 : Nat) (l0 : List Int) (a1 : Int) (r : Bool) (w : World) (hr0 : Kd.C (Kd.int .i64) w A0 l0.length l0) (hc0 : l0.length ≤ c0) (h : spec_l1Has.f k l0 a1 = some r) :
  Calls Try.prog 75 #[.slice A0 l0.length c0, .int .i64 a1] w fun e w' => e = .returned (.bool r) ∧ Drawn0 w w' := by
 have HR0 := Aside0.mk hr0
 have HC0 := Aside0.mk hc0
 clear hr0 hc0
 have H : (spec_l1Has.l0 k a1 l0 (l0.length : Int) 0) = some r := h
 clear h
 have H' := Aside0.mk H
 clear H
 go_enter Try.func75, Try.ntmps75
 go_wp2
 go_loopg [9] k (fun kq v9 w' => ∃ (x9_1 : Int), v9 = .int .i64 x9_1 ∧ Aside0 (spec_l1Has.l0 kq a1 l0 (l0.length : Int) x9_1 = some r) ∧ Aside0 (kq ≤ k) ∧ Drawn0 w w')
 case atStart => exact ⟨(0), (by first | rfl | (simp; done) | (simp [*]; done)), H', ⟨Nat.le_refl _⟩, by repeat (first | exact Drawn0.refl _ | apply Drawn0.step)⟩
 clear H'
 try clear p2
 obtain ⟨x9_1, rfl, HA, HK1, ⟨m1, rfl⟩⟩ := hrel
 cases gk with
 | zero => exact absurd HA.out (by simp [spec_l1Has.l0])
 | succ k1 => ?_
 have H := HA.out
 clear HA
 simp only [spec_l1Has.l0] at H
 by_cases c3 : x9_1 < (l0.length : Int)
 rotate_left
 ·rw [if_neg c3] at H
  have c3b0 : decide (x9_1 < (l0.length : Int)) = false := decide_eq_false c3
  clear c3
  obtain rfl := Option.some.inj H
  go_wp2
  go_ret
  exact ⟨by first | rfl | (simp; done) | (simp [*]; done), by repeat (first | exact Drawn0.refl _ | apply Drawn0.step)⟩
 rw [if_pos c3] at H
 have c3b0 : decide (x9_1 < (l0.length : Int)) = true := decide_eq_true c3
 clear c3
 by_cases c4 : 0 ≤ x9_1
 rotate_left
 ·rw [if_neg c4] at H
  exact absurd H (by simp)
 rw [if_pos c4] at H
 have c4b0 : decide (0 ≤ x9_1) = true := decide_eq_true c4
 clear c4
 by_cases c5 : x9_1 < (l0.length : Int)
 rotate_left
 ·rw [if_neg c5] at H
  exact absurd H (by simp)
 rw [if_pos c5] at H
 have c5b0 : decide (x9_1 < (l0.length : Int)) = true := decide_eq_true c5
 clear c5
 by_cases c6 : (rd l0 x9_1) = a1
 ·rw [if_pos c6] at H
  have c6b0 : ((rd l0 x9_1) == a1) = true := beq_iff_eq.mpr c6
  have c6b1 : ((rd l0 x9_1) != a1) = false := bne_eq_false_iff_eq.mpr c6
  clear c6
  obtain rfl := Option.some.inj H
  have p132 : 0 ≤ (x9_1 : Int) := of_decide_eq_true (by first | (with_reducible assumption) | assumption)
  have q132 : x9_1 < (l0.length : Int) := of_decide_eq_true (by first | (with_reducible assumption) | assumption)
  obtain ⟨ad132, e132, hx132_0⟩ := Kd.at_int HR0.out x9_1 p132 q132
  cases e132
  replace p132 := eq_true p132
  replace q132 := eq_true q132
  go_wp2
  go_ret
  exact ⟨by first | rfl | (simp; done) | (simp [*]; done), by repeat (first | exact Drawn0.refl _ | apply Drawn0.step)⟩
 rw [if_neg c6] at H
 have c6b0 : ((rd l0 x9_1) == a1) = false := beq_eq_false_iff_ne.mpr c6
 have c6b1 : ((rd l0 x9_1) != a1) = true := bne_iff_ne.mpr c6
 have H' := Aside0.mk H
 clear H
 have p132 : 0 ≤ (x9_1 : Int) := of_decide_eq_true (by first | (with_reducible assumption) | assumption)
 have q132 : x9_1 < (l0.length : Int) := of_decide_eq_true (by first | (with_reducible assumption) | assumption)
 obtain ⟨ad132, e132, hx132_0⟩ := Kd.at_int HR0.out x9_1 p132 q132
 cases e132
 replace p132 := eq_true p132
 replace q132 := eq_true q132
 go_wp2
 go_roundg k1
 case measure => have := HK1.out; omega
 case rel => exact ⟨(wrap64 (x9_1 + 1)), (by first | rfl | (simp; done) | (simp [*]; done)), H', ⟨by have := HK1.out; omega⟩, by repeat (first | exact Drawn0.refl _ | apply Drawn0.step)⟩

/-! ### spec_l8Meet: function 58 -/
def spec_l8Meet.l0 : Nat → List Int → Int → Int → List Int → List Int → Option (List Int)
 | 0, _, _, _, _, _ => none
 | k + 1, x9, x10, x11, x135000, x137000 => if x11 < x10 then (if 0 ≤ x11 then (if x11 < (x9.length : Int) then ((spec_l1Has.f k x135000 (rd x9 x11)).bind fun t138 => (if t138 = true then (if x137000.length < 17592186044416 then (spec_l8Meet.l0 k x9 x10 (wrap64 (x11 + 1)) x135000 (x137000 ++ [rd x9 x11])) else (none)) else (spec_l8Meet.l0 k x9 x10 (wrap64 (x11 + 1)) x135000 x137000))) else (none)) else (none)) else (some x137000)
def spec_l8Meet.f (k : Nat) (l0_0 : List Int) (l1_0 : List Int) : Option (List Int) := spec_l8Meet.l0 k l0_0 (l0_0.length : Int) 0 l1_0 ([] : List Int)
theorem spec_l8Meet.mono_l : ∀ k, (∀ y0 y1 y2 y3 y4, LeO (spec_l8Meet.l0 k y0 y1 y2 y3 y4) (spec_l8Meet.l0 (k + 1) y0 y1 y2 y3 y4))
 | 0 => fun _ _ _ _ _ r h => by simp [spec_l8Meet.l0] at h
 | k + 1 => by
  have ih0 := spec_l8Meet.mono_l k
  ·intro y0 y1 y2 y3 y4
   unfold spec_l8Meet.l0
   repeat' first
   | (with_reducible exact ih0 _ _ _ _ _)
   | (with_reducible exact spec_l1Has.mono _ _ _)
   | (with_reducible exact LeO.refl _)
   | (with_reducible exact LeO.none _)
   | (with_reducible refine LeO.ite ?_ ?_)
   | (with_reducible refine LeO.bind ?_ (fun _ => ?_))
   | exact ih0 _ _ _ _ _
   | exact spec_l1Has.mono _ _ _
   | exact LeO.none _
   | refine LeO.ite ?_ ?_
   | refine LeO.bind ?_ (fun _ => ?_)
theorem spec_l8Meet.mono : ∀ a0 a1 k, LeO (spec_l8Meet.f k a0 a1) (spec_l8Meet.f (k + 1) a0 a1) := by
 intro a0 a1 k
 have ih0 := spec_l8Meet.mono_l k
 unfold spec_l8Meet.f
 repeat' first
   | (with_reducible exact ih0 _ _ _ _ _)
   | (with_reducible exact spec_l1Has.mono _ _ _)
   | (with_reducible exact LeO.refl _)
   | (with_reducible exact LeO.none _)
   | (with_reducible refine LeO.ite ?_ ?_)
   | (with_reducible refine LeO.bind ?_ (fun _ => ?_))
   | exact ih0 _ _ _ _ _
   | exact spec_l1Has.mono _ _ _
   | exact LeO.none _
   | refine LeO.ite ?_ ?_
   | refine LeO.bind ?_ (fun _ => ?_)
set_option maxHeartbeats 8000000 in
set_option maxRecDepth 100000 in
theorem spec_l8Meet.calls (k : Nat) (A0_0 : Option Addr) (c0_0 : Nat) (l0_0 : List Int) (A1_0 : Option Addr) (c1_0 : Nat) (l1_0 : List Int) (r : List Int) (w : World) (hr0_0 : Kd.C (Kd.int .i64) w A0_0 l0_0.length l0_0) (hc0_0 : l0_0.length ≤ c0_0) (hr1_0 : Kd.C (Kd.int .i64) w A1_0 l1_0.length l1_0) (hc1_0 : l1_0.length ≤ c1_0) (h : spec_l8Meet.f k l0_0 l1_0 = some r) :
  Calls Try.prog 58 #[.agg #[.slice A0_0 l0_0.length c0_0], .agg #[.slice A1_0 l1_0.length c1_0]] w fun e w' => ∃ v0_ : Value, e = .returned (.agg #[v0_]) ∧ Kd.R (Kd.int .i64) 3 w' w.heap.size (fun _ => True) v0_ r ∧ Below w.heap.size w w' := by
 have hu28 := Try.underlying28
 have HR0_0 := Aside0.mk hr0_0
 have HC0_0 := Aside0.mk hc0_0
 clear hr0_0 hc0_0
 have HR1_0 := Aside0.mk hr1_0
 have HC1_0 := Aside0.mk hc1_0
 clear hr1_0 hc1_0
 have HB := Aside0.mk (Below.refl w.heap.size w)
 have H : (spec_l8Meet.l0 k l0_0 (l0_0.length : Int) 0 l1_0 ([] : List Int)) = some r := h
 clear h
 have H' := Aside0.mk H
 clear H
 go_enter Try.func58, Try.ntmps58
 go_wp2_with (first | ((with_reducible refine gate_dst (N := 2) rfl ?_); refine box_event rfl (N := 2) rfl (cs := #[.slice A0_0 l0_0.length c0_0]) (t := 28) gs_ ?_; intro gb133 hg w3 hbox hb; have BK133 := Aside0.mk (hbox); have GW133 := Aside0.mk ((by rw [hg]; exact bz_ : w.heap.size ≤ gb133)); have GE133 := GW133; replace HB := Aside0.mk (below_step bl_ hb); clear hb hbox hg) | ((with_reducible refine gate_dst (N := 3) rfl ?_); refine box_event rfl (N := 3) rfl (cs := #[.slice A1_0 l1_0.length c1_0]) (t := 28) gs_ ?_; intro gb134 hg w4 hbox hb; have BK134 := Aside0.mk (hbox); have GW134 := Aside0.mk ((by rw [hg]; exact bz_ : w.heap.size ≤ gb134)); have GE134 := GW134; replace HB := Aside0.mk (below_step bl_ hb); have NB133_134 := nl_ hg BK133; have NB134_133 := nm_ hg BK133; replace BK133 := bb_ BK133 hb; clear hb hbox hg) | ((with_reducible refine gate_dst (N := 4) rfl ?_); refine box_event rfl (N := 4) rfl (cs := #[.slice none 0 0]) (t := 28) gs_ ?_; intro gb135 hg w5 hbox hb; have BK135 := Aside0.mk (hbox); have GW135 := Aside0.mk ((by rw [hg]; exact bz_ : w.heap.size ≤ gb135)); have GE135 := GW135; replace HB := Aside0.mk (below_step bl_ hb); have NB133_135 := nl_ hg BK133; have NB135_133 := nm_ hg BK133; replace BK133 := bb_ BK133 hb; have NB134_135 := nl_ hg BK134; have NB135_134 := nm_ hg BK134; replace BK134 := bb_ BK134 hb; clear hb hbox hg) | ((with_reducible refine gate_dst (N := 5) rfl ?_); refine box_event rfl (N := 5) rfl (cs := #[.slice none 0 0]) (t := 28) gs_ ?_; intro gb136 hg w6 hbox hb; have BK136 := Aside0.mk (hbox); have GW136 := Aside0.mk ((by rw [hg]; exact bz_ : w.heap.size ≤ gb136)); have GE136 := GW136; replace HB := Aside0.mk (below_step bl_ hb); have NB133_136 := nl_ hg BK133; have NB136_133 := nm_ hg BK133; replace BK133 := bb_ BK133 hb; have NB134_136 := nl_ hg BK134; have NB136_134 := nm_ hg BK134; replace BK134 := bb_ BK134 hb; have NB135_136 := nl_ hg BK135; have NB136_135 := nm_ hg BK135; replace BK135 := bb_ BK135 hb; clear hb hbox hg; have hnb7 := NB133_134.out; have hnc7 := NB134_133.out; have hnb8 := NB133_135.out; have hnc8 := NB135_133.out; have hnb9 := NB133_136.out; have hnc9 := NB136_133.out; have hcz10_0 : w6.cell? ⟨gb133, 0, none⟩ = some (.slice A0_0 l0_0.length c0_0) := bc_ BK133.out 0; have hfz10_0 := blk_frozen BK133.out 0))
 go_loopg [11] k (fun kq v11 w' => ∃ (x11_1 : Int) (x137000_1 : List Int) (u137000 : Value), v11 = .int .i64 x11_1 ∧ Aside0 (spec_l8Meet.l0 kq l0_0 (l0_0.length : Int) x11_1 l1_0 x137000_1 = some r) ∧ Aside0 (kq ≤ k) ∧ Aside0 (Kd.R (Kd.int .i64) 3 w' w.heap.size (fun _ => True) u137000 x137000_1) ∧ Aside0 (w'.heap[gb133]? = some (.cells #[(.slice A0_0 l0_0.length c0_0)] 28 (0, 0))) ∧ Aside0 (w'.heap[gb134]? = some (.cells #[(.slice A1_0 l1_0.length c1_0)] 28 (0, 0))) ∧ Aside0 (w'.heap[gb135]? = some (.cells #[(.slice none 0 0)] 28 (0, 0))) ∧ Aside0 (w'.heap[gb136]? = some (.cells #[u137000] 28 (0, 0))) ∧ Aside0 (Below w.heap.size w w'))
 case atStart => exact ⟨(0), (([] : List Int)), (.slice none 0 0), (by first | rfl | (simp; done) | (simp [*]; done)), H', ⟨Nat.le_refl _⟩, ⟨by first | exact Kd.R_nil _ _ _ _ _ | exact Kd.N_nil _ _ _ _ _ | exact Kd.V_nil _ _ _ _ _ | exact Kd.Q_nil _ _ _ _ _ | exact Kd.S_nil _ _ _ _ _⟩, ⟨by exact kb_ BK133.out⟩, ⟨by exact kb_ BK134.out⟩, ⟨by exact kb_ BK135.out⟩, ⟨by exact kb_ BK136.out⟩, ⟨bl_⟩⟩
 clear H'
 try clear c1
 try clear p2
 try clear c5
 try clear c7
 try clear c8
 try clear c9
 try clear hcz10_0
 try clear hfz10_0
 obtain ⟨x11_1, x137000_1, u137000, rfl, HA, HK1, HO_137000, BK133, BK134, BK135, BK136, HB⟩ := hrel
 cases gk with
 | zero => exact absurd HA.out (by simp [spec_l8Meet.l0])
 | succ k1 => ?_
 have H := HA.out
 clear HA
 simp only [spec_l8Meet.l0] at H
 by_cases c11 : x11_1 < (l0_0.length : Int)
 rotate_left
 ·rw [if_neg c11] at H
  have c11b0 : decide (x11_1 < (l0_0.length : Int)) = false := decide_eq_false c11
  clear c11
  obtain rfl := Option.some.inj H
  have hnb31 := NB136_133.out
  have hnc31 := NB133_136.out
  have hnb32 := NB136_134.out
  have hnc32 := NB134_136.out
  have hnb33 := NB136_135.out
  have hnc33 := NB135_136.out
  have hcz34_0 : wr.cell? ⟨gb136, 0, none⟩ = some (u137000) := bc_ BK136.out 0
  have hfz34_0 := blk_frozen BK136.out 0
  obtain ⟨Ao35, co35, eo35⟩ := Kd.R_slice HO_137000.out
  subst eo35
  have hnb36 := NB135_133.out
  have hnc36 := NB133_135.out
  have hnb37 := NB135_134.out
  have hnc37 := NB134_135.out
  have hcz38_0 : wr.cell? ⟨gb135, 0, none⟩ = some (.slice none 0 0) := bc_ BK135.out 0
  have hfz38_0 := blk_frozen BK135.out 0
  go_wp2
  refine bodyPost_ret (results_cell_row rfl _ _ gb135 28 #[.slice Ao35 x137000_1.length co35] (0, 0) _ rfl (by (with_reducible repeat (first | refine blk_drewN ?_ _ | refine blk_drew ?_ | refine blk_alloc ?_ _)); refine blk_put (cs := #[.slice none 0 0]) ?_ 0 _ rfl; exact kb_ BK135.out) Try.underlying28 rfl (by kernel_rfl)) rfl ?_
  exact ⟨_, ng_, by exact kr_ (Kd.R_mono (Kd.R_far (p := ⟨gb135, 0, none⟩) (Kd.R_types HO_137000.out BK135.out (by decide)) (fun _ hk => hk.2) (.slice Ao35 x137000_1.length co35)) (fun _ hk => trivial)), bl_⟩
 rw [if_pos c11] at H
 have c11b0 : decide (x11_1 < (l0_0.length : Int)) = true := decide_eq_true c11
 clear c11
 by_cases c12 : 0 ≤ x11_1
 rotate_left
 ·rw [if_neg c12] at H
  exact absurd H (by simp)
 rw [if_pos c12] at H
 have c12b0 : decide (0 ≤ x11_1) = true := decide_eq_true c12
 clear c12
 by_cases c13 : x11_1 < (l0_0.length : Int)
 rotate_left
 ·rw [if_neg c13] at H
  exact absurd H (by simp)
 rw [if_pos c13] at H
 have c13b0 : decide (x11_1 < (l0_0.length : Int)) = true := decide_eq_true c13
 clear c13
 replace H := Option.bind_eq_some_iff.mp H
 obtain ⟨t138, A140, H⟩ := H
 replace H : (if t138 = true then (if x137000_1.length < 17592186044416 then (spec_l8Meet.l0 k1 l0_0 (l0_0.length : Int) (wrap64 (x11_1 + 1)) l1_0 (x137000_1 ++ [rd l0_0 x11_1])) else (none)) else (spec_l8Meet.l0 k1 l0_0 (l0_0.length : Int) (wrap64 (x11_1 + 1)) l1_0 x137000_1)) = some r := H
 have A14 := Aside0.mk A140
 clear A140
 by_cases c15 : t138 = true
 rotate_left
 ·replace c15 := Bool.eq_false_iff.mpr c15
  subst c15
  have H1 : (spec_l8Meet.l0 k1 l0_0 (l0_0.length : Int) (wrap64 (x11_1 + 1)) l1_0 x137000_1) = some r := by rw [if_neg (show ¬ (false = true) by decide)] at H; exact H
  clear H
  have H := H1
  clear H1
  have H' := Aside0.mk H
  clear H
  have p137 : 0 ≤ (x11_1 : Int) := of_decide_eq_true (by first | (with_reducible assumption) | assumption)
  have q137 : x11_1 < (l0_0.length : Int) := of_decide_eq_true (by first | (with_reducible assumption) | assumption)
  obtain ⟨ad137, e137, hx137_0⟩ := Kd.at_int HR0_0.out x11_1 p137 q137
  cases e137
  replace hx137_0 := (HB.out.cell (World.block_lt_of_cell? w _ hx137_0)).trans hx137_0
  replace p137 := eq_true p137
  replace q137 := eq_true q137
  have hnb27 := NB134_133.out
  have hnc27 := NB133_134.out
  have hnb28 := NB134_135.out
  have hnc28 := NB135_134.out
  have hnb29 := NB134_136.out
  have hnc29 := NB136_134.out
  have hcz30_0 : wr.cell? ⟨gb134, 0, none⟩ = some (.slice A1_0 l1_0.length c1_0) := bc_ BK134.out 0
  have hfz30_0 := blk_frozen BK134.out 0
  go_wp2_with (first | ((with_reducible refine gate_callee (f := 75) rfl ?_); refine goesL_ (some 18) rfl rfl Try.func75 (by kernel_rfl) rfl #[.slice A1_0 l1_0.length c1_0, .int .i64 (rd l0_0 x11_1)] rfl nc_ ?_; (with_reducible refine (spec_l1Has.calls k1 _ _ l1_0 (rd l0_0 x11_1) false _ ?side1 ?side2 A14.out).mono ?_); (case side1 => exact kc_ (Kd.C_below HR1_0.out HB.out)); (case side2 => exact HC1_0.out); rintro e w' ⟨rfl, ⟨nd, rfl⟩⟩; refine ⟨_, rfl, ?_⟩))
  go_roundg k1
  case measure => have := HK1.out; omega
  case rel => exact ⟨(wrap64 (x11_1 + 1)), (x137000_1), (u137000), (by first | rfl | (simp; done) | (simp [*]; done)), H', ⟨by have := HK1.out; omega⟩, ⟨by exact kr_ HO_137000.out⟩, ⟨by exact kb_ BK133.out⟩, ⟨by exact kb_ BK134.out⟩, ⟨by exact kb_ BK135.out⟩, ⟨by exact kb_ BK136.out⟩, ⟨bl_⟩⟩
 subst c15
 have H1 : (if x137000_1.length < 17592186044416 then (spec_l8Meet.l0 k1 l0_0 (l0_0.length : Int) (wrap64 (x11_1 + 1)) l1_0 (x137000_1 ++ [rd l0_0 x11_1])) else (none)) = some r := by rw [if_pos rfl] at H; exact H
 clear H
 have H := H1
 clear H1
 by_cases c16 : x137000_1.length < 17592186044416
 rotate_left
 ·rw [if_neg c16] at H
  exact absurd H (by simp)
 rw [if_pos c16] at H
 have LMc16 := Aside0.mk c16
 clear c16
 obtain ⟨y139, hy139⟩ : ∃ y_ : List Int, y_ = (x137000_1 ++ [rd l0_0 x11_1]) := ⟨_, rfl⟩
 replace H : (spec_l8Meet.l0 k1 l0_0 (l0_0.length : Int) (wrap64 (x11_1 + 1)) l1_0 y139) = some r := by first | (rw [hy139]; with_reducible exact H) | (have H2_ := (Option.bind_some _ _).symm.trans H; rw [hy139]; with_reducible exact H2_) | (have H2_ := (Option.bind_some _ _).symm.trans H; with_reducible exact H2_) | with_reducible exact H | (rw [hy139]; exact H) | exact H
 have Ny139 := Aside0.mk hy139
 clear hy139
 have H' := Aside0.mk H
 clear H
 have p137 : 0 ≤ (x11_1 : Int) := of_decide_eq_true (by first | (with_reducible assumption) | assumption)
 have q137 : x11_1 < (l0_0.length : Int) := of_decide_eq_true (by first | (with_reducible assumption) | assumption)
 obtain ⟨ad137, e137, hx137_0⟩ := Kd.at_int HR0_0.out x11_1 p137 q137
 cases e137
 replace hx137_0 := (HB.out.cell (World.block_lt_of_cell? w _ hx137_0)).trans hx137_0
 replace p137 := eq_true p137
 replace q137 := eq_true q137
 have hnb17 := NB134_133.out
 have hnc17 := NB133_134.out
 have hnb18 := NB134_135.out
 have hnc18 := NB135_134.out
 have hnb19 := NB134_136.out
 have hnc19 := NB136_134.out
 have hcz20_0 : wr.cell? ⟨gb134, 0, none⟩ = some (.slice A1_0 l1_0.length c1_0) := bc_ BK134.out 0
 have hfz20_0 := blk_frozen BK134.out 0
 go_wp2_with (first | ((with_reducible refine gate_callee (f := 75) rfl ?_); refine goesL_ (some 18) rfl rfl Try.func75 (by kernel_rfl) rfl #[.slice A1_0 l1_0.length c1_0, .int .i64 (rd l0_0 x11_1)] rfl nc_ ?_; (with_reducible refine (spec_l1Has.calls k1 _ _ l1_0 (rd l0_0 x11_1) true _ ?side1 ?side2 A14.out).mono ?_); (case side1 => exact kc_ (Kd.C_below HR1_0.out HB.out)); (case side2 => exact HC1_0.out); rintro e w' ⟨rfl, ⟨nd, rfl⟩⟩; refine ⟨_, rfl, ?_⟩; (try (rw [drewN_self wr]; generalize hq_ : World.drewN wr _ = wr; have n0_ : Aside0 (Kd.R (Kd.int .i64) 3 wr w.heap.size (fun _ => True) u137000 x137000_1) := ⟨by rw [← hq_]; exact (kr_ HO_137000.out)⟩; have n1_ : Aside0 (wr.heap[gb133]? = some (.cells #[.slice (some ad137) l0_0.length c0_0] 28 (0, 0))) := ⟨by rw [← hq_]; exact (kb_ BK133.out)⟩; have n2_ : Aside0 (wr.heap[gb134]? = some (.cells #[.slice A1_0 l1_0.length c1_0] 28 (0, 0))) := ⟨by rw [← hq_]; exact (kb_ BK134.out)⟩; have n3_ : Aside0 (wr.heap[gb135]? = some (.cells #[.slice none 0 0] 28 (0, 0))) := ⟨by rw [← hq_]; exact (kb_ BK135.out)⟩; have n4_ : Aside0 (wr.heap[gb136]? = some (.cells #[u137000] 28 (0, 0))) := ⟨by rw [← hq_]; exact (kb_ BK136.out)⟩; have n5_ : Aside0 (Below w.heap.size w wr) := ⟨by rw [← hq_]; exact bl_⟩; clear HO_137000 BK133 BK134 BK135 BK136 HB hq_; have HO_137000 := n0_; have BK133 := n1_; have BK134 := n2_; have BK135 := n3_; have BK136 := n4_; have HB := n5_; clear n0_ n1_ n2_ n3_ n4_ n5_)); have hnb21 := NB136_133.out; have hnc21 := NB133_136.out; have hnb22 := NB136_135.out; have hnc22 := NB135_136.out; have hcz23_0 : wr.cell? ⟨gb136, 0, none⟩ = some (u137000) := bc_ BK136.out 0; have hfz23_0 := blk_frozen BK136.out 0) | ((with_reducible refine gate_builtin (b := .append) (xs := #[.tmp 20, .tmp 22]) rfl ?_); at_builtin; refine Kd.R_append (Kd.int .i64) (w0 := w) w.heap.size rfl (.tmp 20) (.tmp 22) 22 3 (.int .i64 0) 8 rfl Try.underlying22 info3 rfl (by decide) (by omega) u137000 x137000_1 (rd l0_0 x11_1) [.int .i64 (rd l0_0 x11_1)] (fun _ => True) (fun _ => False) rfl rfl ?aP (fun _ hk => hk.elim) ?aF ?aO ?aB ?aS ?aL ?_; (case aP => exact rfl); (case aB => exact bl_); (case aF => exact (fun _ _ => trivial)); (case aO => exact (kr_ HO_137000.out)); (case aS => exact bz_); (case aL => have := LMc16.out; omega); intro v140 w24 ho hb hg hat; rw [← Ny139.out] at ho; replace BK133 := bgr_ BK133 hg HO_137000 BK133; replace BK134 := bgr_ BK134 hg HO_137000 BK134; replace BK135 := bgr_ BK135 hg HO_137000 BK135; replace BK136 := bgr_ BK136 hg HO_137000 BK136; replace HB := Aside0.mk (hb); have HO141 := Aside0.mk (ho); clear HO_137000 ho hb hg hat; obtain ⟨Ao25, co25, eo25⟩ := Kd.R_slice HO141.out; subst eo25; have hcz26_0 : w24.cell? ⟨gb136, 0, none⟩ = some (u137000) := bc_ BK136.out 0; have hfz26_0 := blk_frozen BK136.out 0))
 go_roundg k1
 case measure => have := HK1.out; omega
 case rel => exact ⟨(wrap64 (x11_1 + 1)), (y139), (.slice Ao25 y139.length co25), (by first | rfl | (simp; done) | (simp [*]; done)), H', ⟨by have := HK1.out; omega⟩, ⟨by exact kr_ (Kd.R_mono (Kd.R_far (p := ⟨gb136, 0, none⟩) (Kd.R_types HO141.out BK136.out (by decide)) (fun _ hk => hk.2) (.slice Ao25 y139.length co25)) (fun _ hk => trivial))⟩, ⟨kz_⟩, ⟨kz_⟩, ⟨kz_⟩, ⟨by (with_reducible repeat (first | refine blk_drewN ?_ _ | refine blk_drew ?_ | refine blk_alloc ?_ _)); refine blk_put (cs := #[u137000]) ?_ 0 _ rfl; exact kb_ BK136.out⟩, ⟨bl_⟩⟩

/-! ### spec_l1In: function 56 -/
def spec_l1In.f (a0 : Int) (a1 : Int) (a2 : Int) : Option (Bool) := if a0 ≥ a1 then (some (decide (a0 ≤ a2))) else (some false)
set_option maxHeartbeats 8000000 in
set_option maxRecDepth 100000 in
theorem spec_l1In.calls (a0 : Int) (a1 : Int) (a2 : Int) (r : Bool) (w : World) (h : spec_l1In.f a0 a1 a2 = some r) :
  Calls Try.prog 56 #[.int .i64 a0, .int .i64 a1, .int .i64 a2] w fun e w' => e = .returned (.bool r) ∧ Drawn0 w w' := by
 have H : (if a0 ≥ a1 then (some (decide (a0 ≤ a2))) else (some false)) = some r := h
 clear h
 by_cases c4 : a0 ≥ a1
 ·rw [if_pos c4] at H
  have c4b0 : decide (a1 ≤ a0) = true := decide_eq_true c4
  clear c4
  obtain rfl := Option.some.inj H
  go_enter Try.func56, Try.ntmps56
  go_wp2
  go_ret
  exact ⟨by first | rfl | (simp; done) | (simp [*]; done), by repeat (first | exact Drawn0.refl _ | apply Drawn0.step)⟩
 rw [if_neg c4] at H
 have c4b0 : decide (a1 ≤ a0) = false := decide_eq_false c4
 clear c4
 obtain rfl := Option.some.inj H
 go_enter Try.func56, Try.ntmps56
 go_wp2
 go_ret
 exact ⟨by first | rfl | (simp; done) | (simp [*]; done), by repeat (first | exact Drawn0.refl _ | apply Drawn0.step)⟩

/-! ### spec_l8Nodes: function 69 -/
def spec_l8Nodes.f (a0 : Int) : Option (Bool) := (spec_l1In.f a0 1 12).bind fun t142 => (some t142)
set_option maxHeartbeats 8000000 in
set_option maxRecDepth 100000 in
theorem spec_l8Nodes.calls (a0 : Int) (r : Bool) (w : World) (h : spec_l8Nodes.f a0 = some r) :
  Calls Try.prog 69 #[.int .i64 a0] w fun e w' => e = .returned (.bool r) ∧ Drawn0 w w' := by
 have H : ((spec_l1In.f a0 1 12).bind fun t142 => (some t142)) = some r := h
 clear h
 replace H := Option.bind_eq_some_iff.mp H
 obtain ⟨t142, A20, H⟩ := H
 replace H : (some t142) = some r := H
 have A2 := Aside0.mk A20
 clear A20
 obtain rfl := Option.some.inj H
 go_enter Try.func69, Try.ntmps69
 go_wp2_with (first | ((with_reducible refine gate_callee (f := 56) rfl ?_); refine goesL_ (some 4) rfl rfl Try.func56 (by kernel_rfl) rfl #[.int .i64 a0, .int .i64 1, .int .i64 12] rfl nc_ ?_; (with_reducible refine (spec_l1In.calls a0 1 12 t142 _ A2.out).mono ?_); rintro e w' ⟨rfl, ⟨nd, rfl⟩⟩; refine ⟨_, rfl, ?_⟩))
 go_ret
 exact ⟨by first | rfl | (simp; done) | (simp [*]; done), by repeat (first | exact Drawn0.refl _ | apply Drawn0.step)⟩

end Go.Proofs.Ythbollaceiffpaa.PMO
