/- What this text proves: the machine calls of these functions return what the plain functions say. Conditions: as each theorem says. Printed by a program of this session out of the translation. -/
import Derived.Test.YtipfikmbldgliaaPNXx0
import Derived.Test.YtipfikmbldgliaaPNXx1
namespace Go.Proofs.Ytipfikmbldgliaa.PNX
open Go.RowKit Go.Proofs.YtipfikmbldgliaaW.PrintWords Go.Proofs.YtipfikmbldgliaaW.PrintLast Go.Proofs.YtipfikmbldgliaaW.PrintMore
attribute [local go_sem] max2_int min2_int max_two min_two max_three min_three max_four min_four   -- for this text's walks alone
set_option linter.unusedVariables false
set_option linter.unusedSimpArgs false

/-! ### laws_eqParcelS: function 104 -/
def laws_eqParcelS.l0 : Nat → List (S103) → List (S103) → Int → Option (Bool)
 | 0, _, _, _ => none
 | k + 1, x0, x1, x5 => if x5 < (x0.length : Int) then (if 0 ≤ x5 then (if x5 < (x1.length : Int) then ((laws_eqParcel.f ((rd_T103 x0 x5).f0) ((rd_T103 x0 x5).f1) ((rd_T103 x1 x5).f0) ((rd_T103 x1 x5).f1)).bind fun t112 => (if t112 = true then (laws_eqParcelS.l0 k x0 x1 (wrap64 (x5 + 1))) else (some false))) else (none)) else (none)) else (some true)
def laws_eqParcelS.f (k : Nat) (l0 : List (S103)) (l1 : List (S103)) : Option (Bool) := if (l0.length : Int) = (l1.length : Int) then (laws_eqParcelS.l0 k l0 l1 0) else (some false)
theorem laws_eqParcelS.mono_l : ∀ k, (∀ y0 y1 y2, LeO (laws_eqParcelS.l0 k y0 y1 y2) (laws_eqParcelS.l0 (k + 1) y0 y1 y2))
 | 0 => fun _ _ _ r h => by simp [laws_eqParcelS.l0] at h
 | k + 1 => by
  have ih0 := laws_eqParcelS.mono_l k
  ·intro y0 y1 y2
   unfold laws_eqParcelS.l0
   repeat' first
   | (with_reducible exact ih0 _ _ _)
   | (with_reducible exact LeO.refl _)
   | (with_reducible exact LeO.none _)
   | (with_reducible refine LeO.ite ?_ ?_)
   | (with_reducible refine LeO.bind ?_ (fun _ => ?_))
   | exact ih0 _ _ _
   | exact LeO.none _
   | refine LeO.ite ?_ ?_
   | refine LeO.bind ?_ (fun _ => ?_)
theorem laws_eqParcelS.mono : ∀ a0 a1 k, LeO (laws_eqParcelS.f k a0 a1) (laws_eqParcelS.f (k + 1) a0 a1) := by
 intro a0 a1 k
 have ih0 := laws_eqParcelS.mono_l k
 unfold laws_eqParcelS.f
 repeat' first
   | (with_reducible exact ih0 _ _ _)
   | (with_reducible exact LeO.refl _)
   | (with_reducible exact LeO.none _)
   | (with_reducible refine LeO.ite ?_ ?_)
   | (with_reducible refine LeO.bind ?_ (fun _ => ?_))
   | exact ih0 _ _ _
   | exact LeO.none _
   | refine LeO.ite ?_ ?_
   | refine LeO.bind ?_ (fun _ => ?_)
def laws_eqParcelS.T6 : Bool × List (List Nat × List Nat) := (true, [([], []), ([], []), ([0, 1], [0, 1]), ([2], [2]), ([], []), ([], []), ([4, 5], [4, 5]), ([6], [6]), ([3, 7], [3, 7]), ([8], [8])])
def laws_eqParcelS.B6 : List Nat := [0, 0, 3, 7, 0, 0, 48, 112, 255, 511]
theorem laws_eqParcelS.tab6 : rtab .any (opsOf Try.f104 6) = laws_eqParcelS.T6 := by kernel_rfl
theorem laws_eqParcelS.bits6 : waitsOk laws_eqParcelS.T6.2 laws_eqParcelS.B6 = true := by kernel_rfl
set_option maxHeartbeats 8000000 in
set_option maxRecDepth 100000 in
theorem laws_eqParcelS.calls (k : Nat) (A0 : Option Addr) (c0 : Nat) (l0 : List (S103)) (A1 : Option Addr) (c1 : Nat) (l1 : List (S103)) (r : Bool) (w : World) (hr0 : Kd.C k103 w A0 l0.length l0) (hc0 : l0.length ≤ c0) (hr1 : Kd.C k103 w A1 l1.length l1) (hc1 : l1.length ≤ c1) (h : laws_eqParcelS.f k l0 l1 = some r) :
  Calls Try.prog 104 #[.slice A0 l0.length c0, .slice A1 l1.length c1] w fun e w' => e = .returned (.bool r) ∧ Below w.heap.size w w' := by
 have hu103 := Try.underlying103
 have HR0 := Aside0.mk hr0
 have HC0 := Aside0.mk hc0
 clear hr0 hc0
 have HR1 := Aside0.mk hr1
 have HC1 := Aside0.mk hc1
 clear hr1 hc1
 have HB := Aside0.mk (Below.refl w.heap.size w)
 have H : (if (l0.length : Int) = (l1.length : Int) then (laws_eqParcelS.l0 k l0 l1 0) else (some false)) = some r := h
 clear h
 by_cases c3 : (l0.length : Int) = (l1.length : Int)
 rotate_left
 ·rw [if_neg c3] at H
  have c3b0 : ((l0.length : Int) == (l1.length : Int)) = false := beq_eq_false_iff_ne.mpr c3
  have c3b1 : ((l0.length : Int) != (l1.length : Int)) = true := bne_iff_ne.mpr c3
  have c3b2 : (l0.length == l1.length) = false := by first | simpa using c3 | (simp at c3 ⊢; omega)
  obtain rfl := Option.some.inj H
  go_enter Try.func104, Try.ntmps104
  go_wp2
  go_ret
  exact ⟨ng_, bl_⟩
 rw [if_pos c3] at H
 have c3b0 : ((l0.length : Int) == (l1.length : Int)) = true := beq_iff_eq.mpr c3
 have c3b1 : ((l0.length : Int) != (l1.length : Int)) = false := bne_eq_false_iff_eq.mpr c3
 have c3b2 : (l0.length == l1.length) = true := by first | simpa using c3 | (simp at c3 ⊢; omega)
 clear c3
 have H' := Aside0.mk H
 clear H
 go_enter Try.func104, Try.ntmps104
 go_wp2
 go_loopg [5] k (fun kq v5 w' => ∃ (x5_1 : Int), v5 = .int .i64 x5_1 ∧ Aside0 (laws_eqParcelS.l0 kq l0 l1 x5_1 = some r) ∧ Aside0 (kq ≤ k) ∧ Aside0 (Below w.heap.size w w'))
 case atStart => exact ⟨(0), (by first | rfl | (simp; done) | (simp [*]; done)), H', ⟨Nat.le_refl _⟩, ⟨bl_⟩⟩
 clear H'
 try clear c1
 try clear p2
 try clear c3
 try clear c3b0
 try clear c3b1
 try clear c3b2
 obtain ⟨x5_1, rfl, HA, HK1, HB⟩ := hrel
 cases gk with
 | zero => exact absurd HA.out (by simp [laws_eqParcelS.l0])
 | succ k1 => ?_
 have H := HA.out
 clear HA
 simp only [laws_eqParcelS.l0] at H
 by_cases c4 : x5_1 < (l0.length : Int)
 rotate_left
 ·rw [if_neg c4] at H
  have c4b0 : decide (x5_1 < (l0.length : Int)) = false := decide_eq_false c4
  clear c4
  obtain rfl := Option.some.inj H
  go_wp2
  go_ret
  exact ⟨ng_, bl_⟩
 rw [if_pos c4] at H
 have c4b0 : decide (x5_1 < (l0.length : Int)) = true := decide_eq_true c4
 clear c4
 by_cases c5 : 0 ≤ x5_1
 rotate_left
 ·rw [if_neg c5] at H
  exact absurd H (by simp)
 rw [if_pos c5] at H
 have c5b0 : decide (0 ≤ x5_1) = true := decide_eq_true c5
 clear c5
 by_cases c6 : x5_1 < (l1.length : Int)
 rotate_left
 ·rw [if_neg c6] at H
  exact absurd H (by simp)
 rw [if_pos c6] at H
 have c6b0 : decide (x5_1 < (l1.length : Int)) = true := decide_eq_true c6
 clear c6
 replace H := Option.bind_eq_some_iff.mp H
 obtain ⟨t112, A70, H⟩ := H
 replace H : (if t112 = true then (laws_eqParcelS.l0 k1 l0 l1 (wrap64 (x5_1 + 1))) else (some false)) = some r := H
 have A7 := Aside0.mk A70
 clear A70
 by_cases c8 : t112 = true
 rotate_left
 ·replace c8 := Bool.eq_false_iff.mpr c8
  subst c8
  have H1 : (some false) = some r := by rw [if_neg (show ¬ (false = true) by decide)] at H; exact H
  clear H
  have H := H1
  clear H1
  obtain rfl := Option.some.inj H
  try go_wp2
  replace HB := Aside0.mk (below_drew1 HB.out)
  have p110 : 0 ≤ (x5_1 : Int) := of_decide_eq_true (by first | (with_reducible assumption) | assumption)
  have q110 : x5_1 < (l0.length : Int) := of_decide_eq_true (by first | (with_reducible assumption) | assumption)
  obtain ⟨ad110, e110, hx110_0, hx110_1⟩ := at_T103 HR0.out x5_1 p110 q110
  have hw110_1 := hx110_1
  have hw110_0 := hx110_0
  cases e110
  replace hx110_0 := (HB.out.cell (World.block_lt_of_cell? w _ hx110_0)).trans hx110_0
  replace hx110_1 := (HB.out.cell (World.block_lt_of_cell? w _ hx110_1)).trans hx110_1
  replace p110 := eq_true p110
  replace q110 := eq_true q110
  have p111 : 0 ≤ (x5_1 : Int) := of_decide_eq_true (by first | (with_reducible assumption) | assumption)
  have q111 : x5_1 < (l1.length : Int) := of_decide_eq_true (by first | (with_reducible assumption) | assumption)
  obtain ⟨ad111, e111, hx111_0, hx111_1⟩ := at_T103 HR1.out x5_1 p111 q111
  have hw111_1 := hx111_1
  have hw111_0 := hx111_0
  cases e111
  replace hx111_0 := (HB.out.cell (World.block_lt_of_cell? w _ hx111_0)).trans hx111_0
  replace hx111_1 := (HB.out.cell (World.block_lt_of_cell? w _ hx111_1)).trans hx111_1
  replace p111 := eq_true p111
  replace q111 := eq_true q111
  refine start_ (n := 10) (S := fun w' => w'.cell? (ad110.add ((x5_1).toNat * 2)) = some (.bool ((rd_T103 l0 x5_1).f0)) ∧ w'.cell? ⟨(ad110.add ((x5_1).toNat * 2)).block, (ad110.add ((x5_1).toNat * 2)).off + 1, none⟩ = some (.int .i64 ((rd_T103 l0 x5_1).f1)) ∧ w'.cell? (ad111.add ((x5_1).toNat * 2)) = some (.bool ((rd_T103 l1 x5_1).f0)) ∧ w'.cell? ⟨(ad111.add ((x5_1).toNat * 2)).block, (ad111.add ((x5_1).toNat * 2)).off + 1, none⟩ = some (.int .i64 ((rd_T103 l1 x5_1).f1))) (ds := []) #[false, false, false, false, false, false, false, false, false, false] (by kernel_rfl) rfl rfl ⟨((HB.out.cell (World.block_lt_of_cell? w _ hw110_0)).trans hw110_0), ((HB.out.cell (World.block_lt_of_cell? w _ hw110_1)).trans hw110_1), ((HB.out.cell (World.block_lt_of_cell? w _ hw111_0)).trans hw111_0), ((HB.out.cell (World.block_lt_of_cell? w _ hw111_1)).trans hw111_1)⟩ (fun hHeld => ?_); refine with_tabW laws_eqParcelS.tab6 laws_eqParcelS.bits6 (fun HT_ HW_ => ?_)
  generalize wr.drew = w11 at HB hx110_0 hx110_1 hx111_0 hx111_1 hHeld ⊢
  refine pu_ 0 (some 17) (h := ?_)
  refine pu_ 1 (some 18) (h := ?_)
  refine pu_ 2 (some 19) (h := ?_)
  refine pu_ 4 (some 21) (h := ?_)
  refine pu_ 5 (some 22) (h := ?_)
  refine pu_ 6 (some 23) (h := ?_)
  refine tk4_ 3 (some 20) (h := ?_)
  refine tk4_ 7 (some 24) (h := ?_)
  refine on_ 8 (some 25) (h := fun K hK => ?_)
  refine goes_ Try.func111 (by kernel_rfl) rfl #[.agg #[.bool ((rd_T103 l0 x5_1).f0), .int .i64 ((rd_T103 l0 x5_1).f1)], .agg #[.bool ((rd_T103 l1 x5_1).f0), .int .i64 ((rd_T103 l1 x5_1).f1)]] (by rfl) rfl rfl nc_ ?_
  with_reducible refine (laws_eqParcel.calls ((rd_T103 l0 x5_1).f0) ((rd_T103 l0 x5_1).f1) ((rd_T103 l1 x5_1).f0) ((rd_T103 l1 x5_1).f1) false _ A7.out).mono ?_
  rintro e w12 ⟨rfl, hb⟩
  refine ⟨_, rfl, ?_⟩
  replace HB := Aside0.mk (below_step bl_ hb)
  clear hb
  refine hK.out _ _ ⟨((HB.out.cell (World.block_lt_of_cell? w _ hw110_0)).trans hw110_0), ((HB.out.cell (World.block_lt_of_cell? w _ hw110_1)).trans hw110_1), ((HB.out.cell (World.block_lt_of_cell? w _ hw111_0)).trans hw111_0), ((HB.out.cell (World.block_lt_of_cell? w _ hw111_1)).trans hw111_1)⟩ (fun hHeld => ?_)
  clear hK K
  refine norm_ nn_ ?_
  refine pu_ 9 (some 26) (h := ?_)
  refine done_ (done_of HT_.out (by kernel_rfl)) ?_
  try go_wp2
  go_ret
  exact ⟨ng_, bl_⟩
 subst c8
 have H1 : (laws_eqParcelS.l0 k1 l0 l1 (wrap64 (x5_1 + 1))) = some r := by rw [if_pos rfl] at H; exact H
 clear H
 have H := H1
 clear H1
 have H' := Aside0.mk H
 clear H
 try go_wp2
 replace HB := Aside0.mk (below_drew1 HB.out)
 have p110 : 0 ≤ (x5_1 : Int) := of_decide_eq_true (by first | (with_reducible assumption) | assumption)
 have q110 : x5_1 < (l0.length : Int) := of_decide_eq_true (by first | (with_reducible assumption) | assumption)
 obtain ⟨ad110, e110, hx110_0, hx110_1⟩ := at_T103 HR0.out x5_1 p110 q110
 have hw110_1 := hx110_1
 have hw110_0 := hx110_0
 cases e110
 replace hx110_0 := (HB.out.cell (World.block_lt_of_cell? w _ hx110_0)).trans hx110_0
 replace hx110_1 := (HB.out.cell (World.block_lt_of_cell? w _ hx110_1)).trans hx110_1
 replace p110 := eq_true p110
 replace q110 := eq_true q110
 have p111 : 0 ≤ (x5_1 : Int) := of_decide_eq_true (by first | (with_reducible assumption) | assumption)
 have q111 : x5_1 < (l1.length : Int) := of_decide_eq_true (by first | (with_reducible assumption) | assumption)
 obtain ⟨ad111, e111, hx111_0, hx111_1⟩ := at_T103 HR1.out x5_1 p111 q111
 have hw111_1 := hx111_1
 have hw111_0 := hx111_0
 cases e111
 replace hx111_0 := (HB.out.cell (World.block_lt_of_cell? w _ hx111_0)).trans hx111_0
 replace hx111_1 := (HB.out.cell (World.block_lt_of_cell? w _ hx111_1)).trans hx111_1
 replace p111 := eq_true p111
 replace q111 := eq_true q111
 refine start_ (n := 10) (S := fun w' => w'.cell? (ad110.add ((x5_1).toNat * 2)) = some (.bool ((rd_T103 l0 x5_1).f0)) ∧ w'.cell? ⟨(ad110.add ((x5_1).toNat * 2)).block, (ad110.add ((x5_1).toNat * 2)).off + 1, none⟩ = some (.int .i64 ((rd_T103 l0 x5_1).f1)) ∧ w'.cell? (ad111.add ((x5_1).toNat * 2)) = some (.bool ((rd_T103 l1 x5_1).f0)) ∧ w'.cell? ⟨(ad111.add ((x5_1).toNat * 2)).block, (ad111.add ((x5_1).toNat * 2)).off + 1, none⟩ = some (.int .i64 ((rd_T103 l1 x5_1).f1))) (ds := []) #[false, false, false, false, false, false, false, false, false, false] (by kernel_rfl) rfl rfl ⟨((HB.out.cell (World.block_lt_of_cell? w _ hw110_0)).trans hw110_0), ((HB.out.cell (World.block_lt_of_cell? w _ hw110_1)).trans hw110_1), ((HB.out.cell (World.block_lt_of_cell? w _ hw111_0)).trans hw111_0), ((HB.out.cell (World.block_lt_of_cell? w _ hw111_1)).trans hw111_1)⟩ (fun hHeld => ?_); refine with_tabW laws_eqParcelS.tab6 laws_eqParcelS.bits6 (fun HT_ HW_ => ?_)
 generalize wr.drew = w9 at HB hx110_0 hx110_1 hx111_0 hx111_1 hHeld ⊢
 refine pu_ 0 (some 17) (h := ?_)
 refine pu_ 1 (some 18) (h := ?_)
 refine pu_ 2 (some 19) (h := ?_)
 refine pu_ 4 (some 21) (h := ?_)
 refine pu_ 5 (some 22) (h := ?_)
 refine pu_ 6 (some 23) (h := ?_)
 refine tk4_ 3 (some 20) (h := ?_)
 refine tk4_ 7 (some 24) (h := ?_)
 refine on_ 8 (some 25) (h := fun K hK => ?_)
 refine goes_ Try.func111 (by kernel_rfl) rfl #[.agg #[.bool ((rd_T103 l0 x5_1).f0), .int .i64 ((rd_T103 l0 x5_1).f1)], .agg #[.bool ((rd_T103 l1 x5_1).f0), .int .i64 ((rd_T103 l1 x5_1).f1)]] (by rfl) rfl rfl nc_ ?_
 with_reducible refine (laws_eqParcel.calls ((rd_T103 l0 x5_1).f0) ((rd_T103 l0 x5_1).f1) ((rd_T103 l1 x5_1).f0) ((rd_T103 l1 x5_1).f1) true _ A7.out).mono ?_
 rintro e w10 ⟨rfl, hb⟩
 refine ⟨_, rfl, ?_⟩
 replace HB := Aside0.mk (below_step bl_ hb)
 clear hb
 refine hK.out _ _ ⟨((HB.out.cell (World.block_lt_of_cell? w _ hw110_0)).trans hw110_0), ((HB.out.cell (World.block_lt_of_cell? w _ hw110_1)).trans hw110_1), ((HB.out.cell (World.block_lt_of_cell? w _ hw111_0)).trans hw111_0), ((HB.out.cell (World.block_lt_of_cell? w _ hw111_1)).trans hw111_1)⟩ (fun hHeld => ?_)
 clear hK K
 refine norm_ nn_ ?_
 refine pu_ 9 (some 26) (h := ?_)
 refine done_ (done_of HT_.out (by kernel_rfl)) ?_
 try go_wp2
 go_roundg k1
 case measure => have := HK1.out; omega
 case rel => exact ⟨(wrap64 (x5_1 + 1)), (by first | rfl | (simp; done) | (simp [*]; done)), H', ⟨by have := HK1.out; omega⟩, ⟨bl_⟩⟩

/-! ### laws_eqWay: function 91 -/
def laws_eqWay.f (k : Nat) (a0_0 : Int) (a0_1 : Int) (l0_2 : List (S103)) (a0_3 : Bool) (l0_4 : List Int) (a1_0 : Int) (a1_1 : Int) (l1_2 : List (S103)) (a1_3 : Bool) (l1_4 : List Int) : Option (Bool) := if a0_0 = a1_0 then (if a0_1 = a1_1 then ((laws_eqParcelS.f k l0_2 l1_2).bind fun t115 => (if t115 = true then (if (a0_3 != a1_3) = true then (some false) else ((laws_eqIntS.f k l0_4 l1_4).bind fun t116 => (if t116 = true then (some true) else (some false)))) else (some false))) else (some false)) else (some false)
theorem laws_eqWay.mono : ∀ a0 a1 a2 a3 a4 a5 a6 a7 a8 a9 k, LeO (laws_eqWay.f k a0 a1 a2 a3 a4 a5 a6 a7 a8 a9) (laws_eqWay.f (k + 1) a0 a1 a2 a3 a4 a5 a6 a7 a8 a9) := by
 intro a0 a1 a2 a3 a4 a5 a6 a7 a8 a9 k
 unfold laws_eqWay.f
 repeat' first
   | (with_reducible exact laws_eqIntS.mono _ _ _)
   | (with_reducible exact laws_eqParcelS.mono _ _ _)
   | (with_reducible exact LeO.refl _)
   | (with_reducible exact LeO.none _)
   | (with_reducible refine LeO.ite ?_ ?_)
   | (with_reducible refine LeO.bind ?_ (fun _ => ?_))
   | exact laws_eqIntS.mono _ _ _
   | exact laws_eqParcelS.mono _ _ _
   | exact LeO.none _
   | refine LeO.ite ?_ ?_
   | refine LeO.bind ?_ (fun _ => ?_)
set_option maxHeartbeats 8000000 in
set_option maxRecDepth 100000 in
theorem laws_eqWay.calls (k : Nat) (a0_0 : Int) (a0_1 : Int) (A0_2 : Option Addr) (c0_2 : Nat) (l0_2 : List (S103)) (a0_3 : Bool) (A0_4 : Option Addr) (c0_4 : Nat) (l0_4 : List Int) (a1_0 : Int) (a1_1 : Int) (A1_2 : Option Addr) (c1_2 : Nat) (l1_2 : List (S103)) (a1_3 : Bool) (A1_4 : Option Addr) (c1_4 : Nat) (l1_4 : List Int) (r : Bool) (w : World) (hr0_2 : Kd.C k103 w A0_2 l0_2.length l0_2) (hc0_2 : l0_2.length ≤ c0_2) (hr0_4 : Kd.C (Kd.int .i64) w A0_4 l0_4.length l0_4) (hc0_4 : l0_4.length ≤ c0_4) (hr1_2 : Kd.C k103 w A1_2 l1_2.length l1_2) (hc1_2 : l1_2.length ≤ c1_2) (hr1_4 : Kd.C (Kd.int .i64) w A1_4 l1_4.length l1_4) (hc1_4 : l1_4.length ≤ c1_4) (h : laws_eqWay.f k a0_0 a0_1 l0_2 a0_3 l0_4 a1_0 a1_1 l1_2 a1_3 l1_4 = some r) :
  Calls Try.prog 91 #[.agg #[.int .i64 a0_0, .int .i64 a0_1, .slice A0_2 l0_2.length c0_2, .bool a0_3, .slice A0_4 l0_4.length c0_4], .agg #[.int .i64 a1_0, .int .i64 a1_1, .slice A1_2 l1_2.length c1_2, .bool a1_3, .slice A1_4 l1_4.length c1_4]] w fun e w' => e = .returned (.bool r) ∧ Below w.heap.size w w' := by
 have hu95 := Try.underlying95
 have HR0_2 := Aside0.mk hr0_2
 have HC0_2 := Aside0.mk hc0_2
 clear hr0_2 hc0_2
 have HR0_4 := Aside0.mk hr0_4
 have HC0_4 := Aside0.mk hc0_4
 clear hr0_4 hc0_4
 have HR1_2 := Aside0.mk hr1_2
 have HC1_2 := Aside0.mk hc1_2
 clear hr1_2 hc1_2
 have HR1_4 := Aside0.mk hr1_4
 have HC1_4 := Aside0.mk hc1_4
 clear hr1_4 hc1_4
 have HB := Aside0.mk (Below.refl w.heap.size w)
 have H : (if a0_0 = a1_0 then (if a0_1 = a1_1 then ((laws_eqParcelS.f k l0_2 l1_2).bind fun t115 => (if t115 = true then (if (a0_3 != a1_3) = true then (some false) else ((laws_eqIntS.f k l0_4 l1_4).bind fun t116 => (if t116 = true then (some true) else (some false)))) else (some false))) else (some false)) else (some false)) = some r := h
 clear h
 by_cases c3 : a0_0 = a1_0
 rotate_left
 ·rw [if_neg c3] at H
  have c3b0 : (a0_0 == a1_0) = false := beq_eq_false_iff_ne.mpr c3
  have c3b1 : (a0_0 != a1_0) = true := bne_iff_ne.mpr c3
  obtain rfl := Option.some.inj H
  go_enter Try.func91, Try.ntmps91
  go_wp2_with (first | ((with_reducible refine gate_dst (N := 2) rfl ?_); refine box_event rfl (N := 2) rfl (cs := #[.int .i64 a0_0, .int .i64 a0_1, .slice A0_2 l0_2.length c0_2, .bool a0_3, .slice A0_4 l0_4.length c0_4]) (t := 95) gs_ ?_; intro gb113 hg w45 hbox hb; have BK113 := Aside0.mk (hbox); have GW113 := Aside0.mk ((by rw [hg]; exact bz_ : w.heap.size ≤ gb113)); have GE113 := GW113; replace HB := Aside0.mk (below_step bl_ hb); clear hb hbox hg) | ((with_reducible refine gate_dst (N := 3) rfl ?_); refine box_event rfl (N := 3) rfl (cs := #[.int .i64 a1_0, .int .i64 a1_1, .slice A1_2 l1_2.length c1_2, .bool a1_3, .slice A1_4 l1_4.length c1_4]) (t := 95) gs_ ?_; intro gb114 hg w46 hbox hb; have BK114 := Aside0.mk (hbox); have GW114 := Aside0.mk ((by rw [hg]; exact bz_ : w.heap.size ≤ gb114)); have GE114 := GW114; replace HB := Aside0.mk (below_step bl_ hb); have NB113_114 := nl_ hg BK113; have NB114_113 := nm_ hg BK113; replace BK113 := bb_ BK113 hb; clear hb hbox hg; have hnb47 := NB113_114.out; have hnc47 := NB114_113.out; have hcz48_0 : w46.cell? ⟨gb113, 0, none⟩ = some (.int .i64 a0_0) := bc_ BK113.out 0; have hcz48_1 : w46.cell? ⟨gb113, 1, none⟩ = some (.int .i64 a0_1) := bc_ BK113.out 1; have hcz48_2 : w46.cell? ⟨gb113, 2, none⟩ = some (.slice A0_2 l0_2.length c0_2) := bc_ BK113.out 2; have hcz48_3 : w46.cell? ⟨gb113, 3, none⟩ = some (.bool a0_3) := bc_ BK113.out 3; have hcz48_4 : w46.cell? ⟨gb113, 4, none⟩ = some (.slice A0_4 l0_4.length c0_4) := bc_ BK113.out 4; have hfz48_0 := blk_frozen BK113.out 0; have hfz48_1 := blk_frozen BK113.out 1; have hfz48_2 := blk_frozen BK113.out 2; have hfz48_3 := blk_frozen BK113.out 3; have hfz48_4 := blk_frozen BK113.out 4; have hcz49_0 : w46.cell? ⟨gb114, 0, none⟩ = some (.int .i64 a1_0) := bc_ BK114.out 0; have hcz49_1 : w46.cell? ⟨gb114, 1, none⟩ = some (.int .i64 a1_1) := bc_ BK114.out 1; have hcz49_2 : w46.cell? ⟨gb114, 2, none⟩ = some (.slice A1_2 l1_2.length c1_2) := bc_ BK114.out 2; have hcz49_3 : w46.cell? ⟨gb114, 3, none⟩ = some (.bool a1_3) := bc_ BK114.out 3; have hcz49_4 : w46.cell? ⟨gb114, 4, none⟩ = some (.slice A1_4 l1_4.length c1_4) := bc_ BK114.out 4; have hfz49_0 := blk_frozen BK114.out 0; have hfz49_1 := blk_frozen BK114.out 1; have hfz49_2 := blk_frozen BK114.out 2; have hfz49_3 := blk_frozen BK114.out 3; have hfz49_4 := blk_frozen BK114.out 4))
  go_ret
  exact ⟨ng_, bl_⟩
 rw [if_pos c3] at H
 have c3b0 : (a0_0 == a1_0) = true := beq_iff_eq.mpr c3
 have c3b1 : (a0_0 != a1_0) = false := bne_eq_false_iff_eq.mpr c3
 clear c3
 by_cases c4 : a0_1 = a1_1
 rotate_left
 ·rw [if_neg c4] at H
  have c4b0 : (a0_1 == a1_1) = false := beq_eq_false_iff_ne.mpr c4
  have c4b1 : (a0_1 != a1_1) = true := bne_iff_ne.mpr c4
  obtain rfl := Option.some.inj H
  go_enter Try.func91, Try.ntmps91
  go_wp2_with (first | ((with_reducible refine gate_dst (N := 2) rfl ?_); refine box_event rfl (N := 2) rfl (cs := #[.int .i64 a0_0, .int .i64 a0_1, .slice A0_2 l0_2.length c0_2, .bool a0_3, .slice A0_4 l0_4.length c0_4]) (t := 95) gs_ ?_; intro gb113 hg w40 hbox hb; have BK113 := Aside0.mk (hbox); have GW113 := Aside0.mk ((by rw [hg]; exact bz_ : w.heap.size ≤ gb113)); have GE113 := GW113; replace HB := Aside0.mk (below_step bl_ hb); clear hb hbox hg) | ((with_reducible refine gate_dst (N := 3) rfl ?_); refine box_event rfl (N := 3) rfl (cs := #[.int .i64 a1_0, .int .i64 a1_1, .slice A1_2 l1_2.length c1_2, .bool a1_3, .slice A1_4 l1_4.length c1_4]) (t := 95) gs_ ?_; intro gb114 hg w41 hbox hb; have BK114 := Aside0.mk (hbox); have GW114 := Aside0.mk ((by rw [hg]; exact bz_ : w.heap.size ≤ gb114)); have GE114 := GW114; replace HB := Aside0.mk (below_step bl_ hb); have NB113_114 := nl_ hg BK113; have NB114_113 := nm_ hg BK113; replace BK113 := bb_ BK113 hb; clear hb hbox hg; have hnb42 := NB113_114.out; have hnc42 := NB114_113.out; have hcz43_0 : w41.cell? ⟨gb113, 0, none⟩ = some (.int .i64 a0_0) := bc_ BK113.out 0; have hcz43_1 : w41.cell? ⟨gb113, 1, none⟩ = some (.int .i64 a0_1) := bc_ BK113.out 1; have hcz43_2 : w41.cell? ⟨gb113, 2, none⟩ = some (.slice A0_2 l0_2.length c0_2) := bc_ BK113.out 2; have hcz43_3 : w41.cell? ⟨gb113, 3, none⟩ = some (.bool a0_3) := bc_ BK113.out 3; have hcz43_4 : w41.cell? ⟨gb113, 4, none⟩ = some (.slice A0_4 l0_4.length c0_4) := bc_ BK113.out 4; have hfz43_0 := blk_frozen BK113.out 0; have hfz43_1 := blk_frozen BK113.out 1; have hfz43_2 := blk_frozen BK113.out 2; have hfz43_3 := blk_frozen BK113.out 3; have hfz43_4 := blk_frozen BK113.out 4; have hcz44_0 : w41.cell? ⟨gb114, 0, none⟩ = some (.int .i64 a1_0) := bc_ BK114.out 0; have hcz44_1 : w41.cell? ⟨gb114, 1, none⟩ = some (.int .i64 a1_1) := bc_ BK114.out 1; have hcz44_2 : w41.cell? ⟨gb114, 2, none⟩ = some (.slice A1_2 l1_2.length c1_2) := bc_ BK114.out 2; have hcz44_3 : w41.cell? ⟨gb114, 3, none⟩ = some (.bool a1_3) := bc_ BK114.out 3; have hcz44_4 : w41.cell? ⟨gb114, 4, none⟩ = some (.slice A1_4 l1_4.length c1_4) := bc_ BK114.out 4; have hfz44_0 := blk_frozen BK114.out 0; have hfz44_1 := blk_frozen BK114.out 1; have hfz44_2 := blk_frozen BK114.out 2; have hfz44_3 := blk_frozen BK114.out 3; have hfz44_4 := blk_frozen BK114.out 4))
  go_ret
  exact ⟨ng_, bl_⟩
 rw [if_pos c4] at H
 have c4b0 : (a0_1 == a1_1) = true := beq_iff_eq.mpr c4
 have c4b1 : (a0_1 != a1_1) = false := bne_eq_false_iff_eq.mpr c4
 clear c4
 replace H := Option.bind_eq_some_iff.mp H
 obtain ⟨t115, A50, H⟩ := H
 replace H : (if t115 = true then (if (a0_3 != a1_3) = true then (some false) else ((laws_eqIntS.f k l0_4 l1_4).bind fun t116 => (if t116 = true then (some true) else (some false)))) else (some false)) = some r := H
 have A5 := Aside0.mk A50
 clear A50
 by_cases c6 : t115 = true
 rotate_left
 ·replace c6 := Bool.eq_false_iff.mpr c6
  subst c6
  have H1 : (some false) = some r := by rw [if_neg (show ¬ (false = true) by decide)] at H; exact H
  clear H
  have H := H1
  clear H1
  obtain rfl := Option.some.inj H
  go_enter Try.func91, Try.ntmps91
  go_wp2_with (first | ((with_reducible refine gate_dst (N := 2) rfl ?_); refine box_event rfl (N := 2) rfl (cs := #[.int .i64 a0_0, .int .i64 a0_1, .slice A0_2 l0_2.length c0_2, .bool a0_3, .slice A0_4 l0_4.length c0_4]) (t := 95) gs_ ?_; intro gb113 hg w34 hbox hb; have BK113 := Aside0.mk (hbox); have GW113 := Aside0.mk ((by rw [hg]; exact bz_ : w.heap.size ≤ gb113)); have GE113 := GW113; replace HB := Aside0.mk (below_step bl_ hb); clear hb hbox hg) | ((with_reducible refine gate_dst (N := 3) rfl ?_); refine box_event rfl (N := 3) rfl (cs := #[.int .i64 a1_0, .int .i64 a1_1, .slice A1_2 l1_2.length c1_2, .bool a1_3, .slice A1_4 l1_4.length c1_4]) (t := 95) gs_ ?_; intro gb114 hg w35 hbox hb; have BK114 := Aside0.mk (hbox); have GW114 := Aside0.mk ((by rw [hg]; exact bz_ : w.heap.size ≤ gb114)); have GE114 := GW114; replace HB := Aside0.mk (below_step bl_ hb); have NB113_114 := nl_ hg BK113; have NB114_113 := nm_ hg BK113; replace BK113 := bb_ BK113 hb; clear hb hbox hg; have hnb36 := NB113_114.out; have hnc36 := NB114_113.out; have hcz37_0 : w35.cell? ⟨gb113, 0, none⟩ = some (.int .i64 a0_0) := bc_ BK113.out 0; have hcz37_1 : w35.cell? ⟨gb113, 1, none⟩ = some (.int .i64 a0_1) := bc_ BK113.out 1; have hcz37_2 : w35.cell? ⟨gb113, 2, none⟩ = some (.slice A0_2 l0_2.length c0_2) := bc_ BK113.out 2; have hcz37_3 : w35.cell? ⟨gb113, 3, none⟩ = some (.bool a0_3) := bc_ BK113.out 3; have hcz37_4 : w35.cell? ⟨gb113, 4, none⟩ = some (.slice A0_4 l0_4.length c0_4) := bc_ BK113.out 4; have hfz37_0 := blk_frozen BK113.out 0; have hfz37_1 := blk_frozen BK113.out 1; have hfz37_2 := blk_frozen BK113.out 2; have hfz37_3 := blk_frozen BK113.out 3; have hfz37_4 := blk_frozen BK113.out 4; have hcz38_0 : w35.cell? ⟨gb114, 0, none⟩ = some (.int .i64 a1_0) := bc_ BK114.out 0; have hcz38_1 : w35.cell? ⟨gb114, 1, none⟩ = some (.int .i64 a1_1) := bc_ BK114.out 1; have hcz38_2 : w35.cell? ⟨gb114, 2, none⟩ = some (.slice A1_2 l1_2.length c1_2) := bc_ BK114.out 2; have hcz38_3 : w35.cell? ⟨gb114, 3, none⟩ = some (.bool a1_3) := bc_ BK114.out 3; have hcz38_4 : w35.cell? ⟨gb114, 4, none⟩ = some (.slice A1_4 l1_4.length c1_4) := bc_ BK114.out 4; have hfz38_0 := blk_frozen BK114.out 0; have hfz38_1 := blk_frozen BK114.out 1; have hfz38_2 := blk_frozen BK114.out 2; have hfz38_3 := blk_frozen BK114.out 3; have hfz38_4 := blk_frozen BK114.out 4) | ((with_reducible refine gate_callee (f := 104) rfl ?_); refine goesL_ (some 19) rfl rfl Try.func104 (by kernel_rfl) rfl #[.slice A0_2 l0_2.length c0_2, .slice A1_2 l1_2.length c1_2] rfl nc_ ?_; (with_reducible refine (laws_eqParcelS.calls k _ _ l0_2 _ _ l1_2 false _ ?side1 ?side2 ?side3 ?side4 A5.out).mono ?_); (case side1 => exact kc_ (Kd.C_below HR0_2.out HB.out)); (case side2 => exact HC0_2.out); (case side3 => exact kc_ (Kd.C_below HR1_2.out HB.out)); (case side4 => exact HC1_2.out); rintro e w39 ⟨rfl, hb⟩; refine ⟨_, rfl, ?_⟩; replace BK113 := bb_ BK113 hb; replace BK114 := bb_ BK114 hb; replace HB := Aside0.mk (below_step bl_ hb); clear hb))
  go_ret
  exact ⟨ng_, bl_⟩
 subst c6
 have H1 : (if (a0_3 != a1_3) = true then (some false) else ((laws_eqIntS.f k l0_4 l1_4).bind fun t116 => (if t116 = true then (some true) else (some false)))) = some r := by rw [if_pos rfl] at H; exact H
 clear H
 have H := H1
 clear H1
 by_cases c7 : (a0_3 != a1_3) = true
 ·rw [if_pos c7] at H
  have c7b0 : (a0_3 != a1_3) = true := c7
  (try (have c7b1 : decide (a0_3 = a1_3) = false := by simpa using c7))
  (try (have c7b2 : (a0_3 == a1_3) = false := by simpa using c7))
  (try (have c7b3 : ¬ (a0_3 = a1_3) := by simpa using c7))
  clear c7
  obtain rfl := Option.some.inj H
  go_enter Try.func91, Try.ntmps91
  go_wp2_with (first | ((with_reducible refine gate_dst (N := 2) rfl ?_); refine box_event rfl (N := 2) rfl (cs := #[.int .i64 a0_0, .int .i64 a0_1, .slice A0_2 l0_2.length c0_2, .bool a0_3, .slice A0_4 l0_4.length c0_4]) (t := 95) gs_ ?_; intro gb113 hg w8 hbox hb; have BK113 := Aside0.mk (hbox); have GW113 := Aside0.mk ((by rw [hg]; exact bz_ : w.heap.size ≤ gb113)); have GE113 := GW113; replace HB := Aside0.mk (below_step bl_ hb); clear hb hbox hg) | ((with_reducible refine gate_dst (N := 3) rfl ?_); refine box_event rfl (N := 3) rfl (cs := #[.int .i64 a1_0, .int .i64 a1_1, .slice A1_2 l1_2.length c1_2, .bool a1_3, .slice A1_4 l1_4.length c1_4]) (t := 95) gs_ ?_; intro gb114 hg w9 hbox hb; have BK114 := Aside0.mk (hbox); have GW114 := Aside0.mk ((by rw [hg]; exact bz_ : w.heap.size ≤ gb114)); have GE114 := GW114; replace HB := Aside0.mk (below_step bl_ hb); have NB113_114 := nl_ hg BK113; have NB114_113 := nm_ hg BK113; replace BK113 := bb_ BK113 hb; clear hb hbox hg; have hnb10 := NB113_114.out; have hnc10 := NB114_113.out; have hcz11_0 : w9.cell? ⟨gb113, 0, none⟩ = some (.int .i64 a0_0) := bc_ BK113.out 0; have hcz11_1 : w9.cell? ⟨gb113, 1, none⟩ = some (.int .i64 a0_1) := bc_ BK113.out 1; have hcz11_2 : w9.cell? ⟨gb113, 2, none⟩ = some (.slice A0_2 l0_2.length c0_2) := bc_ BK113.out 2; have hcz11_3 : w9.cell? ⟨gb113, 3, none⟩ = some (.bool a0_3) := bc_ BK113.out 3; have hcz11_4 : w9.cell? ⟨gb113, 4, none⟩ = some (.slice A0_4 l0_4.length c0_4) := bc_ BK113.out 4; have hfz11_0 := blk_frozen BK113.out 0; have hfz11_1 := blk_frozen BK113.out 1; have hfz11_2 := blk_frozen BK113.out 2; have hfz11_3 := blk_frozen BK113.out 3; have hfz11_4 := blk_frozen BK113.out 4; have hcz12_0 : w9.cell? ⟨gb114, 0, none⟩ = some (.int .i64 a1_0) := bc_ BK114.out 0; have hcz12_1 : w9.cell? ⟨gb114, 1, none⟩ = some (.int .i64 a1_1) := bc_ BK114.out 1; have hcz12_2 : w9.cell? ⟨gb114, 2, none⟩ = some (.slice A1_2 l1_2.length c1_2) := bc_ BK114.out 2; have hcz12_3 : w9.cell? ⟨gb114, 3, none⟩ = some (.bool a1_3) := bc_ BK114.out 3; have hcz12_4 : w9.cell? ⟨gb114, 4, none⟩ = some (.slice A1_4 l1_4.length c1_4) := bc_ BK114.out 4; have hfz12_0 := blk_frozen BK114.out 0; have hfz12_1 := blk_frozen BK114.out 1; have hfz12_2 := blk_frozen BK114.out 2; have hfz12_3 := blk_frozen BK114.out 3; have hfz12_4 := blk_frozen BK114.out 4) | ((with_reducible refine gate_callee (f := 104) rfl ?_); refine goesL_ (some 19) rfl rfl Try.func104 (by kernel_rfl) rfl #[.slice A0_2 l0_2.length c0_2, .slice A1_2 l1_2.length c1_2] rfl nc_ ?_; (with_reducible refine (laws_eqParcelS.calls k _ _ l0_2 _ _ l1_2 true _ ?side1 ?side2 ?side3 ?side4 A5.out).mono ?_); (case side1 => exact kc_ (Kd.C_below HR0_2.out HB.out)); (case side2 => exact HC0_2.out); (case side3 => exact kc_ (Kd.C_below HR1_2.out HB.out)); (case side4 => exact HC1_2.out); rintro e w13 ⟨rfl, hb⟩; refine ⟨_, rfl, ?_⟩; replace BK113 := bb_ BK113 hb; replace BK114 := bb_ BK114 hb; replace HB := Aside0.mk (below_step bl_ hb); clear hb; have hcz14_0 : w13.cell? ⟨gb113, 0, none⟩ = some (.int .i64 a0_0) := bc_ BK113.out 0; have hcz14_1 : w13.cell? ⟨gb113, 1, none⟩ = some (.int .i64 a0_1) := bc_ BK113.out 1; have hcz14_2 : w13.cell? ⟨gb113, 2, none⟩ = some (.slice A0_2 l0_2.length c0_2) := bc_ BK113.out 2; have hcz14_3 : w13.cell? ⟨gb113, 3, none⟩ = some (.bool a0_3) := bc_ BK113.out 3; have hcz14_4 : w13.cell? ⟨gb113, 4, none⟩ = some (.slice A0_4 l0_4.length c0_4) := bc_ BK113.out 4; have hfz14_0 := blk_frozen BK113.out 0; have hfz14_1 := blk_frozen BK113.out 1; have hfz14_2 := blk_frozen BK113.out 2; have hfz14_3 := blk_frozen BK113.out 3; have hfz14_4 := blk_frozen BK113.out 4; have hcz15_0 : w13.cell? ⟨gb114, 0, none⟩ = some (.int .i64 a1_0) := bc_ BK114.out 0; have hcz15_1 : w13.cell? ⟨gb114, 1, none⟩ = some (.int .i64 a1_1) := bc_ BK114.out 1; have hcz15_2 : w13.cell? ⟨gb114, 2, none⟩ = some (.slice A1_2 l1_2.length c1_2) := bc_ BK114.out 2; have hcz15_3 : w13.cell? ⟨gb114, 3, none⟩ = some (.bool a1_3) := bc_ BK114.out 3; have hcz15_4 : w13.cell? ⟨gb114, 4, none⟩ = some (.slice A1_4 l1_4.length c1_4) := bc_ BK114.out 4; have hfz15_0 := blk_frozen BK114.out 0; have hfz15_1 := blk_frozen BK114.out 1; have hfz15_2 := blk_frozen BK114.out 2; have hfz15_3 := blk_frozen BK114.out 3; have hfz15_4 := blk_frozen BK114.out 4))
  go_ret
  exact ⟨ng_, bl_⟩
 rw [if_neg c7] at H
 have c7b0 : (a0_3 != a1_3) = false := by simpa using c7
 (try (have c7b1 : decide (a0_3 = a1_3) = true := by simpa using c7))
 (try (have c7b2 : (a0_3 == a1_3) = true := by simpa using c7))
 clear c7
 replace H := Option.bind_eq_some_iff.mp H
 obtain ⟨t116, A160, H⟩ := H
 replace H : (if t116 = true then (some true) else (some false)) = some r := H
 have A16 := Aside0.mk A160
 clear A160
 by_cases c17 : t116 = true
 ·subst c17
  have H1 : (some true) = some r := by rw [if_pos rfl] at H; exact H
  clear H
  have H := H1
  clear H1
  obtain rfl := Option.some.inj H
  go_enter Try.func91, Try.ntmps91
  go_wp2_with (first | ((with_reducible refine gate_dst (N := 2) rfl ?_); refine box_event rfl (N := 2) rfl (cs := #[.int .i64 a0_0, .int .i64 a0_1, .slice A0_2 l0_2.length c0_2, .bool a0_3, .slice A0_4 l0_4.length c0_4]) (t := 95) gs_ ?_; intro gb113 hg w18 hbox hb; have BK113 := Aside0.mk (hbox); have GW113 := Aside0.mk ((by rw [hg]; exact bz_ : w.heap.size ≤ gb113)); have GE113 := GW113; replace HB := Aside0.mk (below_step bl_ hb); clear hb hbox hg) | ((with_reducible refine gate_dst (N := 3) rfl ?_); refine box_event rfl (N := 3) rfl (cs := #[.int .i64 a1_0, .int .i64 a1_1, .slice A1_2 l1_2.length c1_2, .bool a1_3, .slice A1_4 l1_4.length c1_4]) (t := 95) gs_ ?_; intro gb114 hg w19 hbox hb; have BK114 := Aside0.mk (hbox); have GW114 := Aside0.mk ((by rw [hg]; exact bz_ : w.heap.size ≤ gb114)); have GE114 := GW114; replace HB := Aside0.mk (below_step bl_ hb); have NB113_114 := nl_ hg BK113; have NB114_113 := nm_ hg BK113; replace BK113 := bb_ BK113 hb; clear hb hbox hg; have hnb20 := NB113_114.out; have hnc20 := NB114_113.out; have hcz21_0 : w19.cell? ⟨gb113, 0, none⟩ = some (.int .i64 a0_0) := bc_ BK113.out 0; have hcz21_1 : w19.cell? ⟨gb113, 1, none⟩ = some (.int .i64 a0_1) := bc_ BK113.out 1; have hcz21_2 : w19.cell? ⟨gb113, 2, none⟩ = some (.slice A0_2 l0_2.length c0_2) := bc_ BK113.out 2; have hcz21_3 : w19.cell? ⟨gb113, 3, none⟩ = some (.bool a0_3) := bc_ BK113.out 3; have hcz21_4 : w19.cell? ⟨gb113, 4, none⟩ = some (.slice A0_4 l0_4.length c0_4) := bc_ BK113.out 4; have hfz21_0 := blk_frozen BK113.out 0; have hfz21_1 := blk_frozen BK113.out 1; have hfz21_2 := blk_frozen BK113.out 2; have hfz21_3 := blk_frozen BK113.out 3; have hfz21_4 := blk_frozen BK113.out 4; have hcz22_0 : w19.cell? ⟨gb114, 0, none⟩ = some (.int .i64 a1_0) := bc_ BK114.out 0; have hcz22_1 : w19.cell? ⟨gb114, 1, none⟩ = some (.int .i64 a1_1) := bc_ BK114.out 1; have hcz22_2 : w19.cell? ⟨gb114, 2, none⟩ = some (.slice A1_2 l1_2.length c1_2) := bc_ BK114.out 2; have hcz22_3 : w19.cell? ⟨gb114, 3, none⟩ = some (.bool a1_3) := bc_ BK114.out 3; have hcz22_4 : w19.cell? ⟨gb114, 4, none⟩ = some (.slice A1_4 l1_4.length c1_4) := bc_ BK114.out 4; have hfz22_0 := blk_frozen BK114.out 0; have hfz22_1 := blk_frozen BK114.out 1; have hfz22_2 := blk_frozen BK114.out 2; have hfz22_3 := blk_frozen BK114.out 3; have hfz22_4 := blk_frozen BK114.out 4) | ((with_reducible refine gate_callee (f := 104) rfl ?_); refine goesL_ (some 19) rfl rfl Try.func104 (by kernel_rfl) rfl #[.slice A0_2 l0_2.length c0_2, .slice A1_2 l1_2.length c1_2] rfl nc_ ?_; (with_reducible refine (laws_eqParcelS.calls k _ _ l0_2 _ _ l1_2 true _ ?side1 ?side2 ?side3 ?side4 A5.out).mono ?_); (case side1 => exact kc_ (Kd.C_below HR0_2.out HB.out)); (case side2 => exact HC0_2.out); (case side3 => exact kc_ (Kd.C_below HR1_2.out HB.out)); (case side4 => exact HC1_2.out); rintro e w23 ⟨rfl, hb⟩; refine ⟨_, rfl, ?_⟩; replace BK113 := bb_ BK113 hb; replace BK114 := bb_ BK114 hb; replace HB := Aside0.mk (below_step bl_ hb); clear hb; have hcz24_0 : w23.cell? ⟨gb113, 0, none⟩ = some (.int .i64 a0_0) := bc_ BK113.out 0; have hcz24_1 : w23.cell? ⟨gb113, 1, none⟩ = some (.int .i64 a0_1) := bc_ BK113.out 1; have hcz24_2 : w23.cell? ⟨gb113, 2, none⟩ = some (.slice A0_2 l0_2.length c0_2) := bc_ BK113.out 2; have hcz24_3 : w23.cell? ⟨gb113, 3, none⟩ = some (.bool a0_3) := bc_ BK113.out 3; have hcz24_4 : w23.cell? ⟨gb113, 4, none⟩ = some (.slice A0_4 l0_4.length c0_4) := bc_ BK113.out 4; have hfz24_0 := blk_frozen BK113.out 0; have hfz24_1 := blk_frozen BK113.out 1; have hfz24_2 := blk_frozen BK113.out 2; have hfz24_3 := blk_frozen BK113.out 3; have hfz24_4 := blk_frozen BK113.out 4; have hcz25_0 : w23.cell? ⟨gb114, 0, none⟩ = some (.int .i64 a1_0) := bc_ BK114.out 0; have hcz25_1 : w23.cell? ⟨gb114, 1, none⟩ = some (.int .i64 a1_1) := bc_ BK114.out 1; have hcz25_2 : w23.cell? ⟨gb114, 2, none⟩ = some (.slice A1_2 l1_2.length c1_2) := bc_ BK114.out 2; have hcz25_3 : w23.cell? ⟨gb114, 3, none⟩ = some (.bool a1_3) := bc_ BK114.out 3; have hcz25_4 : w23.cell? ⟨gb114, 4, none⟩ = some (.slice A1_4 l1_4.length c1_4) := bc_ BK114.out 4; have hfz25_0 := blk_frozen BK114.out 0; have hfz25_1 := blk_frozen BK114.out 1; have hfz25_2 := blk_frozen BK114.out 2; have hfz25_3 := blk_frozen BK114.out 3; have hfz25_4 := blk_frozen BK114.out 4) | ((with_reducible refine gate_callee (f := 32) rfl ?_); refine goesL_ (some 30) rfl rfl Try.func32 (by kernel_rfl) rfl #[.slice A0_4 l0_4.length c0_4, .slice A1_4 l1_4.length c1_4] rfl nc_ ?_; (with_reducible refine (laws_eqIntS.calls k _ _ l0_4 _ _ l1_4 true _ ?side1 ?side2 ?side3 ?side4 A16.out).mono ?_); (case side1 => exact kc_ (Kd.C_below HR0_4.out HB.out)); (case side2 => exact HC0_4.out); (case side3 => exact kc_ (Kd.C_below HR1_4.out HB.out)); (case side4 => exact HC1_4.out); rintro e w' ⟨rfl, ⟨nd, rfl⟩⟩; refine ⟨_, rfl, ?_⟩))
  go_ret
  exact ⟨ng_, bl_⟩
 replace c17 := Bool.eq_false_iff.mpr c17
 subst c17
 have H1 : (some false) = some r := by rw [if_neg (show ¬ (false = true) by decide)] at H; exact H
 clear H
 have H := H1
 clear H1
 obtain rfl := Option.some.inj H
 go_enter Try.func91, Try.ntmps91
 go_wp2_with (first | ((with_reducible refine gate_dst (N := 2) rfl ?_); refine box_event rfl (N := 2) rfl (cs := #[.int .i64 a0_0, .int .i64 a0_1, .slice A0_2 l0_2.length c0_2, .bool a0_3, .slice A0_4 l0_4.length c0_4]) (t := 95) gs_ ?_; intro gb113 hg w26 hbox hb; have BK113 := Aside0.mk (hbox); have GW113 := Aside0.mk ((by rw [hg]; exact bz_ : w.heap.size ≤ gb113)); have GE113 := GW113; replace HB := Aside0.mk (below_step bl_ hb); clear hb hbox hg) | ((with_reducible refine gate_dst (N := 3) rfl ?_); refine box_event rfl (N := 3) rfl (cs := #[.int .i64 a1_0, .int .i64 a1_1, .slice A1_2 l1_2.length c1_2, .bool a1_3, .slice A1_4 l1_4.length c1_4]) (t := 95) gs_ ?_; intro gb114 hg w27 hbox hb; have BK114 := Aside0.mk (hbox); have GW114 := Aside0.mk ((by rw [hg]; exact bz_ : w.heap.size ≤ gb114)); have GE114 := GW114; replace HB := Aside0.mk (below_step bl_ hb); have NB113_114 := nl_ hg BK113; have NB114_113 := nm_ hg BK113; replace BK113 := bb_ BK113 hb; clear hb hbox hg; have hnb28 := NB113_114.out; have hnc28 := NB114_113.out; have hcz29_0 : w27.cell? ⟨gb113, 0, none⟩ = some (.int .i64 a0_0) := bc_ BK113.out 0; have hcz29_1 : w27.cell? ⟨gb113, 1, none⟩ = some (.int .i64 a0_1) := bc_ BK113.out 1; have hcz29_2 : w27.cell? ⟨gb113, 2, none⟩ = some (.slice A0_2 l0_2.length c0_2) := bc_ BK113.out 2; have hcz29_3 : w27.cell? ⟨gb113, 3, none⟩ = some (.bool a0_3) := bc_ BK113.out 3; have hcz29_4 : w27.cell? ⟨gb113, 4, none⟩ = some (.slice A0_4 l0_4.length c0_4) := bc_ BK113.out 4; have hfz29_0 := blk_frozen BK113.out 0; have hfz29_1 := blk_frozen BK113.out 1; have hfz29_2 := blk_frozen BK113.out 2; have hfz29_3 := blk_frozen BK113.out 3; have hfz29_4 := blk_frozen BK113.out 4; have hcz30_0 : w27.cell? ⟨gb114, 0, none⟩ = some (.int .i64 a1_0) := bc_ BK114.out 0; have hcz30_1 : w27.cell? ⟨gb114, 1, none⟩ = some (.int .i64 a1_1) := bc_ BK114.out 1; have hcz30_2 : w27.cell? ⟨gb114, 2, none⟩ = some (.slice A1_2 l1_2.length c1_2) := bc_ BK114.out 2; have hcz30_3 : w27.cell? ⟨gb114, 3, none⟩ = some (.bool a1_3) := bc_ BK114.out 3; have hcz30_4 : w27.cell? ⟨gb114, 4, none⟩ = some (.slice A1_4 l1_4.length c1_4) := bc_ BK114.out 4; have hfz30_0 := blk_frozen BK114.out 0; have hfz30_1 := blk_frozen BK114.out 1; have hfz30_2 := blk_frozen BK114.out 2; have hfz30_3 := blk_frozen BK114.out 3; have hfz30_4 := blk_frozen BK114.out 4) | ((with_reducible refine gate_callee (f := 104) rfl ?_); refine goesL_ (some 19) rfl rfl Try.func104 (by kernel_rfl) rfl #[.slice A0_2 l0_2.length c0_2, .slice A1_2 l1_2.length c1_2] rfl nc_ ?_; (with_reducible refine (laws_eqParcelS.calls k _ _ l0_2 _ _ l1_2 true _ ?side1 ?side2 ?side3 ?side4 A5.out).mono ?_); (case side1 => exact kc_ (Kd.C_below HR0_2.out HB.out)); (case side2 => exact HC0_2.out); (case side3 => exact kc_ (Kd.C_below HR1_2.out HB.out)); (case side4 => exact HC1_2.out); rintro e w31 ⟨rfl, hb⟩; refine ⟨_, rfl, ?_⟩; replace BK113 := bb_ BK113 hb; replace BK114 := bb_ BK114 hb; replace HB := Aside0.mk (below_step bl_ hb); clear hb; have hcz32_0 : w31.cell? ⟨gb113, 0, none⟩ = some (.int .i64 a0_0) := bc_ BK113.out 0; have hcz32_1 : w31.cell? ⟨gb113, 1, none⟩ = some (.int .i64 a0_1) := bc_ BK113.out 1; have hcz32_2 : w31.cell? ⟨gb113, 2, none⟩ = some (.slice A0_2 l0_2.length c0_2) := bc_ BK113.out 2; have hcz32_3 : w31.cell? ⟨gb113, 3, none⟩ = some (.bool a0_3) := bc_ BK113.out 3; have hcz32_4 : w31.cell? ⟨gb113, 4, none⟩ = some (.slice A0_4 l0_4.length c0_4) := bc_ BK113.out 4; have hfz32_0 := blk_frozen BK113.out 0; have hfz32_1 := blk_frozen BK113.out 1; have hfz32_2 := blk_frozen BK113.out 2; have hfz32_3 := blk_frozen BK113.out 3; have hfz32_4 := blk_frozen BK113.out 4; have hcz33_0 : w31.cell? ⟨gb114, 0, none⟩ = some (.int .i64 a1_0) := bc_ BK114.out 0; have hcz33_1 : w31.cell? ⟨gb114, 1, none⟩ = some (.int .i64 a1_1) := bc_ BK114.out 1; have hcz33_2 : w31.cell? ⟨gb114, 2, none⟩ = some (.slice A1_2 l1_2.length c1_2) := bc_ BK114.out 2; have hcz33_3 : w31.cell? ⟨gb114, 3, none⟩ = some (.bool a1_3) := bc_ BK114.out 3; have hcz33_4 : w31.cell? ⟨gb114, 4, none⟩ = some (.slice A1_4 l1_4.length c1_4) := bc_ BK114.out 4; have hfz33_0 := blk_frozen BK114.out 0; have hfz33_1 := blk_frozen BK114.out 1; have hfz33_2 := blk_frozen BK114.out 2; have hfz33_3 := blk_frozen BK114.out 3; have hfz33_4 := blk_frozen BK114.out 4) | ((with_reducible refine gate_callee (f := 32) rfl ?_); refine goesL_ (some 30) rfl rfl Try.func32 (by kernel_rfl) rfl #[.slice A0_4 l0_4.length c0_4, .slice A1_4 l1_4.length c1_4] rfl nc_ ?_; (with_reducible refine (laws_eqIntS.calls k _ _ l0_4 _ _ l1_4 false _ ?side1 ?side2 ?side3 ?side4 A16.out).mono ?_); (case side1 => exact kc_ (Kd.C_below HR0_4.out HB.out)); (case side2 => exact HC0_4.out); (case side3 => exact kc_ (Kd.C_below HR1_4.out HB.out)); (case side4 => exact HC1_4.out); rintro e w' ⟨rfl, ⟨nd, rfl⟩⟩; refine ⟨_, rfl, ?_⟩))
 go_ret
 exact ⟨ng_, bl_⟩

end Go.Proofs.Ytipfikmbldgliaa.PNX
