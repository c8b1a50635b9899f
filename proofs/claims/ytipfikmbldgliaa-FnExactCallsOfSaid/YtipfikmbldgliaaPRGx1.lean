/- What this text proves: the machine calls of these functions return what the plain functions say. Conditions: as each theorem says. Printed by a program of this session out of the translation. -/
import Derived.Test.YtipfikmbldgliaaPRGx0
namespace Go.Proofs.Ytipfikmbldgliaa.PRG
open Go.RowKit Go.Proofs.YtipfikmbldgliaaW.PrintWords Go.Proofs.YtipfikmbldgliaaW.PrintLast Go.Proofs.YtipfikmbldgliaaW.PrintMore
attribute [local go_sem] max2_int min2_int max_two min_two max_three min_three max_four min_four   -- for this text's walks alone
set_option linter.unusedVariables false
set_option linter.unusedSimpArgs false

/-! ### laws_eqCopy: function 22 -/
def laws_eqCopy.f (a0_0 : Int) (a0_1 : Int) (a0_2 : ByteArray) (a1_0 : Int) (a1_1 : Int) (a1_2 : ByteArray) : Option (Bool) := if a0_0 = a1_0 then (if a0_1 = a1_1 then (if a0_2.toList = a1_2.toList then (some true) else (some false)) else (some false)) else (some false)
set_option maxHeartbeats 8000000 in
set_option maxRecDepth 100000 in
theorem laws_eqCopy.calls (a0_0 : Int) (a0_1 : Int) (a0_2 : ByteArray) (a1_0 : Int) (a1_1 : Int) (a1_2 : ByteArray) (r : Bool) (w : World) (h : laws_eqCopy.f a0_0 a0_1 a0_2 a1_0 a1_1 a1_2 = some r) :
  Calls Try.prog 22 #[.agg #[.int .i64 a0_0, .int .i64 a0_1, .string a0_2], .agg #[.int .i64 a1_0, .int .i64 a1_1, .string a1_2]] w fun e w' => e = .returned (.bool r) ∧ Below w.heap.size w w' := by
 have hu40 := Try.underlying40
 have HB := Aside0.mk (Below.refl w.heap.size w)
 have H : (if a0_0 = a1_0 then (if a0_1 = a1_1 then (if a0_2.toList = a1_2.toList then (some true) else (some false)) else (some false)) else (some false)) = some r := h
 clear h
 by_cases c3 : a0_0 = a1_0
 rotate_left
 ·rw [if_neg c3] at H
  have c3b0 : (a0_0 == a1_0) = false := beq_eq_false_iff_ne.mpr c3
  have c3b1 : (a0_0 != a1_0) = true := bne_iff_ne.mpr c3
  obtain rfl := Option.some.inj H
  go_enter Try.func22, Try.ntmps22
  go_wp2_with (first | ((with_reducible refine gate_dst (N := 2) rfl ?_); refine box_event rfl (N := 2) rfl (cs := #[.int .i64 a0_0, .int .i64 a0_1, .string a0_2]) (t := 40) gs_ ?_; intro gb101 hg w21 hbox hb; have BK101 := Aside0.mk (hbox); have GW101 := Aside0.mk ((by rw [hg]; exact bz_ : w.heap.size ≤ gb101)); have GE101 := GW101; replace HB := Aside0.mk (below_step bl_ hb); clear hb hbox hg) | ((with_reducible refine gate_dst (N := 3) rfl ?_); refine box_event rfl (N := 3) rfl (cs := #[.int .i64 a1_0, .int .i64 a1_1, .string a1_2]) (t := 40) gs_ ?_; intro gb102 hg w22 hbox hb; have BK102 := Aside0.mk (hbox); have GW102 := Aside0.mk ((by rw [hg]; exact bz_ : w.heap.size ≤ gb102)); have GE102 := GW102; replace HB := Aside0.mk (below_step bl_ hb); have NB101_102 := nl_ hg BK101; have NB102_101 := nm_ hg BK101; replace BK101 := bb_ BK101 hb; clear hb hbox hg; have hnb23 := NB101_102.out; have hnc23 := NB102_101.out; have hcz24_0 : w22.cell? ⟨gb101, 0, none⟩ = some (.int .i64 a0_0) := bc_ BK101.out 0; have hcz24_1 : w22.cell? ⟨gb101, 1, none⟩ = some (.int .i64 a0_1) := bc_ BK101.out 1; have hcz24_2 : w22.cell? ⟨gb101, 2, none⟩ = some (.string a0_2) := bc_ BK101.out 2; have hfz24_0 := blk_frozen BK101.out 0; have hfz24_1 := blk_frozen BK101.out 1; have hfz24_2 := blk_frozen BK101.out 2; have hcz25_0 : w22.cell? ⟨gb102, 0, none⟩ = some (.int .i64 a1_0) := bc_ BK102.out 0; have hcz25_1 : w22.cell? ⟨gb102, 1, none⟩ = some (.int .i64 a1_1) := bc_ BK102.out 1; have hcz25_2 : w22.cell? ⟨gb102, 2, none⟩ = some (.string a1_2) := bc_ BK102.out 2; have hfz25_0 := blk_frozen BK102.out 0; have hfz25_1 := blk_frozen BK102.out 1; have hfz25_2 := blk_frozen BK102.out 2))
  go_ret
  exact ⟨ng_, bl_⟩
 rw [if_pos c3] at H
 have c3b0 : (a0_0 == a1_0) = true := beq_iff_eq.mpr c3
 have c3b1 : (a0_0 != a1_0) = false := bne_eq_false_iff_eq.mpr c3
 clear c3
 by_cases c4 : a0_1 = a1_1
 rotate_left
 ·rw [if_neg c4] at H
  have c4b0 : (a0_1 == a1_1) = false := beq_eq_false_iff_ne.mpr c4
  have c4b1 : (a0_1 != a1_1) = true := bne_iff_ne.mpr c4
  obtain rfl := Option.some.inj H
  go_enter Try.func22, Try.ntmps22
  go_wp2_with (first | ((with_reducible refine gate_dst (N := 2) rfl ?_); refine box_event rfl (N := 2) rfl (cs := #[.int .i64 a0_0, .int .i64 a0_1, .string a0_2]) (t := 40) gs_ ?_; intro gb101 hg w16 hbox hb; have BK101 := Aside0.mk (hbox); have GW101 := Aside0.mk ((by rw [hg]; exact bz_ : w.heap.size ≤ gb101)); have GE101 := GW101; replace HB := Aside0.mk (below_step bl_ hb); clear hb hbox hg) | ((with_reducible refine gate_dst (N := 3) rfl ?_); refine box_event rfl (N := 3) rfl (cs := #[.int .i64 a1_0, .int .i64 a1_1, .string a1_2]) (t := 40) gs_ ?_; intro gb102 hg w17 hbox hb; have BK102 := Aside0.mk (hbox); have GW102 := Aside0.mk ((by rw [hg]; exact bz_ : w.heap.size ≤ gb102)); have GE102 := GW102; replace HB := Aside0.mk (below_step bl_ hb); have NB101_102 := nl_ hg BK101; have NB102_101 := nm_ hg BK101; replace BK101 := bb_ BK101 hb; clear hb hbox hg; have hnb18 := NB101_102.out; have hnc18 := NB102_101.out; have hcz19_0 : w17.cell? ⟨gb101, 0, none⟩ = some (.int .i64 a0_0) := bc_ BK101.out 0; have hcz19_1 : w17.cell? ⟨gb101, 1, none⟩ = some (.int .i64 a0_1) := bc_ BK101.out 1; have hcz19_2 : w17.cell? ⟨gb101, 2, none⟩ = some (.string a0_2) := bc_ BK101.out 2; have hfz19_0 := blk_frozen BK101.out 0; have hfz19_1 := blk_frozen BK101.out 1; have hfz19_2 := blk_frozen BK101.out 2; have hcz20_0 : w17.cell? ⟨gb102, 0, none⟩ = some (.int .i64 a1_0) := bc_ BK102.out 0; have hcz20_1 : w17.cell? ⟨gb102, 1, none⟩ = some (.int .i64 a1_1) := bc_ BK102.out 1; have hcz20_2 : w17.cell? ⟨gb102, 2, none⟩ = some (.string a1_2) := bc_ BK102.out 2; have hfz20_0 := blk_frozen BK102.out 0; have hfz20_1 := blk_frozen BK102.out 1; have hfz20_2 := blk_frozen BK102.out 2))
  go_ret
  exact ⟨ng_, bl_⟩
 rw [if_pos c4] at H
 have c4b0 : (a0_1 == a1_1) = true := beq_iff_eq.mpr c4
 have c4b1 : (a0_1 != a1_1) = false := bne_eq_false_iff_eq.mpr c4
 clear c4
 by_cases c5 : a0_2.toList = a1_2.toList
 ·rw [if_pos c5] at H
  have c5b0 : (a0_2.toList == a1_2.toList) = true := beq_iff_eq.mpr c5
  have c5b1 : (a0_2.toList != a1_2.toList) = false := bne_eq_false_iff_eq.mpr c5
  clear c5
  obtain rfl := Option.some.inj H
  go_enter Try.func22, Try.ntmps22
  go_wp2_with (first | ((with_reducible refine gate_dst (N := 2) rfl ?_); refine box_event rfl (N := 2) rfl (cs := #[.int .i64 a0_0, .int .i64 a0_1, .string a0_2]) (t := 40) gs_ ?_; intro gb101 hg w6 hbox hb; have BK101 := Aside0.mk (hbox); have GW101 := Aside0.mk ((by rw [hg]; exact bz_ : w.heap.size ≤ gb101)); have GE101 := GW101; replace HB := Aside0.mk (below_step bl_ hb); clear hb hbox hg) | ((with_reducible refine gate_dst (N := 3) rfl ?_); refine box_event rfl (N := 3) rfl (cs := #[.int .i64 a1_0, .int .i64 a1_1, .string a1_2]) (t := 40) gs_ ?_; intro gb102 hg w7 hbox hb; have BK102 := Aside0.mk (hbox); have GW102 := Aside0.mk ((by rw [hg]; exact bz_ : w.heap.size ≤ gb102)); have GE102 := GW102; replace HB := Aside0.mk (below_step bl_ hb); have NB101_102 := nl_ hg BK101; have NB102_101 := nm_ hg BK101; replace BK101 := bb_ BK101 hb; clear hb hbox hg; have hnb8 := NB101_102.out; have hnc8 := NB102_101.out; have hcz9_0 : w7.cell? ⟨gb101, 0, none⟩ = some (.int .i64 a0_0) := bc_ BK101.out 0; have hcz9_1 : w7.cell? ⟨gb101, 1, none⟩ = some (.int .i64 a0_1) := bc_ BK101.out 1; have hcz9_2 : w7.cell? ⟨gb101, 2, none⟩ = some (.string a0_2) := bc_ BK101.out 2; have hfz9_0 := blk_frozen BK101.out 0; have hfz9_1 := blk_frozen BK101.out 1; have hfz9_2 := blk_frozen BK101.out 2; have hcz10_0 : w7.cell? ⟨gb102, 0, none⟩ = some (.int .i64 a1_0) := bc_ BK102.out 0; have hcz10_1 : w7.cell? ⟨gb102, 1, none⟩ = some (.int .i64 a1_1) := bc_ BK102.out 1; have hcz10_2 : w7.cell? ⟨gb102, 2, none⟩ = some (.string a1_2) := bc_ BK102.out 2; have hfz10_0 := blk_frozen BK102.out 0; have hfz10_1 := blk_frozen BK102.out 1; have hfz10_2 := blk_frozen BK102.out 2))
  go_ret
  exact ⟨ng_, bl_⟩
 rw [if_neg c5] at H
 have c5b0 : (a0_2.toList == a1_2.toList) = false := beq_eq_false_iff_ne.mpr c5
 have c5b1 : (a0_2.toList != a1_2.toList) = true := bne_iff_ne.mpr c5
 obtain rfl := Option.some.inj H
 go_enter Try.func22, Try.ntmps22
 go_wp2_with (first | ((with_reducible refine gate_dst (N := 2) rfl ?_); refine box_event rfl (N := 2) rfl (cs := #[.int .i64 a0_0, .int .i64 a0_1, .string a0_2]) (t := 40) gs_ ?_; intro gb101 hg w11 hbox hb; have BK101 := Aside0.mk (hbox); have GW101 := Aside0.mk ((by rw [hg]; exact bz_ : w.heap.size ≤ gb101)); have GE101 := GW101; replace HB := Aside0.mk (below_step bl_ hb); clear hb hbox hg) | ((with_reducible refine gate_dst (N := 3) rfl ?_); refine box_event rfl (N := 3) rfl (cs := #[.int .i64 a1_0, .int .i64 a1_1, .string a1_2]) (t := 40) gs_ ?_; intro gb102 hg w12 hbox hb; have BK102 := Aside0.mk (hbox); have GW102 := Aside0.mk ((by rw [hg]; exact bz_ : w.heap.size ≤ gb102)); have GE102 := GW102; replace HB := Aside0.mk (below_step bl_ hb); have NB101_102 := nl_ hg BK101; have NB102_101 := nm_ hg BK101; replace BK101 := bb_ BK101 hb; clear hb hbox hg; have hnb13 := NB101_102.out; have hnc13 := NB102_101.out; have hcz14_0 : w12.cell? ⟨gb101, 0, none⟩ = some (.int .i64 a0_0) := bc_ BK101.out 0; have hcz14_1 : w12.cell? ⟨gb101, 1, none⟩ = some (.int .i64 a0_1) := bc_ BK101.out 1; have hcz14_2 : w12.cell? ⟨gb101, 2, none⟩ = some (.string a0_2) := bc_ BK101.out 2; have hfz14_0 := blk_frozen BK101.out 0; have hfz14_1 := blk_frozen BK101.out 1; have hfz14_2 := blk_frozen BK101.out 2; have hcz15_0 : w12.cell? ⟨gb102, 0, none⟩ = some (.int .i64 a1_0) := bc_ BK102.out 0; have hcz15_1 : w12.cell? ⟨gb102, 1, none⟩ = some (.int .i64 a1_1) := bc_ BK102.out 1; have hcz15_2 : w12.cell? ⟨gb102, 2, none⟩ = some (.string a1_2) := bc_ BK102.out 2; have hfz15_0 := blk_frozen BK102.out 0; have hfz15_1 := blk_frozen BK102.out 1; have hfz15_2 := blk_frozen BK102.out 2))
 go_ret
 exact ⟨ng_, bl_⟩

/-! ### laws_eqCopyS: function 46 -/
def laws_eqCopyS.l0 : Nat → List (S40) → List (S40) → Int → Option (Bool)
 | 0, _, _, _ => none
 | k + 1, x0, x1, x5 => if x5 < (x0.length : Int) then (if 0 ≤ x5 then (if x5 < (x1.length : Int) then ((laws_eqCopy.f ((rd_T40 x0 x5).f0) ((rd_T40 x0 x5).f1) ((rd_T40 x0 x5).f2) ((rd_T40 x1 x5).f0) ((rd_T40 x1 x5).f1) ((rd_T40 x1 x5).f2)).bind fun t105 => (if t105 = true then (laws_eqCopyS.l0 k x0 x1 (wrap64 (x5 + 1))) else (some false))) else (none)) else (none)) else (some true)
def laws_eqCopyS.f (k : Nat) (l0 : List (S40)) (l1 : List (S40)) : Option (Bool) := if (l0.length : Int) = (l1.length : Int) then (laws_eqCopyS.l0 k l0 l1 0) else (some false)
theorem laws_eqCopyS.mono_l : ∀ k, (∀ y0 y1 y2, LeO (laws_eqCopyS.l0 k y0 y1 y2) (laws_eqCopyS.l0 (k + 1) y0 y1 y2))
 | 0 => fun _ _ _ r h => by simp [laws_eqCopyS.l0] at h
 | k + 1 => by
  have ih0 := laws_eqCopyS.mono_l k
  ·intro y0 y1 y2
   unfold laws_eqCopyS.l0
   repeat' first
   | (with_reducible exact ih0 _ _ _)
   | (with_reducible exact LeO.refl _)
   | (with_reducible exact LeO.none _)
   | (with_reducible refine LeO.ite ?_ ?_)
   | (with_reducible refine LeO.bind ?_ (fun _ => ?_))
   | exact ih0 _ _ _
   | exact LeO.none _
   | refine LeO.ite ?_ ?_
   | refine LeO.bind ?_ (fun _ => ?_)
theorem laws_eqCopyS.mono : ∀ a0 a1 k, LeO (laws_eqCopyS.f k a0 a1) (laws_eqCopyS.f (k + 1) a0 a1) := by
 intro a0 a1 k
 have ih0 := laws_eqCopyS.mono_l k
 unfold laws_eqCopyS.f
 repeat' first
   | (with_reducible exact ih0 _ _ _)
   | (with_reducible exact LeO.refl _)
   | (with_reducible exact LeO.none _)
   | (with_reducible refine LeO.ite ?_ ?_)
   | (with_reducible refine LeO.bind ?_ (fun _ => ?_))
   | exact ih0 _ _ _
   | exact LeO.none _
   | refine LeO.ite ?_ ?_
   | refine LeO.bind ?_ (fun _ => ?_)
def laws_eqCopyS.T6 : Bool × List (List Nat × List Nat) := (true, [([], []), ([], []), ([0, 1], [0, 1]), ([2], [2]), ([], []), ([], []), ([4, 5], [4, 5]), ([6], [6]), ([3, 7], [3, 7]), ([8], [8])])
def laws_eqCopyS.B6 : List Nat := [0, 0, 3, 7, 0, 0, 48, 112, 255, 511]
theorem laws_eqCopyS.tab6 : rtab .any (opsOf Try.f46 6) = laws_eqCopyS.T6 := by kernel_rfl
theorem laws_eqCopyS.bits6 : waitsOk laws_eqCopyS.T6.2 laws_eqCopyS.B6 = true := by kernel_rfl
set_option maxHeartbeats 8000000 in
set_option maxRecDepth 100000 in
theorem laws_eqCopyS.calls (k : Nat) (A0 : Option Addr) (c0 : Nat) (l0 : List (S40)) (A1 : Option Addr) (c1 : Nat) (l1 : List (S40)) (r : Bool) (w : World) (hr0 : Kd.C k40 w A0 l0.length l0) (hc0 : l0.length ≤ c0) (hr1 : Kd.C k40 w A1 l1.length l1) (hc1 : l1.length ≤ c1) (h : laws_eqCopyS.f k l0 l1 = some r) :
  Calls Try.prog 46 #[.slice A0 l0.length c0, .slice A1 l1.length c1] w fun e w' => e = .returned (.bool r) ∧ Below w.heap.size w w' := by
 have hu40 := Try.underlying40
 have HR0 := Aside0.mk hr0
 have HC0 := Aside0.mk hc0
 clear hr0 hc0
 have HR1 := Aside0.mk hr1
 have HC1 := Aside0.mk hc1
 clear hr1 hc1
 have HB := Aside0.mk (Below.refl w.heap.size w)
 have H : (if (l0.length : Int) = (l1.length : Int) then (laws_eqCopyS.l0 k l0 l1 0) else (some false)) = some r := h
 clear h
 by_cases c3 : (l0.length : Int) = (l1.length : Int)
 rotate_left
 ·rw [if_neg c3] at H
  have c3b0 : ((l0.length : Int) == (l1.length : Int)) = false := beq_eq_false_iff_ne.mpr c3
  have c3b1 : ((l0.length : Int) != (l1.length : Int)) = true := bne_iff_ne.mpr c3
  have c3b2 : (l0.length == l1.length) = false := by first | simpa using c3 | (simp at c3 ⊢; omega)
  obtain rfl := Option.some.inj H
  go_enter Try.func46, Try.ntmps46
  go_wp2
  go_ret
  exact ⟨ng_, bl_⟩
 rw [if_pos c3] at H
 have c3b0 : ((l0.length : Int) == (l1.length : Int)) = true := beq_iff_eq.mpr c3
 have c3b1 : ((l0.length : Int) != (l1.length : Int)) = false := bne_eq_false_iff_eq.mpr c3
 have c3b2 : (l0.length == l1.length) = true := by first | simpa using c3 | (simp at c3 ⊢; omega)
 clear c3
 have H' := Aside0.mk H
 clear H
 go_enter Try.func46, Try.ntmps46
 go_wp2
 go_loopg [5] k (fun kq v5 w' => ∃ (x5_1 : Int), v5 = .int .i64 x5_1 ∧ Aside0 (laws_eqCopyS.l0 kq l0 l1 x5_1 = some r) ∧ Aside0 (kq ≤ k) ∧ Aside0 (Below w.heap.size w w'))
 case atStart => exact ⟨(0), (by first | rfl | (simp; done) | (simp [*]; done)), H', ⟨Nat.le_refl _⟩, ⟨bl_⟩⟩
 clear H'
 try clear c1
 try clear p2
 try clear c3
 try clear c3b0
 try clear c3b1
 try clear c3b2
 obtain ⟨x5_1, rfl, HA, HK1, HB⟩ := hrel
 cases gk with
 | zero => exact absurd HA.out (by simp [laws_eqCopyS.l0])
 | succ k1 => ?_
 have H := HA.out
 clear HA
 simp only [laws_eqCopyS.l0] at H
 by_cases c4 : x5_1 < (l0.length : Int)
 rotate_left
 ·rw [if_neg c4] at H
  have c4b0 : decide (x5_1 < (l0.length : Int)) = false := decide_eq_false c4
  clear c4
  obtain rfl := Option.some.inj H
  go_wp2
  go_ret
  exact ⟨ng_, bl_⟩
 rw [if_pos c4] at H
 have c4b0 : decide (x5_1 < (l0.length : Int)) = true := decide_eq_true c4
 clear c4
 by_cases c5 : 0 ≤ x5_1
 rotate_left
 ·rw [if_neg c5] at H
  exact absurd H (by simp)
 rw [if_pos c5] at H
 have c5b0 : decide (0 ≤ x5_1) = true := decide_eq_true c5
 clear c5
 by_cases c6 : x5_1 < (l1.length : Int)
 rotate_left
 ·rw [if_neg c6] at H
  exact absurd H (by simp)
 rw [if_pos c6] at H
 have c6b0 : decide (x5_1 < (l1.length : Int)) = true := decide_eq_true c6
 clear c6
 replace H := Option.bind_eq_some_iff.mp H
 obtain ⟨t105, A70, H⟩ := H
 replace H : (if t105 = true then (laws_eqCopyS.l0 k1 l0 l1 (wrap64 (x5_1 + 1))) else (some false)) = some r := H
 have A7 := Aside0.mk A70
 clear A70
 by_cases c8 : t105 = true
 rotate_left
 ·replace c8 := Bool.eq_false_iff.mpr c8
  subst c8
  have H1 : (some false) = some r := by rw [if_neg (show ¬ (false = true) by decide)] at H; exact H
  clear H
  have H := H1
  clear H1
  obtain rfl := Option.some.inj H
  try go_wp2
  replace HB := Aside0.mk (below_drew1 HB.out)
  have p103 : 0 ≤ (x5_1 : Int) := of_decide_eq_true (by first | (with_reducible assumption) | assumption)
  have q103 : x5_1 < (l0.length : Int) := of_decide_eq_true (by first | (with_reducible assumption) | assumption)
  obtain ⟨ad103, e103, hx103_0, hx103_1, hx103_2⟩ := at_T40 HR0.out x5_1 p103 q103
  have hw103_2 := hx103_2
  have hw103_1 := hx103_1
  have hw103_0 := hx103_0
  cases e103
  replace hx103_0 := (HB.out.cell (World.block_lt_of_cell? w _ hx103_0)).trans hx103_0
  replace hx103_1 := (HB.out.cell (World.block_lt_of_cell? w _ hx103_1)).trans hx103_1
  replace hx103_2 := (HB.out.cell (World.block_lt_of_cell? w _ hx103_2)).trans hx103_2
  replace p103 := eq_true p103
  replace q103 := eq_true q103
  have p104 : 0 ≤ (x5_1 : Int) := of_decide_eq_true (by first | (with_reducible assumption) | assumption)
  have q104 : x5_1 < (l1.length : Int) := of_decide_eq_true (by first | (with_reducible assumption) | assumption)
  obtain ⟨ad104, e104, hx104_0, hx104_1, hx104_2⟩ := at_T40 HR1.out x5_1 p104 q104
  have hw104_2 := hx104_2
  have hw104_1 := hx104_1
  have hw104_0 := hx104_0
  cases e104
  replace hx104_0 := (HB.out.cell (World.block_lt_of_cell? w _ hx104_0)).trans hx104_0
  replace hx104_1 := (HB.out.cell (World.block_lt_of_cell? w _ hx104_1)).trans hx104_1
  replace hx104_2 := (HB.out.cell (World.block_lt_of_cell? w _ hx104_2)).trans hx104_2
  replace p104 := eq_true p104
  replace q104 := eq_true q104
  refine start_ (n := 10) (S := fun w' => w'.cell? (ad103.add ((x5_1).toNat * 3)) = some (.int .i64 ((rd_T40 l0 x5_1).f0)) ∧ w'.cell? ⟨(ad103.add ((x5_1).toNat * 3)).block, (ad103.add ((x5_1).toNat * 3)).off + 1, none⟩ = some (.int .i64 ((rd_T40 l0 x5_1).f1)) ∧ w'.cell? ⟨(ad103.add ((x5_1).toNat * 3)).block, (ad103.add ((x5_1).toNat * 3)).off + 2, none⟩ = some (.string ((rd_T40 l0 x5_1).f2)) ∧ w'.cell? (ad104.add ((x5_1).toNat * 3)) = some (.int .i64 ((rd_T40 l1 x5_1).f0)) ∧ w'.cell? ⟨(ad104.add ((x5_1).toNat * 3)).block, (ad104.add ((x5_1).toNat * 3)).off + 1, none⟩ = some (.int .i64 ((rd_T40 l1 x5_1).f1)) ∧ w'.cell? ⟨(ad104.add ((x5_1).toNat * 3)).block, (ad104.add ((x5_1).toNat * 3)).off + 2, none⟩ = some (.string ((rd_T40 l1 x5_1).f2))) (ds := []) #[false, false, false, false, false, false, false, false, false, false] (by kernel_rfl) rfl rfl ⟨((HB.out.cell (World.block_lt_of_cell? w _ hw103_0)).trans hw103_0), ((HB.out.cell (World.block_lt_of_cell? w _ hw103_1)).trans hw103_1), ((HB.out.cell (World.block_lt_of_cell? w _ hw103_2)).trans hw103_2), ((HB.out.cell (World.block_lt_of_cell? w _ hw104_0)).trans hw104_0), ((HB.out.cell (World.block_lt_of_cell? w _ hw104_1)).trans hw104_1), ((HB.out.cell (World.block_lt_of_cell? w _ hw104_2)).trans hw104_2)⟩ (fun hHeld => ?_); refine with_tabW laws_eqCopyS.tab6 laws_eqCopyS.bits6 (fun HT_ HW_ => ?_)
  generalize wr.drew = w11 at HB hx103_0 hx103_1 hx103_2 hx104_0 hx104_1 hx104_2 hHeld ⊢
  refine pu_ 0 (some 17) (h := ?_)
  refine pu_ 1 (some 18) (h := ?_)
  refine pu_ 2 (some 19) (h := ?_)
  refine pu_ 4 (some 21) (h := ?_)
  refine pu_ 5 (some 22) (h := ?_)
  refine pu_ 6 (some 23) (h := ?_)
  refine tk6_ 3 (some 20) (h := ?_)
  refine tk6_ 7 (some 24) (h := ?_)
  refine on_ 8 (some 25) (h := fun K hK => ?_)
  refine goes_ Try.func22 (by kernel_rfl) rfl #[.agg #[.int .i64 ((rd_T40 l0 x5_1).f0), .int .i64 ((rd_T40 l0 x5_1).f1), .string ((rd_T40 l0 x5_1).f2)], .agg #[.int .i64 ((rd_T40 l1 x5_1).f0), .int .i64 ((rd_T40 l1 x5_1).f1), .string ((rd_T40 l1 x5_1).f2)]] (by rfl) rfl rfl nc_ ?_
  with_reducible refine (laws_eqCopy.calls ((rd_T40 l0 x5_1).f0) ((rd_T40 l0 x5_1).f1) ((rd_T40 l0 x5_1).f2) ((rd_T40 l1 x5_1).f0) ((rd_T40 l1 x5_1).f1) ((rd_T40 l1 x5_1).f2) false _ A7.out).mono ?_
  rintro e w12 ⟨rfl, hb⟩
  refine ⟨_, rfl, ?_⟩
  replace HB := Aside0.mk (below_step bl_ hb)
  clear hb
  refine hK.out _ _ ⟨((HB.out.cell (World.block_lt_of_cell? w _ hw103_0)).trans hw103_0), ((HB.out.cell (World.block_lt_of_cell? w _ hw103_1)).trans hw103_1), ((HB.out.cell (World.block_lt_of_cell? w _ hw103_2)).trans hw103_2), ((HB.out.cell (World.block_lt_of_cell? w _ hw104_0)).trans hw104_0), ((HB.out.cell (World.block_lt_of_cell? w _ hw104_1)).trans hw104_1), ((HB.out.cell (World.block_lt_of_cell? w _ hw104_2)).trans hw104_2)⟩ (fun hHeld => ?_)
  clear hK K
  refine norm_ nn_ ?_
  refine pu_ 9 (some 26) (h := ?_)
  refine done_ (done_of HT_.out (by kernel_rfl)) ?_
  try go_wp2
  go_ret
  exact ⟨ng_, bl_⟩
 subst c8
 have H1 : (laws_eqCopyS.l0 k1 l0 l1 (wrap64 (x5_1 + 1))) = some r := by rw [if_pos rfl] at H; exact H
 clear H
 have H := H1
 clear H1
 have H' := Aside0.mk H
 clear H
 try go_wp2
 replace HB := Aside0.mk (below_drew1 HB.out)
 have p103 : 0 ≤ (x5_1 : Int) := of_decide_eq_true (by first | (with_reducible assumption) | assumption)
 have q103 : x5_1 < (l0.length : Int) := of_decide_eq_true (by first | (with_reducible assumption) | assumption)
 obtain ⟨ad103, e103, hx103_0, hx103_1, hx103_2⟩ := at_T40 HR0.out x5_1 p103 q103
 have hw103_2 := hx103_2
 have hw103_1 := hx103_1
 have hw103_0 := hx103_0
 cases e103
 replace hx103_0 := (HB.out.cell (World.block_lt_of_cell? w _ hx103_0)).trans hx103_0
 replace hx103_1 := (HB.out.cell (World.block_lt_of_cell? w _ hx103_1)).trans hx103_1
 replace hx103_2 := (HB.out.cell (World.block_lt_of_cell? w _ hx103_2)).trans hx103_2
 replace p103 := eq_true p103
 replace q103 := eq_true q103
 have p104 : 0 ≤ (x5_1 : Int) := of_decide_eq_true (by first | (with_reducible assumption) | assumption)
 have q104 : x5_1 < (l1.length : Int) := of_decide_eq_true (by first | (with_reducible assumption) | assumption)
 obtain ⟨ad104, e104, hx104_0, hx104_1, hx104_2⟩ := at_T40 HR1.out x5_1 p104 q104
 have hw104_2 := hx104_2
 have hw104_1 := hx104_1
 have hw104_0 := hx104_0
 cases e104
 replace hx104_0 := (HB.out.cell (World.block_lt_of_cell? w _ hx104_0)).trans hx104_0
 replace hx104_1 := (HB.out.cell (World.block_lt_of_cell? w _ hx104_1)).trans hx104_1
 replace hx104_2 := (HB.out.cell (World.block_lt_of_cell? w _ hx104_2)).trans hx104_2
 replace p104 := eq_true p104
 replace q104 := eq_true q104
 refine start_ (n := 10) (S := fun w' => w'.cell? (ad103.add ((x5_1).toNat * 3)) = some (.int .i64 ((rd_T40 l0 x5_1).f0)) ∧ w'.cell? ⟨(ad103.add ((x5_1).toNat * 3)).block, (ad103.add ((x5_1).toNat * 3)).off + 1, none⟩ = some (.int .i64 ((rd_T40 l0 x5_1).f1)) ∧ w'.cell? ⟨(ad103.add ((x5_1).toNat * 3)).block, (ad103.add ((x5_1).toNat * 3)).off + 2, none⟩ = some (.string ((rd_T40 l0 x5_1).f2)) ∧ w'.cell? (ad104.add ((x5_1).toNat * 3)) = some (.int .i64 ((rd_T40 l1 x5_1).f0)) ∧ w'.cell? ⟨(ad104.add ((x5_1).toNat * 3)).block, (ad104.add ((x5_1).toNat * 3)).off + 1, none⟩ = some (.int .i64 ((rd_T40 l1 x5_1).f1)) ∧ w'.cell? ⟨(ad104.add ((x5_1).toNat * 3)).block, (ad104.add ((x5_1).toNat * 3)).off + 2, none⟩ = some (.string ((rd_T40 l1 x5_1).f2))) (ds := []) #[false, false, false, false, false, false, false, false, false, false] (by kernel_rfl) rfl rfl ⟨((HB.out.cell (World.block_lt_of_cell? w _ hw103_0)).trans hw103_0), ((HB.out.cell (World.block_lt_of_cell? w _ hw103_1)).trans hw103_1), ((HB.out.cell (World.block_lt_of_cell? w _ hw103_2)).trans hw103_2), ((HB.out.cell (World.block_lt_of_cell? w _ hw104_0)).trans hw104_0), ((HB.out.cell (World.block_lt_of_cell? w _ hw104_1)).trans hw104_1), ((HB.out.cell (World.block_lt_of_cell? w _ hw104_2)).trans hw104_2)⟩ (fun hHeld => ?_); refine with_tabW laws_eqCopyS.tab6 laws_eqCopyS.bits6 (fun HT_ HW_ => ?_)
 generalize wr.drew = w9 at HB hx103_0 hx103_1 hx103_2 hx104_0 hx104_1 hx104_2 hHeld ⊢
 refine pu_ 0 (some 17) (h := ?_)
 refine pu_ 1 (some 18) (h := ?_)
 refine pu_ 2 (some 19) (h := ?_)
 refine pu_ 4 (some 21) (h := ?_)
 refine pu_ 5 (some 22) (h := ?_)
 refine pu_ 6 (some 23) (h := ?_)
 refine tk6_ 3 (some 20) (h := ?_)
 refine tk6_ 7 (some 24) (h := ?_)
 refine on_ 8 (some 25) (h := fun K hK => ?_)
 refine goes_ Try.func22 (by kernel_rfl) rfl #[.agg #[.int .i64 ((rd_T40 l0 x5_1).f0), .int .i64 ((rd_T40 l0 x5_1).f1), .string ((rd_T40 l0 x5_1).f2)], .agg #[.int .i64 ((rd_T40 l1 x5_1).f0), .int .i64 ((rd_T40 l1 x5_1).f1), .string ((rd_T40 l1 x5_1).f2)]] (by rfl) rfl rfl nc_ ?_
 with_reducible refine (laws_eqCopy.calls ((rd_T40 l0 x5_1).f0) ((rd_T40 l0 x5_1).f1) ((rd_T40 l0 x5_1).f2) ((rd_T40 l1 x5_1).f0) ((rd_T40 l1 x5_1).f1) ((rd_T40 l1 x5_1).f2) true _ A7.out).mono ?_
 rintro e w10 ⟨rfl, hb⟩
 refine ⟨_, rfl, ?_⟩
 replace HB := Aside0.mk (below_step bl_ hb)
 clear hb
 refine hK.out _ _ ⟨((HB.out.cell (World.block_lt_of_cell? w _ hw103_0)).trans hw103_0), ((HB.out.cell (World.block_lt_of_cell? w _ hw103_1)).trans hw103_1), ((HB.out.cell (World.block_lt_of_cell? w _ hw103_2)).trans hw103_2), ((HB.out.cell (World.block_lt_of_cell? w _ hw104_0)).trans hw104_0), ((HB.out.cell (World.block_lt_of_cell? w _ hw104_1)).trans hw104_1), ((HB.out.cell (World.block_lt_of_cell? w _ hw104_2)).trans hw104_2)⟩ (fun hHeld => ?_)
 clear hK K
 refine norm_ nn_ ?_
 refine pu_ 9 (some 26) (h := ?_)
 refine done_ (done_of HT_.out (by kernel_rfl)) ?_
 try go_wp2
 go_roundg k1
 case measure => have := HK1.out; omega
 case rel => exact ⟨(wrap64 (x5_1 + 1)), (by first | rfl | (simp; done) | (simp [*]; done)), H', ⟨by have := HK1.out; omega⟩, ⟨bl_⟩⟩

/-! ### laws_eqIntS: function 32 -/
def laws_eqIntS.l0 : Nat → List Int → List Int → Int → Option (Bool)
 | 0, _, _, _ => none
 | k + 1, x0, x1, x5 => if x5 < (x0.length : Int) then (if 0 ≤ x5 then (if x5 < (x1.length : Int) then (if (rd x0 x5) = (rd x1 x5) then (laws_eqIntS.l0 k x0 x1 (wrap64 (x5 + 1))) else (some false)) else (none)) else (none)) else (some true)
def laws_eqIntS.f (k : Nat) (l0 : List Int) (l1 : List Int) : Option (Bool) := if (l0.length : Int) = (l1.length : Int) then (laws_eqIntS.l0 k l0 l1 0) else (some false)
theorem laws_eqIntS.mono_l : ∀ k, (∀ y0 y1 y2, LeO (laws_eqIntS.l0 k y0 y1 y2) (laws_eqIntS.l0 (k + 1) y0 y1 y2))
 | 0 => fun _ _ _ r h => by simp [laws_eqIntS.l0] at h
 | k + 1 => by
  have ih0 := laws_eqIntS.mono_l k
  ·intro y0 y1 y2
   unfold laws_eqIntS.l0
   repeat' first
   | (with_reducible exact ih0 _ _ _)
   | (with_reducible exact LeO.refl _)
   | (with_reducible exact LeO.none _)
   | (with_reducible refine LeO.ite ?_ ?_)
   | (with_reducible refine LeO.bind ?_ (fun _ => ?_))
   | exact ih0 _ _ _
   | exact LeO.none _
   | refine LeO.ite ?_ ?_
   | refine LeO.bind ?_ (fun _ => ?_)
theorem laws_eqIntS.mono : ∀ a0 a1 k, LeO (laws_eqIntS.f k a0 a1) (laws_eqIntS.f (k + 1) a0 a1) := by
 intro a0 a1 k
 have ih0 := laws_eqIntS.mono_l k
 unfold laws_eqIntS.f
 repeat' first
   | (with_reducible exact ih0 _ _ _)
   | (with_reducible exact LeO.refl _)
   | (with_reducible exact LeO.none _)
   | (with_reducible refine LeO.ite ?_ ?_)
   | (with_reducible refine LeO.bind ?_ (fun _ => ?_))
   | exact ih0 _ _ _
   | exact LeO.none _
   | refine LeO.ite ?_ ?_
   | refine LeO.bind ?_ (fun _ => ?_)
set_option maxHeartbeats 8000000 in
set_option maxRecDepth 100000 in
theorem laws_eqIntS.calls (k : Nat) (A0 : Option Addr) (c0 : Nat) (l0 : List Int) (A1 : Option Addr) (c1 : Nat) (l1 : List Int) (r : Bool) (w : World) (hr0 : Kd.C (Kd.int .i64) w A0 l0.length l0) (hc0 : l0.length ≤ c0) (hr1 : Kd.C (Kd.int .i64) w A1 l1.length l1) (hc1 : l1.length ≤ c1) (h : laws_eqIntS.f k l0 l1 = some r) :
  Calls Try.prog 32 #[.slice A0 l0.length c0, .slice A1 l1.length c1] w fun e w' => e = .returned (.bool r) ∧ Drawn0 w w' := by
 have HR0 := Aside0.mk hr0
 have HC0 := Aside0.mk hc0
 clear hr0 hc0
 have HR1 := Aside0.mk hr1
 have HC1 := Aside0.mk hc1
 clear hr1 hc1
 have H : (if (l0.length : Int) = (l1.length : Int) then (laws_eqIntS.l0 k l0 l1 0) else (some false)) = some r := h
 clear h
 by_cases c3 : (l0.length : Int) = (l1.length : Int)
 rotate_left
 ·rw [if_neg c3] at H
  have c3b0 : ((l0.length : Int) == (l1.length : Int)) = false := beq_eq_false_iff_ne.mpr c3
  have c3b1 : ((l0.length : Int) != (l1.length : Int)) = true := bne_iff_ne.mpr c3
  have c3b2 : (l0.length == l1.length) = false := by first | simpa using c3 | (simp at c3 ⊢; omega)
  obtain rfl := Option.some.inj H
  go_enter Try.func32, Try.ntmps32
  go_wp2
  repeat (go_quiet (fail); try go_wp2)
  go_ret
  exact ⟨by first | rfl | (simp; done) | (simp [*]; done), by repeat (first | exact Drawn0.refl _ | apply Drawn0.step)⟩
 rw [if_pos c3] at H
 have c3b0 : ((l0.length : Int) == (l1.length : Int)) = true := beq_iff_eq.mpr c3
 have c3b1 : ((l0.length : Int) != (l1.length : Int)) = false := bne_eq_false_iff_eq.mpr c3
 have c3b2 : (l0.length == l1.length) = true := by first | simpa using c3 | (simp at c3 ⊢; omega)
 clear c3
 have H' := Aside0.mk H
 clear H
 go_enter Try.func32, Try.ntmps32
 go_wp2
 repeat (go_quiet (fail); try go_wp2)
 go_loopg [5] k (fun kq v5 w' => ∃ (x5_1 : Int), v5 = .int .i64 x5_1 ∧ Aside0 (laws_eqIntS.l0 kq l0 l1 x5_1 = some r) ∧ Aside0 (kq ≤ k) ∧ Drawn0 w w')
 case atStart => exact ⟨(0), (by first | rfl | (simp; done) | (simp [*]; done)), H', ⟨Nat.le_refl _⟩, by repeat (first | exact Drawn0.refl _ | apply Drawn0.step)⟩
 clear H'
 try clear c1
 try clear p2
 try clear c3
 try clear c3b0
 try clear c3b1
 try clear c3b2
 obtain ⟨x5_1, rfl, HA, HK1, ⟨m1, rfl⟩⟩ := hrel
 cases gk with
 | zero => exact absurd HA.out (by simp [laws_eqIntS.l0])
 | succ k1 => ?_
 have H := HA.out
 clear HA
 simp only [laws_eqIntS.l0] at H
 by_cases c4 : x5_1 < (l0.length : Int)
 rotate_left
 ·rw [if_neg c4] at H
  have c4b0 : decide (x5_1 < (l0.length : Int)) = false := decide_eq_false c4
  clear c4
  obtain rfl := Option.some.inj H
  go_wp2
  repeat (go_quiet (fail); try go_wp2)
  go_ret
  exact ⟨by first | rfl | (simp; done) | (simp [*]; done), by repeat (first | exact Drawn0.refl _ | apply Drawn0.step)⟩
 rw [if_pos c4] at H
 have c4b0 : decide (x5_1 < (l0.length : Int)) = true := decide_eq_true c4
 clear c4
 by_cases c5 : 0 ≤ x5_1
 rotate_left
 ·rw [if_neg c5] at H
  exact absurd H (by simp)
 rw [if_pos c5] at H
 have c5b0 : decide (0 ≤ x5_1) = true := decide_eq_true c5
 clear c5
 by_cases c6 : x5_1 < (l1.length : Int)
 rotate_left
 ·rw [if_neg c6] at H
  exact absurd H (by simp)
 rw [if_pos c6] at H
 have c6b0 : decide (x5_1 < (l1.length : Int)) = true := decide_eq_true c6
 clear c6
 by_cases c7 : (rd l0 x5_1) = (rd l1 x5_1)
 rotate_left
 ·rw [if_neg c7] at H
  have c7b0 : ((rd l0 x5_1) == (rd l1 x5_1)) = false := beq_eq_false_iff_ne.mpr c7
  have c7b1 : ((rd l0 x5_1) != (rd l1 x5_1)) = true := bne_iff_ne.mpr c7
  obtain rfl := Option.some.inj H
  have p106 : 0 ≤ (x5_1 : Int) := of_decide_eq_true (by first | (with_reducible assumption) | assumption)
  have q106 : x5_1 < (l0.length : Int) := of_decide_eq_true (by first | (with_reducible assumption) | assumption)
  obtain ⟨ad106, e106, hx106_0⟩ := Kd.at_int HR0.out x5_1 p106 q106
  cases e106
  replace p106 := eq_true p106
  replace q106 := eq_true q106
  have p107 : 0 ≤ (x5_1 : Int) := of_decide_eq_true (by first | (with_reducible assumption) | assumption)
  have q107 : x5_1 < (l1.length : Int) := of_decide_eq_true (by first | (with_reducible assumption) | assumption)
  obtain ⟨ad107, e107, hx107_0⟩ := Kd.at_int HR1.out x5_1 p107 q107
  cases e107
  replace p107 := eq_true p107
  replace q107 := eq_true q107
  go_wp2
  repeat (go_quiet (fail); try go_wp2)
  go_ret
  exact ⟨by first | rfl | (simp; done) | (simp [*]; done), by repeat (first | exact Drawn0.refl _ | apply Drawn0.step)⟩
 rw [if_pos c7] at H
 have c7b0 : ((rd l0 x5_1) == (rd l1 x5_1)) = true := beq_iff_eq.mpr c7
 have c7b1 : ((rd l0 x5_1) != (rd l1 x5_1)) = false := bne_eq_false_iff_eq.mpr c7
 clear c7
 have H' := Aside0.mk H
 clear H
 have p106 : 0 ≤ (x5_1 : Int) := of_decide_eq_true (by first | (with_reducible assumption) | assumption)
 have q106 : x5_1 < (l0.length : Int) := of_decide_eq_true (by first | (with_reducible assumption) | assumption)
 obtain ⟨ad106, e106, hx106_0⟩ := Kd.at_int HR0.out x5_1 p106 q106
 cases e106
 replace p106 := eq_true p106
 replace q106 := eq_true q106
 have p107 : 0 ≤ (x5_1 : Int) := of_decide_eq_true (by first | (with_reducible assumption) | assumption)
 have q107 : x5_1 < (l1.length : Int) := of_decide_eq_true (by first | (with_reducible assumption) | assumption)
 obtain ⟨ad107, e107, hx107_0⟩ := Kd.at_int HR1.out x5_1 p107 q107
 cases e107
 replace p107 := eq_true p107
 replace q107 := eq_true q107
 go_wp2
 repeat (go_quiet (fail); try go_wp2)
 go_roundg k1
 case measure => have := HK1.out; omega
 case rel => exact ⟨(wrap64 (x5_1 + 1)), (by first | rfl | (simp; done) | (simp [*]; done)), H', ⟨by have := HK1.out; omega⟩, by repeat (first | exact Drawn0.refl _ | apply Drawn0.step)⟩

/-! ### laws_eqRegOp: function 79 -/
def laws_eqRegOp.f (k : Nat) (a0_0 : Int) (a0_1 : Bool) (a0_2 : ByteArray) (a0_3 : Int) (l0_4 : List Int) (a0_5 : Int) (a0_6 : Int) (a0_7 : ByteArray) (a0_8 : Int) (a0_9 : Int) (a1_0 : Int) (a1_1 : Bool) (a1_2 : ByteArray) (a1_3 : Int) (l1_4 : List Int) (a1_5 : Int) (a1_6 : Int) (a1_7 : ByteArray) (a1_8 : Int) (a1_9 : Int) : Option (Bool) := if a0_0 = a1_0 then (if (a0_1 != a1_1) = true then (some false) else (if a0_2.toList = a1_2.toList then (if a0_3 = a1_3 then ((laws_eqIntS.f k l0_4 l1_4).bind fun t110 => (if t110 = true then ((laws_eqCopy.f a0_5 a0_6 a0_7 a1_5 a1_6 a1_7).bind fun t111 => (if t111 = true then (if a0_8 = a1_8 then (if a0_9 = a1_9 then (some true) else (some false)) else (some false)) else (some false))) else (some false))) else (some false)) else (some false))) else (some false)
theorem laws_eqRegOp.mono : ∀ a0 a1 a2 a3 a4 a5 a6 a7 a8 a9 a10 a11 a12 a13 a14 a15 a16 a17 a18 a19 k, LeO (laws_eqRegOp.f k a0 a1 a2 a3 a4 a5 a6 a7 a8 a9 a10 a11 a12 a13 a14 a15 a16 a17 a18 a19) (laws_eqRegOp.f (k + 1) a0 a1 a2 a3 a4 a5 a6 a7 a8 a9 a10 a11 a12 a13 a14 a15 a16 a17 a18 a19) := by
 intro a0 a1 a2 a3 a4 a5 a6 a7 a8 a9 a10 a11 a12 a13 a14 a15 a16 a17 a18 a19 k
 unfold laws_eqRegOp.f
 repeat' first
   | (with_reducible exact laws_eqIntS.mono _ _ _)
   | (with_reducible exact LeO.refl _)
   | (with_reducible exact LeO.none _)
   | (with_reducible refine LeO.ite ?_ ?_)
   | (with_reducible refine LeO.bind ?_ (fun _ => ?_))
   | exact laws_eqIntS.mono _ _ _
   | exact LeO.none _
   | refine LeO.ite ?_ ?_
   | refine LeO.bind ?_ (fun _ => ?_)
set_option maxHeartbeats 8000000 in
set_option maxRecDepth 100000 in
theorem laws_eqRegOp.calls (k : Nat) (a0_0 : Int) (a0_1 : Bool) (a0_2 : ByteArray) (a0_3 : Int) (A0_4 : Option Addr) (c0_4 : Nat) (l0_4 : List Int) (a0_5 : Int) (a0_6 : Int) (a0_7 : ByteArray) (a0_8 : Int) (a0_9 : Int) (a1_0 : Int) (a1_1 : Bool) (a1_2 : ByteArray) (a1_3 : Int) (A1_4 : Option Addr) (c1_4 : Nat) (l1_4 : List Int) (a1_5 : Int) (a1_6 : Int) (a1_7 : ByteArray) (a1_8 : Int) (a1_9 : Int) (r : Bool) (w : World) (hr0_4 : Kd.C (Kd.int .i64) w A0_4 l0_4.length l0_4) (hc0_4 : l0_4.length ≤ c0_4) (hr1_4 : Kd.C (Kd.int .i64) w A1_4 l1_4.length l1_4) (hc1_4 : l1_4.length ≤ c1_4) (h : laws_eqRegOp.f k a0_0 a0_1 a0_2 a0_3 l0_4 a0_5 a0_6 a0_7 a0_8 a0_9 a1_0 a1_1 a1_2 a1_3 l1_4 a1_5 a1_6 a1_7 a1_8 a1_9 = some r) :
  Calls Try.prog 79 #[.agg #[.int .i64 a0_0, .bool a0_1, .string a0_2, .int .i64 a0_3, .slice A0_4 l0_4.length c0_4, .int .i64 a0_5, .int .i64 a0_6, .string a0_7, .int .i64 a0_8, .int .i64 a0_9], .agg #[.int .i64 a1_0, .bool a1_1, .string a1_2, .int .i64 a1_3, .slice A1_4 l1_4.length c1_4, .int .i64 a1_5, .int .i64 a1_6, .string a1_7, .int .i64 a1_8, .int .i64 a1_9]] w fun e w' => e = .returned (.bool r) ∧ Below w.heap.size w w' := by
 have hu83 := Try.underlying83
 have hu40 := Try.underlying40
 have HR0_4 := Aside0.mk hr0_4
 have HC0_4 := Aside0.mk hc0_4
 clear hr0_4 hc0_4
 have HR1_4 := Aside0.mk hr1_4
 have HC1_4 := Aside0.mk hc1_4
 clear hr1_4 hc1_4
 have HB := Aside0.mk (Below.refl w.heap.size w)
 have H : (if a0_0 = a1_0 then (if (a0_1 != a1_1) = true then (some false) else (if a0_2.toList = a1_2.toList then (if a0_3 = a1_3 then ((laws_eqIntS.f k l0_4 l1_4).bind fun t110 => (if t110 = true then ((laws_eqCopy.f a0_5 a0_6 a0_7 a1_5 a1_6 a1_7).bind fun t111 => (if t111 = true then (if a0_8 = a1_8 then (if a0_9 = a1_9 then (some true) else (some false)) else (some false)) else (some false))) else (some false))) else (some false)) else (some false))) else (some false)) = some r := h
 clear h
 by_cases c3 : a0_0 = a1_0
 rotate_left
 ·rw [if_neg c3] at H
  have c3b0 : (a0_0 == a1_0) = false := beq_eq_false_iff_ne.mpr c3
  have c3b1 : (a0_0 != a1_0) = true := bne_iff_ne.mpr c3
  obtain rfl := Option.some.inj H
  go_enter Try.func79, Try.ntmps79
  go_wp2_with (first | ((with_reducible refine gate_dst (N := 2) rfl ?_); refine box_event rfl (N := 2) rfl (cs := #[.int .i64 a0_0, .bool a0_1, .string a0_2, .int .i64 a0_3, .slice A0_4 l0_4.length c0_4, .int .i64 a0_5, .int .i64 a0_6, .string a0_7, .int .i64 a0_8, .int .i64 a0_9]) (t := 83) gs_ ?_; intro gb108 hg w63 hbox hb; have BK108 := Aside0.mk (hbox); have GW108 := Aside0.mk ((by rw [hg]; exact bz_ : w.heap.size ≤ gb108)); have GE108 := GW108; replace HB := Aside0.mk (below_step bl_ hb); clear hb hbox hg) | ((with_reducible refine gate_dst (N := 3) rfl ?_); refine box_event rfl (N := 3) rfl (cs := #[.int .i64 a1_0, .bool a1_1, .string a1_2, .int .i64 a1_3, .slice A1_4 l1_4.length c1_4, .int .i64 a1_5, .int .i64 a1_6, .string a1_7, .int .i64 a1_8, .int .i64 a1_9]) (t := 83) gs_ ?_; intro gb109 hg w64 hbox hb; have BK109 := Aside0.mk (hbox); have GW109 := Aside0.mk ((by rw [hg]; exact bz_ : w.heap.size ≤ gb109)); have GE109 := GW109; replace HB := Aside0.mk (below_step bl_ hb); have NB108_109 := nl_ hg BK108; have NB109_108 := nm_ hg BK108; replace BK108 := bb_ BK108 hb; clear hb hbox hg; have hnb65 := NB108_109.out; have hnc65 := NB109_108.out; have hcz66_0 : w64.cell? ⟨gb108, 0, none⟩ = some (.int .i64 a0_0) := bc_ BK108.out 0; have hcz66_1 : w64.cell? ⟨gb108, 1, none⟩ = some (.bool a0_1) := bc_ BK108.out 1; have hcz66_2 : w64.cell? ⟨gb108, 2, none⟩ = some (.string a0_2) := bc_ BK108.out 2; have hcz66_3 : w64.cell? ⟨gb108, 3, none⟩ = some (.int .i64 a0_3) := bc_ BK108.out 3; have hcz66_4 : w64.cell? ⟨gb108, 4, none⟩ = some (.slice A0_4 l0_4.length c0_4) := bc_ BK108.out 4; have hcz66_5 : w64.cell? ⟨gb108, 5, none⟩ = some (.int .i64 a0_5) := bc_ BK108.out 5; have hcz66_6 : w64.cell? ⟨gb108, 6, none⟩ = some (.int .i64 a0_6) := bc_ BK108.out 6; have hcz66_7 : w64.cell? ⟨gb108, 7, none⟩ = some (.string a0_7) := bc_ BK108.out 7; have hcz66_8 : w64.cell? ⟨gb108, 8, none⟩ = some (.int .i64 a0_8) := bc_ BK108.out 8; have hcz66_9 : w64.cell? ⟨gb108, 9, none⟩ = some (.int .i64 a0_9) := bc_ BK108.out 9; have hfz66_0 := blk_frozen BK108.out 0; have hfz66_1 := blk_frozen BK108.out 1; have hfz66_2 := blk_frozen BK108.out 2; have hfz66_3 := blk_frozen BK108.out 3; have hfz66_4 := blk_frozen BK108.out 4; have hfz66_5 := blk_frozen BK108.out 5; have hfz66_6 := blk_frozen BK108.out 6; have hfz66_7 := blk_frozen BK108.out 7; have hfz66_8 := blk_frozen BK108.out 8; have hfz66_9 := blk_frozen BK108.out 9; have hcz67_0 : w64.cell? ⟨gb109, 0, none⟩ = some (.int .i64 a1_0) := bc_ BK109.out 0; have hcz67_1 : w64.cell? ⟨gb109, 1, none⟩ = some (.bool a1_1) := bc_ BK109.out 1; have hcz67_2 : w64.cell? ⟨gb109, 2, none⟩ = some (.string a1_2) := bc_ BK109.out 2; have hcz67_3 : w64.cell? ⟨gb109, 3, none⟩ = some (.int .i64 a1_3) := bc_ BK109.out 3; have hcz67_4 : w64.cell? ⟨gb109, 4, none⟩ = some (.slice A1_4 l1_4.length c1_4) := bc_ BK109.out 4; have hcz67_5 : w64.cell? ⟨gb109, 5, none⟩ = some (.int .i64 a1_5) := bc_ BK109.out 5; have hcz67_6 : w64.cell? ⟨gb109, 6, none⟩ = some (.int .i64 a1_6) := bc_ BK109.out 6; have hcz67_7 : w64.cell? ⟨gb109, 7, none⟩ = some (.string a1_7) := bc_ BK109.out 7; have hcz67_8 : w64.cell? ⟨gb109, 8, none⟩ = some (.int .i64 a1_8) := bc_ BK109.out 8; have hcz67_9 : w64.cell? ⟨gb109, 9, none⟩ = some (.int .i64 a1_9) := bc_ BK109.out 9; have hfz67_0 := blk_frozen BK109.out 0; have hfz67_1 := blk_frozen BK109.out 1; have hfz67_2 := blk_frozen BK109.out 2; have hfz67_3 := blk_frozen BK109.out 3; have hfz67_4 := blk_frozen BK109.out 4; have hfz67_5 := blk_frozen BK109.out 5; have hfz67_6 := blk_frozen BK109.out 6; have hfz67_7 := blk_frozen BK109.out 7; have hfz67_8 := blk_frozen BK109.out 8; have hfz67_9 := blk_frozen BK109.out 9))
  go_ret
  exact ⟨ng_, bl_⟩
 rw [if_pos c3] at H
 have c3b0 : (a0_0 == a1_0) = true := beq_iff_eq.mpr c3
 have c3b1 : (a0_0 != a1_0) = false := bne_eq_false_iff_eq.mpr c3
 clear c3
 by_cases c4 : (a0_1 != a1_1) = true
 ·rw [if_pos c4] at H
  have c4b0 : (a0_1 != a1_1) = true := c4
  (try (have c4b1 : decide (a0_1 = a1_1) = false := by simpa using c4))
  (try (have c4b2 : (a0_1 == a1_1) = false := by simpa using c4))
  (try (have c4b3 : ¬ (a0_1 = a1_1) := by simpa using c4))
  clear c4
  obtain rfl := Option.some.inj H
  go_enter Try.func79, Try.ntmps79
  go_wp2_with (first | ((with_reducible refine gate_dst (N := 2) rfl ?_); refine box_event rfl (N := 2) rfl (cs := #[.int .i64 a0_0, .bool a0_1, .string a0_2, .int .i64 a0_3, .slice A0_4 l0_4.length c0_4, .int .i64 a0_5, .int .i64 a0_6, .string a0_7, .int .i64 a0_8, .int .i64 a0_9]) (t := 83) gs_ ?_; intro gb108 hg w5 hbox hb; have BK108 := Aside0.mk (hbox); have GW108 := Aside0.mk ((by rw [hg]; exact bz_ : w.heap.size ≤ gb108)); have GE108 := GW108; replace HB := Aside0.mk (below_step bl_ hb); clear hb hbox hg) | ((with_reducible refine gate_dst (N := 3) rfl ?_); refine box_event rfl (N := 3) rfl (cs := #[.int .i64 a1_0, .bool a1_1, .string a1_2, .int .i64 a1_3, .slice A1_4 l1_4.length c1_4, .int .i64 a1_5, .int .i64 a1_6, .string a1_7, .int .i64 a1_8, .int .i64 a1_9]) (t := 83) gs_ ?_; intro gb109 hg w6 hbox hb; have BK109 := Aside0.mk (hbox); have GW109 := Aside0.mk ((by rw [hg]; exact bz_ : w.heap.size ≤ gb109)); have GE109 := GW109; replace HB := Aside0.mk (below_step bl_ hb); have NB108_109 := nl_ hg BK108; have NB109_108 := nm_ hg BK108; replace BK108 := bb_ BK108 hb; clear hb hbox hg; have hnb7 := NB108_109.out; have hnc7 := NB109_108.out; have hcz8_0 : w6.cell? ⟨gb108, 0, none⟩ = some (.int .i64 a0_0) := bc_ BK108.out 0; have hcz8_1 : w6.cell? ⟨gb108, 1, none⟩ = some (.bool a0_1) := bc_ BK108.out 1; have hcz8_2 : w6.cell? ⟨gb108, 2, none⟩ = some (.string a0_2) := bc_ BK108.out 2; have hcz8_3 : w6.cell? ⟨gb108, 3, none⟩ = some (.int .i64 a0_3) := bc_ BK108.out 3; have hcz8_4 : w6.cell? ⟨gb108, 4, none⟩ = some (.slice A0_4 l0_4.length c0_4) := bc_ BK108.out 4; have hcz8_5 : w6.cell? ⟨gb108, 5, none⟩ = some (.int .i64 a0_5) := bc_ BK108.out 5; have hcz8_6 : w6.cell? ⟨gb108, 6, none⟩ = some (.int .i64 a0_6) := bc_ BK108.out 6; have hcz8_7 : w6.cell? ⟨gb108, 7, none⟩ = some (.string a0_7) := bc_ BK108.out 7; have hcz8_8 : w6.cell? ⟨gb108, 8, none⟩ = some (.int .i64 a0_8) := bc_ BK108.out 8; have hcz8_9 : w6.cell? ⟨gb108, 9, none⟩ = some (.int .i64 a0_9) := bc_ BK108.out 9; have hfz8_0 := blk_frozen BK108.out 0; have hfz8_1 := blk_frozen BK108.out 1; have hfz8_2 := blk_frozen BK108.out 2; have hfz8_3 := blk_frozen BK108.out 3; have hfz8_4 := blk_frozen BK108.out 4; have hfz8_5 := blk_frozen BK108.out 5; have hfz8_6 := blk_frozen BK108.out 6; have hfz8_7 := blk_frozen BK108.out 7; have hfz8_8 := blk_frozen BK108.out 8; have hfz8_9 := blk_frozen BK108.out 9; have hcz9_0 : w6.cell? ⟨gb109, 0, none⟩ = some (.int .i64 a1_0) := bc_ BK109.out 0; have hcz9_1 : w6.cell? ⟨gb109, 1, none⟩ = some (.bool a1_1) := bc_ BK109.out 1; have hcz9_2 : w6.cell? ⟨gb109, 2, none⟩ = some (.string a1_2) := bc_ BK109.out 2; have hcz9_3 : w6.cell? ⟨gb109, 3, none⟩ = some (.int .i64 a1_3) := bc_ BK109.out 3; have hcz9_4 : w6.cell? ⟨gb109, 4, none⟩ = some (.slice A1_4 l1_4.length c1_4) := bc_ BK109.out 4; have hcz9_5 : w6.cell? ⟨gb109, 5, none⟩ = some (.int .i64 a1_5) := bc_ BK109.out 5; have hcz9_6 : w6.cell? ⟨gb109, 6, none⟩ = some (.int .i64 a1_6) := bc_ BK109.out 6; have hcz9_7 : w6.cell? ⟨gb109, 7, none⟩ = some (.string a1_7) := bc_ BK109.out 7; have hcz9_8 : w6.cell? ⟨gb109, 8, none⟩ = some (.int .i64 a1_8) := bc_ BK109.out 8; have hcz9_9 : w6.cell? ⟨gb109, 9, none⟩ = some (.int .i64 a1_9) := bc_ BK109.out 9; have hfz9_0 := blk_frozen BK109.out 0; have hfz9_1 := blk_frozen BK109.out 1; have hfz9_2 := blk_frozen BK109.out 2; have hfz9_3 := blk_frozen BK109.out 3; have hfz9_4 := blk_frozen BK109.out 4; have hfz9_5 := blk_frozen BK109.out 5; have hfz9_6 := blk_frozen BK109.out 6; have hfz9_7 := blk_frozen BK109.out 7; have hfz9_8 := blk_frozen BK109.out 8; have hfz9_9 := blk_frozen BK109.out 9))
  go_ret
  exact ⟨ng_, bl_⟩
 rw [if_neg c4] at H
 have c4b0 : (a0_1 != a1_1) = false := by simpa using c4
 (try (have c4b1 : decide (a0_1 = a1_1) = true := by simpa using c4))
 (try (have c4b2 : (a0_1 == a1_1) = true := by simpa using c4))
 clear c4
 by_cases c10 : a0_2.toList = a1_2.toList
 rotate_left
 ·rw [if_neg c10] at H
  have c10b0 : (a0_2.toList == a1_2.toList) = false := beq_eq_false_iff_ne.mpr c10
  have c10b1 : (a0_2.toList != a1_2.toList) = true := bne_iff_ne.mpr c10
  obtain rfl := Option.some.inj H
  go_enter Try.func79, Try.ntmps79
  go_wp2_with (first | ((with_reducible refine gate_dst (N := 2) rfl ?_); refine box_event rfl (N := 2) rfl (cs := #[.int .i64 a0_0, .bool a0_1, .string a0_2, .int .i64 a0_3, .slice A0_4 l0_4.length c0_4, .int .i64 a0_5, .int .i64 a0_6, .string a0_7, .int .i64 a0_8, .int .i64 a0_9]) (t := 83) gs_ ?_; intro gb108 hg w58 hbox hb; have BK108 := Aside0.mk (hbox); have GW108 := Aside0.mk ((by rw [hg]; exact bz_ : w.heap.size ≤ gb108)); have GE108 := GW108; replace HB := Aside0.mk (below_step bl_ hb); clear hb hbox hg) | ((with_reducible refine gate_dst (N := 3) rfl ?_); refine box_event rfl (N := 3) rfl (cs := #[.int .i64 a1_0, .bool a1_1, .string a1_2, .int .i64 a1_3, .slice A1_4 l1_4.length c1_4, .int .i64 a1_5, .int .i64 a1_6, .string a1_7, .int .i64 a1_8, .int .i64 a1_9]) (t := 83) gs_ ?_; intro gb109 hg w59 hbox hb; have BK109 := Aside0.mk (hbox); have GW109 := Aside0.mk ((by rw [hg]; exact bz_ : w.heap.size ≤ gb109)); have GE109 := GW109; replace HB := Aside0.mk (below_step bl_ hb); have NB108_109 := nl_ hg BK108; have NB109_108 := nm_ hg BK108; replace BK108 := bb_ BK108 hb; clear hb hbox hg; have hnb60 := NB108_109.out; have hnc60 := NB109_108.out; have hcz61_0 : w59.cell? ⟨gb108, 0, none⟩ = some (.int .i64 a0_0) := bc_ BK108.out 0; have hcz61_1 : w59.cell? ⟨gb108, 1, none⟩ = some (.bool a0_1) := bc_ BK108.out 1; have hcz61_2 : w59.cell? ⟨gb108, 2, none⟩ = some (.string a0_2) := bc_ BK108.out 2; have hcz61_3 : w59.cell? ⟨gb108, 3, none⟩ = some (.int .i64 a0_3) := bc_ BK108.out 3; have hcz61_4 : w59.cell? ⟨gb108, 4, none⟩ = some (.slice A0_4 l0_4.length c0_4) := bc_ BK108.out 4; have hcz61_5 : w59.cell? ⟨gb108, 5, none⟩ = some (.int .i64 a0_5) := bc_ BK108.out 5; have hcz61_6 : w59.cell? ⟨gb108, 6, none⟩ = some (.int .i64 a0_6) := bc_ BK108.out 6; have hcz61_7 : w59.cell? ⟨gb108, 7, none⟩ = some (.string a0_7) := bc_ BK108.out 7; have hcz61_8 : w59.cell? ⟨gb108, 8, none⟩ = some (.int .i64 a0_8) := bc_ BK108.out 8; have hcz61_9 : w59.cell? ⟨gb108, 9, none⟩ = some (.int .i64 a0_9) := bc_ BK108.out 9; have hfz61_0 := blk_frozen BK108.out 0; have hfz61_1 := blk_frozen BK108.out 1; have hfz61_2 := blk_frozen BK108.out 2; have hfz61_3 := blk_frozen BK108.out 3; have hfz61_4 := blk_frozen BK108.out 4; have hfz61_5 := blk_frozen BK108.out 5; have hfz61_6 := blk_frozen BK108.out 6; have hfz61_7 := blk_frozen BK108.out 7; have hfz61_8 := blk_frozen BK108.out 8; have hfz61_9 := blk_frozen BK108.out 9; have hcz62_0 : w59.cell? ⟨gb109, 0, none⟩ = some (.int .i64 a1_0) := bc_ BK109.out 0; have hcz62_1 : w59.cell? ⟨gb109, 1, none⟩ = some (.bool a1_1) := bc_ BK109.out 1; have hcz62_2 : w59.cell? ⟨gb109, 2, none⟩ = some (.string a1_2) := bc_ BK109.out 2; have hcz62_3 : w59.cell? ⟨gb109, 3, none⟩ = some (.int .i64 a1_3) := bc_ BK109.out 3; have hcz62_4 : w59.cell? ⟨gb109, 4, none⟩ = some (.slice A1_4 l1_4.length c1_4) := bc_ BK109.out 4; have hcz62_5 : w59.cell? ⟨gb109, 5, none⟩ = some (.int .i64 a1_5) := bc_ BK109.out 5; have hcz62_6 : w59.cell? ⟨gb109, 6, none⟩ = some (.int .i64 a1_6) := bc_ BK109.out 6; have hcz62_7 : w59.cell? ⟨gb109, 7, none⟩ = some (.string a1_7) := bc_ BK109.out 7; have hcz62_8 : w59.cell? ⟨gb109, 8, none⟩ = some (.int .i64 a1_8) := bc_ BK109.out 8; have hcz62_9 : w59.cell? ⟨gb109, 9, none⟩ = some (.int .i64 a1_9) := bc_ BK109.out 9; have hfz62_0 := blk_frozen BK109.out 0; have hfz62_1 := blk_frozen BK109.out 1; have hfz62_2 := blk_frozen BK109.out 2; have hfz62_3 := blk_frozen BK109.out 3; have hfz62_4 := blk_frozen BK109.out 4; have hfz62_5 := blk_frozen BK109.out 5; have hfz62_6 := blk_frozen BK109.out 6; have hfz62_7 := blk_frozen BK109.out 7; have hfz62_8 := blk_frozen BK109.out 8; have hfz62_9 := blk_frozen BK109.out 9))
  go_ret
  exact ⟨ng_, bl_⟩
 rw [if_pos c10] at H
 have c10b0 : (a0_2.toList == a1_2.toList) = true := beq_iff_eq.mpr c10
 have c10b1 : (a0_2.toList != a1_2.toList) = false := bne_eq_false_iff_eq.mpr c10
 clear c10
 by_cases c11 : a0_3 = a1_3
 rotate_left
 ·rw [if_neg c11] at H
  have c11b0 : (a0_3 == a1_3) = false := beq_eq_false_iff_ne.mpr c11
  have c11b1 : (a0_3 != a1_3) = true := bne_iff_ne.mpr c11
  obtain rfl := Option.some.inj H
  go_enter Try.func79, Try.ntmps79
  go_wp2_with (first | ((with_reducible refine gate_dst (N := 2) rfl ?_); refine box_event rfl (N := 2) rfl (cs := #[.int .i64 a0_0, .bool a0_1, .string a0_2, .int .i64 a0_3, .slice A0_4 l0_4.length c0_4, .int .i64 a0_5, .int .i64 a0_6, .string a0_7, .int .i64 a0_8, .int .i64 a0_9]) (t := 83) gs_ ?_; intro gb108 hg w53 hbox hb; have BK108 := Aside0.mk (hbox); have GW108 := Aside0.mk ((by rw [hg]; exact bz_ : w.heap.size ≤ gb108)); have GE108 := GW108; replace HB := Aside0.mk (below_step bl_ hb); clear hb hbox hg) | ((with_reducible refine gate_dst (N := 3) rfl ?_); refine box_event rfl (N := 3) rfl (cs := #[.int .i64 a1_0, .bool a1_1, .string a1_2, .int .i64 a1_3, .slice A1_4 l1_4.length c1_4, .int .i64 a1_5, .int .i64 a1_6, .string a1_7, .int .i64 a1_8, .int .i64 a1_9]) (t := 83) gs_ ?_; intro gb109 hg w54 hbox hb; have BK109 := Aside0.mk (hbox); have GW109 := Aside0.mk ((by rw [hg]; exact bz_ : w.heap.size ≤ gb109)); have GE109 := GW109; replace HB := Aside0.mk (below_step bl_ hb); have NB108_109 := nl_ hg BK108; have NB109_108 := nm_ hg BK108; replace BK108 := bb_ BK108 hb; clear hb hbox hg; have hnb55 := NB108_109.out; have hnc55 := NB109_108.out; have hcz56_0 : w54.cell? ⟨gb108, 0, none⟩ = some (.int .i64 a0_0) := bc_ BK108.out 0; have hcz56_1 : w54.cell? ⟨gb108, 1, none⟩ = some (.bool a0_1) := bc_ BK108.out 1; have hcz56_2 : w54.cell? ⟨gb108, 2, none⟩ = some (.string a0_2) := bc_ BK108.out 2; have hcz56_3 : w54.cell? ⟨gb108, 3, none⟩ = some (.int .i64 a0_3) := bc_ BK108.out 3; have hcz56_4 : w54.cell? ⟨gb108, 4, none⟩ = some (.slice A0_4 l0_4.length c0_4) := bc_ BK108.out 4; have hcz56_5 : w54.cell? ⟨gb108, 5, none⟩ = some (.int .i64 a0_5) := bc_ BK108.out 5; have hcz56_6 : w54.cell? ⟨gb108, 6, none⟩ = some (.int .i64 a0_6) := bc_ BK108.out 6; have hcz56_7 : w54.cell? ⟨gb108, 7, none⟩ = some (.string a0_7) := bc_ BK108.out 7; have hcz56_8 : w54.cell? ⟨gb108, 8, none⟩ = some (.int .i64 a0_8) := bc_ BK108.out 8; have hcz56_9 : w54.cell? ⟨gb108, 9, none⟩ = some (.int .i64 a0_9) := bc_ BK108.out 9; have hfz56_0 := blk_frozen BK108.out 0; have hfz56_1 := blk_frozen BK108.out 1; have hfz56_2 := blk_frozen BK108.out 2; have hfz56_3 := blk_frozen BK108.out 3; have hfz56_4 := blk_frozen BK108.out 4; have hfz56_5 := blk_frozen BK108.out 5; have hfz56_6 := blk_frozen BK108.out 6; have hfz56_7 := blk_frozen BK108.out 7; have hfz56_8 := blk_frozen BK108.out 8; have hfz56_9 := blk_frozen BK108.out 9; have hcz57_0 : w54.cell? ⟨gb109, 0, none⟩ = some (.int .i64 a1_0) := bc_ BK109.out 0; have hcz57_1 : w54.cell? ⟨gb109, 1, none⟩ = some (.bool a1_1) := bc_ BK109.out 1; have hcz57_2 : w54.cell? ⟨gb109, 2, none⟩ = some (.string a1_2) := bc_ BK109.out 2; have hcz57_3 : w54.cell? ⟨gb109, 3, none⟩ = some (.int .i64 a1_3) := bc_ BK109.out 3; have hcz57_4 : w54.cell? ⟨gb109, 4, none⟩ = some (.slice A1_4 l1_4.length c1_4) := bc_ BK109.out 4; have hcz57_5 : w54.cell? ⟨gb109, 5, none⟩ = some (.int .i64 a1_5) := bc_ BK109.out 5; have hcz57_6 : w54.cell? ⟨gb109, 6, none⟩ = some (.int .i64 a1_6) := bc_ BK109.out 6; have hcz57_7 : w54.cell? ⟨gb109, 7, none⟩ = some (.string a1_7) := bc_ BK109.out 7; have hcz57_8 : w54.cell? ⟨gb109, 8, none⟩ = some (.int .i64 a1_8) := bc_ BK109.out 8; have hcz57_9 : w54.cell? ⟨gb109, 9, none⟩ = some (.int .i64 a1_9) := bc_ BK109.out 9; have hfz57_0 := blk_frozen BK109.out 0; have hfz57_1 := blk_frozen BK109.out 1; have hfz57_2 := blk_frozen BK109.out 2; have hfz57_3 := blk_frozen BK109.out 3; have hfz57_4 := blk_frozen BK109.out 4; have hfz57_5 := blk_frozen BK109.out 5; have hfz57_6 := blk_frozen BK109.out 6; have hfz57_7 := blk_frozen BK109.out 7; have hfz57_8 := blk_frozen BK109.out 8; have hfz57_9 := blk_frozen BK109.out 9))
  go_ret
  exact ⟨ng_, bl_⟩
 rw [if_pos c11] at H
 have c11b0 : (a0_3 == a1_3) = true := beq_iff_eq.mpr c11
 have c11b1 : (a0_3 != a1_3) = false := bne_eq_false_iff_eq.mpr c11
 clear c11
 replace H := Option.bind_eq_some_iff.mp H
 obtain ⟨t110, A120, H⟩ := H
 replace H : (if t110 = true then ((laws_eqCopy.f a0_5 a0_6 a0_7 a1_5 a1_6 a1_7).bind fun t111 => (if t111 = true then (if a0_8 = a1_8 then (if a0_9 = a1_9 then (some true) else (some false)) else (some false)) else (some false))) else (some false)) = some r := H
 have A12 := Aside0.mk A120
 clear A120
 by_cases c13 : t110 = true
 rotate_left
 ·replace c13 := Bool.eq_false_iff.mpr c13
  subst c13
  have H1 : (some false) = some r := by rw [if_neg (show ¬ (false = true) by decide)] at H; exact H
  clear H
  have H := H1
  clear H1
  obtain rfl := Option.some.inj H
  go_enter Try.func79, Try.ntmps79
  go_wp2_with (first | ((with_reducible refine gate_dst (N := 2) rfl ?_); refine box_event rfl (N := 2) rfl (cs := #[.int .i64 a0_0, .bool a0_1, .string a0_2, .int .i64 a0_3, .slice A0_4 l0_4.length c0_4, .int .i64 a0_5, .int .i64 a0_6, .string a0_7, .int .i64 a0_8, .int .i64 a0_9]) (t := 83) gs_ ?_; intro gb108 hg w48 hbox hb; have BK108 := Aside0.mk (hbox); have GW108 := Aside0.mk ((by rw [hg]; exact bz_ : w.heap.size ≤ gb108)); have GE108 := GW108; replace HB := Aside0.mk (below_step bl_ hb); clear hb hbox hg) | ((with_reducible refine gate_dst (N := 3) rfl ?_); refine box_event rfl (N := 3) rfl (cs := #[.int .i64 a1_0, .bool a1_1, .string a1_2, .int .i64 a1_3, .slice A1_4 l1_4.length c1_4, .int .i64 a1_5, .int .i64 a1_6, .string a1_7, .int .i64 a1_8, .int .i64 a1_9]) (t := 83) gs_ ?_; intro gb109 hg w49 hbox hb; have BK109 := Aside0.mk (hbox); have GW109 := Aside0.mk ((by rw [hg]; exact bz_ : w.heap.size ≤ gb109)); have GE109 := GW109; replace HB := Aside0.mk (below_step bl_ hb); have NB108_109 := nl_ hg BK108; have NB109_108 := nm_ hg BK108; replace BK108 := bb_ BK108 hb; clear hb hbox hg; have hnb50 := NB108_109.out; have hnc50 := NB109_108.out; have hcz51_0 : w49.cell? ⟨gb108, 0, none⟩ = some (.int .i64 a0_0) := bc_ BK108.out 0; have hcz51_1 : w49.cell? ⟨gb108, 1, none⟩ = some (.bool a0_1) := bc_ BK108.out 1; have hcz51_2 : w49.cell? ⟨gb108, 2, none⟩ = some (.string a0_2) := bc_ BK108.out 2; have hcz51_3 : w49.cell? ⟨gb108, 3, none⟩ = some (.int .i64 a0_3) := bc_ BK108.out 3; have hcz51_4 : w49.cell? ⟨gb108, 4, none⟩ = some (.slice A0_4 l0_4.length c0_4) := bc_ BK108.out 4; have hcz51_5 : w49.cell? ⟨gb108, 5, none⟩ = some (.int .i64 a0_5) := bc_ BK108.out 5; have hcz51_6 : w49.cell? ⟨gb108, 6, none⟩ = some (.int .i64 a0_6) := bc_ BK108.out 6; have hcz51_7 : w49.cell? ⟨gb108, 7, none⟩ = some (.string a0_7) := bc_ BK108.out 7; have hcz51_8 : w49.cell? ⟨gb108, 8, none⟩ = some (.int .i64 a0_8) := bc_ BK108.out 8; have hcz51_9 : w49.cell? ⟨gb108, 9, none⟩ = some (.int .i64 a0_9) := bc_ BK108.out 9; have hfz51_0 := blk_frozen BK108.out 0; have hfz51_1 := blk_frozen BK108.out 1; have hfz51_2 := blk_frozen BK108.out 2; have hfz51_3 := blk_frozen BK108.out 3; have hfz51_4 := blk_frozen BK108.out 4; have hfz51_5 := blk_frozen BK108.out 5; have hfz51_6 := blk_frozen BK108.out 6; have hfz51_7 := blk_frozen BK108.out 7; have hfz51_8 := blk_frozen BK108.out 8; have hfz51_9 := blk_frozen BK108.out 9; have hcz52_0 : w49.cell? ⟨gb109, 0, none⟩ = some (.int .i64 a1_0) := bc_ BK109.out 0; have hcz52_1 : w49.cell? ⟨gb109, 1, none⟩ = some (.bool a1_1) := bc_ BK109.out 1; have hcz52_2 : w49.cell? ⟨gb109, 2, none⟩ = some (.string a1_2) := bc_ BK109.out 2; have hcz52_3 : w49.cell? ⟨gb109, 3, none⟩ = some (.int .i64 a1_3) := bc_ BK109.out 3; have hcz52_4 : w49.cell? ⟨gb109, 4, none⟩ = some (.slice A1_4 l1_4.length c1_4) := bc_ BK109.out 4; have hcz52_5 : w49.cell? ⟨gb109, 5, none⟩ = some (.int .i64 a1_5) := bc_ BK109.out 5; have hcz52_6 : w49.cell? ⟨gb109, 6, none⟩ = some (.int .i64 a1_6) := bc_ BK109.out 6; have hcz52_7 : w49.cell? ⟨gb109, 7, none⟩ = some (.string a1_7) := bc_ BK109.out 7; have hcz52_8 : w49.cell? ⟨gb109, 8, none⟩ = some (.int .i64 a1_8) := bc_ BK109.out 8; have hcz52_9 : w49.cell? ⟨gb109, 9, none⟩ = some (.int .i64 a1_9) := bc_ BK109.out 9; have hfz52_0 := blk_frozen BK109.out 0; have hfz52_1 := blk_frozen BK109.out 1; have hfz52_2 := blk_frozen BK109.out 2; have hfz52_3 := blk_frozen BK109.out 3; have hfz52_4 := blk_frozen BK109.out 4; have hfz52_5 := blk_frozen BK109.out 5; have hfz52_6 := blk_frozen BK109.out 6; have hfz52_7 := blk_frozen BK109.out 7; have hfz52_8 := blk_frozen BK109.out 8; have hfz52_9 := blk_frozen BK109.out 9) | ((with_reducible refine gate_callee (f := 32) rfl ?_); refine goesL_ (some 29) rfl rfl Try.func32 (by kernel_rfl) rfl #[.slice A0_4 l0_4.length c0_4, .slice A1_4 l1_4.length c1_4] rfl nc_ ?_; (with_reducible refine (laws_eqIntS.calls k _ _ l0_4 _ _ l1_4 false _ ?side1 ?side2 ?side3 ?side4 A12.out).mono ?_); (case side1 => exact kc_ (Kd.C_below HR0_4.out HB.out)); (case side2 => exact HC0_4.out); (case side3 => exact kc_ (Kd.C_below HR1_4.out HB.out)); (case side4 => exact HC1_4.out); rintro e w' ⟨rfl, ⟨nd, rfl⟩⟩; refine ⟨_, rfl, ?_⟩))
  go_ret
  exact ⟨ng_, bl_⟩
 subst c13
 have H1 : ((laws_eqCopy.f a0_5 a0_6 a0_7 a1_5 a1_6 a1_7).bind fun t111 => (if t111 = true then (if a0_8 = a1_8 then (if a0_9 = a1_9 then (some true) else (some false)) else (some false)) else (some false))) = some r := by rw [if_pos rfl] at H; exact H
 clear H
 have H := H1
 clear H1
 replace H := Option.bind_eq_some_iff.mp H
 obtain ⟨t111, A140, H⟩ := H
 replace H : (if t111 = true then (if a0_8 = a1_8 then (if a0_9 = a1_9 then (some true) else (some false)) else (some false)) else (some false)) = some r := H
 have A14 := Aside0.mk A140
 clear A140
 by_cases c15 : t111 = true
 rotate_left
 ·replace c15 := Bool.eq_false_iff.mpr c15
  subst c15
  have H1 : (some false) = some r := by rw [if_neg (show ¬ (false = true) by decide)] at H; exact H
  clear H
  have H := H1
  clear H1
  obtain rfl := Option.some.inj H
  go_enter Try.func79, Try.ntmps79
  go_wp2_with (first | ((with_reducible refine gate_dst (N := 2) rfl ?_); refine box_event rfl (N := 2) rfl (cs := #[.int .i64 a0_0, .bool a0_1, .string a0_2, .int .i64 a0_3, .slice A0_4 l0_4.length c0_4, .int .i64 a0_5, .int .i64 a0_6, .string a0_7, .int .i64 a0_8, .int .i64 a0_9]) (t := 83) gs_ ?_; intro gb108 hg w42 hbox hb; have BK108 := Aside0.mk (hbox); have GW108 := Aside0.mk ((by rw [hg]; exact bz_ : w.heap.size ≤ gb108)); have GE108 := GW108; replace HB := Aside0.mk (below_step bl_ hb); clear hb hbox hg) | ((with_reducible refine gate_dst (N := 3) rfl ?_); refine box_event rfl (N := 3) rfl (cs := #[.int .i64 a1_0, .bool a1_1, .string a1_2, .int .i64 a1_3, .slice A1_4 l1_4.length c1_4, .int .i64 a1_5, .int .i64 a1_6, .string a1_7, .int .i64 a1_8, .int .i64 a1_9]) (t := 83) gs_ ?_; intro gb109 hg w43 hbox hb; have BK109 := Aside0.mk (hbox); have GW109 := Aside0.mk ((by rw [hg]; exact bz_ : w.heap.size ≤ gb109)); have GE109 := GW109; replace HB := Aside0.mk (below_step bl_ hb); have NB108_109 := nl_ hg BK108; have NB109_108 := nm_ hg BK108; replace BK108 := bb_ BK108 hb; clear hb hbox hg; have hnb44 := NB108_109.out; have hnc44 := NB109_108.out; have hcz45_0 : w43.cell? ⟨gb108, 0, none⟩ = some (.int .i64 a0_0) := bc_ BK108.out 0; have hcz45_1 : w43.cell? ⟨gb108, 1, none⟩ = some (.bool a0_1) := bc_ BK108.out 1; have hcz45_2 : w43.cell? ⟨gb108, 2, none⟩ = some (.string a0_2) := bc_ BK108.out 2; have hcz45_3 : w43.cell? ⟨gb108, 3, none⟩ = some (.int .i64 a0_3) := bc_ BK108.out 3; have hcz45_4 : w43.cell? ⟨gb108, 4, none⟩ = some (.slice A0_4 l0_4.length c0_4) := bc_ BK108.out 4; have hcz45_5 : w43.cell? ⟨gb108, 5, none⟩ = some (.int .i64 a0_5) := bc_ BK108.out 5; have hcz45_6 : w43.cell? ⟨gb108, 6, none⟩ = some (.int .i64 a0_6) := bc_ BK108.out 6; have hcz45_7 : w43.cell? ⟨gb108, 7, none⟩ = some (.string a0_7) := bc_ BK108.out 7; have hcz45_8 : w43.cell? ⟨gb108, 8, none⟩ = some (.int .i64 a0_8) := bc_ BK108.out 8; have hcz45_9 : w43.cell? ⟨gb108, 9, none⟩ = some (.int .i64 a0_9) := bc_ BK108.out 9; have hfz45_0 := blk_frozen BK108.out 0; have hfz45_1 := blk_frozen BK108.out 1; have hfz45_2 := blk_frozen BK108.out 2; have hfz45_3 := blk_frozen BK108.out 3; have hfz45_4 := blk_frozen BK108.out 4; have hfz45_5 := blk_frozen BK108.out 5; have hfz45_6 := blk_frozen BK108.out 6; have hfz45_7 := blk_frozen BK108.out 7; have hfz45_8 := blk_frozen BK108.out 8; have hfz45_9 := blk_frozen BK108.out 9; have hcz46_0 : w43.cell? ⟨gb109, 0, none⟩ = some (.int .i64 a1_0) := bc_ BK109.out 0; have hcz46_1 : w43.cell? ⟨gb109, 1, none⟩ = some (.bool a1_1) := bc_ BK109.out 1; have hcz46_2 : w43.cell? ⟨gb109, 2, none⟩ = some (.string a1_2) := bc_ BK109.out 2; have hcz46_3 : w43.cell? ⟨gb109, 3, none⟩ = some (.int .i64 a1_3) := bc_ BK109.out 3; have hcz46_4 : w43.cell? ⟨gb109, 4, none⟩ = some (.slice A1_4 l1_4.length c1_4) := bc_ BK109.out 4; have hcz46_5 : w43.cell? ⟨gb109, 5, none⟩ = some (.int .i64 a1_5) := bc_ BK109.out 5; have hcz46_6 : w43.cell? ⟨gb109, 6, none⟩ = some (.int .i64 a1_6) := bc_ BK109.out 6; have hcz46_7 : w43.cell? ⟨gb109, 7, none⟩ = some (.string a1_7) := bc_ BK109.out 7; have hcz46_8 : w43.cell? ⟨gb109, 8, none⟩ = some (.int .i64 a1_8) := bc_ BK109.out 8; have hcz46_9 : w43.cell? ⟨gb109, 9, none⟩ = some (.int .i64 a1_9) := bc_ BK109.out 9; have hfz46_0 := blk_frozen BK109.out 0; have hfz46_1 := blk_frozen BK109.out 1; have hfz46_2 := blk_frozen BK109.out 2; have hfz46_3 := blk_frozen BK109.out 3; have hfz46_4 := blk_frozen BK109.out 4; have hfz46_5 := blk_frozen BK109.out 5; have hfz46_6 := blk_frozen BK109.out 6; have hfz46_7 := blk_frozen BK109.out 7; have hfz46_8 := blk_frozen BK109.out 8; have hfz46_9 := blk_frozen BK109.out 9) | ((with_reducible refine gate_callee (f := 32) rfl ?_); refine goesL_ (some 29) rfl rfl Try.func32 (by kernel_rfl) rfl #[.slice A0_4 l0_4.length c0_4, .slice A1_4 l1_4.length c1_4] rfl nc_ ?_; (with_reducible refine (laws_eqIntS.calls k _ _ l0_4 _ _ l1_4 true _ ?side1 ?side2 ?side3 ?side4 A12.out).mono ?_); (case side1 => exact kc_ (Kd.C_below HR0_4.out HB.out)); (case side2 => exact HC0_4.out); (case side3 => exact kc_ (Kd.C_below HR1_4.out HB.out)); (case side4 => exact HC1_4.out); rintro e w' ⟨rfl, ⟨nd, rfl⟩⟩; refine ⟨_, rfl, ?_⟩) | ((with_reducible refine gate_callee (f := 22) rfl ?_); refine goesL_ (some 35) rfl rfl Try.func22 (by kernel_rfl) rfl #[.agg #[.int .i64 a0_5, .int .i64 a0_6, .string a0_7], .agg #[.int .i64 a1_5, .int .i64 a1_6, .string a1_7]] rfl nc_ ?_; (with_reducible refine (laws_eqCopy.calls a0_5 a0_6 a0_7 a1_5 a1_6 a1_7 false _ A14.out).mono ?_); rintro e w47 ⟨rfl, hb⟩; refine ⟨_, rfl, ?_⟩; replace BK108 := bb_ BK108 hb; replace BK109 := bb_ BK109 hb; replace HB := Aside0.mk (below_step bl_ hb); clear hb))
  go_ret
  exact ⟨ng_, bl_⟩
 subst c15
 have H1 : (if a0_8 = a1_8 then (if a0_9 = a1_9 then (some true) else (some false)) else (some false)) = some r := by rw [if_pos rfl] at H; exact H
 clear H
 have H := H1
 clear H1
 by_cases c16 : a0_8 = a1_8
 rotate_left
 ·rw [if_neg c16] at H
  have c16b0 : (a0_8 == a1_8) = false := beq_eq_false_iff_ne.mpr c16
  have c16b1 : (a0_8 != a1_8) = true := bne_iff_ne.mpr c16
  obtain rfl := Option.some.inj H
  go_enter Try.func79, Try.ntmps79
  go_wp2_with (first | ((with_reducible refine gate_dst (N := 2) rfl ?_); refine box_event rfl (N := 2) rfl (cs := #[.int .i64 a0_0, .bool a0_1, .string a0_2, .int .i64 a0_3, .slice A0_4 l0_4.length c0_4, .int .i64 a0_5, .int .i64 a0_6, .string a0_7, .int .i64 a0_8, .int .i64 a0_9]) (t := 83) gs_ ?_; intro gb108 hg w34 hbox hb; have BK108 := Aside0.mk (hbox); have GW108 := Aside0.mk ((by rw [hg]; exact bz_ : w.heap.size ≤ gb108)); have GE108 := GW108; replace HB := Aside0.mk (below_step bl_ hb); clear hb hbox hg) | ((with_reducible refine gate_dst (N := 3) rfl ?_); refine box_event rfl (N := 3) rfl (cs := #[.int .i64 a1_0, .bool a1_1, .string a1_2, .int .i64 a1_3, .slice A1_4 l1_4.length c1_4, .int .i64 a1_5, .int .i64 a1_6, .string a1_7, .int .i64 a1_8, .int .i64 a1_9]) (t := 83) gs_ ?_; intro gb109 hg w35 hbox hb; have BK109 := Aside0.mk (hbox); have GW109 := Aside0.mk ((by rw [hg]; exact bz_ : w.heap.size ≤ gb109)); have GE109 := GW109; replace HB := Aside0.mk (below_step bl_ hb); have NB108_109 := nl_ hg BK108; have NB109_108 := nm_ hg BK108; replace BK108 := bb_ BK108 hb; clear hb hbox hg; have hnb36 := NB108_109.out; have hnc36 := NB109_108.out; have hcz37_0 : w35.cell? ⟨gb108, 0, none⟩ = some (.int .i64 a0_0) := bc_ BK108.out 0; have hcz37_1 : w35.cell? ⟨gb108, 1, none⟩ = some (.bool a0_1) := bc_ BK108.out 1; have hcz37_2 : w35.cell? ⟨gb108, 2, none⟩ = some (.string a0_2) := bc_ BK108.out 2; have hcz37_3 : w35.cell? ⟨gb108, 3, none⟩ = some (.int .i64 a0_3) := bc_ BK108.out 3; have hcz37_4 : w35.cell? ⟨gb108, 4, none⟩ = some (.slice A0_4 l0_4.length c0_4) := bc_ BK108.out 4; have hcz37_5 : w35.cell? ⟨gb108, 5, none⟩ = some (.int .i64 a0_5) := bc_ BK108.out 5; have hcz37_6 : w35.cell? ⟨gb108, 6, none⟩ = some (.int .i64 a0_6) := bc_ BK108.out 6; have hcz37_7 : w35.cell? ⟨gb108, 7, none⟩ = some (.string a0_7) := bc_ BK108.out 7; have hcz37_8 : w35.cell? ⟨gb108, 8, none⟩ = some (.int .i64 a0_8) := bc_ BK108.out 8; have hcz37_9 : w35.cell? ⟨gb108, 9, none⟩ = some (.int .i64 a0_9) := bc_ BK108.out 9; have hfz37_0 := blk_frozen BK108.out 0; have hfz37_1 := blk_frozen BK108.out 1; have hfz37_2 := blk_frozen BK108.out 2; have hfz37_3 := blk_frozen BK108.out 3; have hfz37_4 := blk_frozen BK108.out 4; have hfz37_5 := blk_frozen BK108.out 5; have hfz37_6 := blk_frozen BK108.out 6; have hfz37_7 := blk_frozen BK108.out 7; have hfz37_8 := blk_frozen BK108.out 8; have hfz37_9 := blk_frozen BK108.out 9; have hcz38_0 : w35.cell? ⟨gb109, 0, none⟩ = some (.int .i64 a1_0) := bc_ BK109.out 0; have hcz38_1 : w35.cell? ⟨gb109, 1, none⟩ = some (.bool a1_1) := bc_ BK109.out 1; have hcz38_2 : w35.cell? ⟨gb109, 2, none⟩ = some (.string a1_2) := bc_ BK109.out 2; have hcz38_3 : w35.cell? ⟨gb109, 3, none⟩ = some (.int .i64 a1_3) := bc_ BK109.out 3; have hcz38_4 : w35.cell? ⟨gb109, 4, none⟩ = some (.slice A1_4 l1_4.length c1_4) := bc_ BK109.out 4; have hcz38_5 : w35.cell? ⟨gb109, 5, none⟩ = some (.int .i64 a1_5) := bc_ BK109.out 5; have hcz38_6 : w35.cell? ⟨gb109, 6, none⟩ = some (.int .i64 a1_6) := bc_ BK109.out 6; have hcz38_7 : w35.cell? ⟨gb109, 7, none⟩ = some (.string a1_7) := bc_ BK109.out 7; have hcz38_8 : w35.cell? ⟨gb109, 8, none⟩ = some (.int .i64 a1_8) := bc_ BK109.out 8; have hcz38_9 : w35.cell? ⟨gb109, 9, none⟩ = some (.int .i64 a1_9) := bc_ BK109.out 9; have hfz38_0 := blk_frozen BK109.out 0; have hfz38_1 := blk_frozen BK109.out 1; have hfz38_2 := blk_frozen BK109.out 2; have hfz38_3 := blk_frozen BK109.out 3; have hfz38_4 := blk_frozen BK109.out 4; have hfz38_5 := blk_frozen BK109.out 5; have hfz38_6 := blk_frozen BK109.out 6; have hfz38_7 := blk_frozen BK109.out 7; have hfz38_8 := blk_frozen BK109.out 8; have hfz38_9 := blk_frozen BK109.out 9) | ((with_reducible refine gate_callee (f := 32) rfl ?_); refine goesL_ (some 29) rfl rfl Try.func32 (by kernel_rfl) rfl #[.slice A0_4 l0_4.length c0_4, .slice A1_4 l1_4.length c1_4] rfl nc_ ?_; (with_reducible refine (laws_eqIntS.calls k _ _ l0_4 _ _ l1_4 true _ ?side1 ?side2 ?side3 ?side4 A12.out).mono ?_); (case side1 => exact kc_ (Kd.C_below HR0_4.out HB.out)); (case side2 => exact HC0_4.out); (case side3 => exact kc_ (Kd.C_below HR1_4.out HB.out)); (case side4 => exact HC1_4.out); rintro e w' ⟨rfl, ⟨nd, rfl⟩⟩; refine ⟨_, rfl, ?_⟩) | ((with_reducible refine gate_callee (f := 22) rfl ?_); refine goesL_ (some 35) rfl rfl Try.func22 (by kernel_rfl) rfl #[.agg #[.int .i64 a0_5, .int .i64 a0_6, .string a0_7], .agg #[.int .i64 a1_5, .int .i64 a1_6, .string a1_7]] rfl nc_ ?_; (with_reducible refine (laws_eqCopy.calls a0_5 a0_6 a0_7 a1_5 a1_6 a1_7 true _ A14.out).mono ?_); rintro e w39 ⟨rfl, hb⟩; refine ⟨_, rfl, ?_⟩; replace BK108 := bb_ BK108 hb; replace BK109 := bb_ BK109 hb; replace HB := Aside0.mk (below_step bl_ hb); clear hb; have hcz40_0 : w39.cell? ⟨gb108, 0, none⟩ = some (.int .i64 a0_0) := bc_ BK108.out 0; have hcz40_1 : w39.cell? ⟨gb108, 1, none⟩ = some (.bool a0_1) := bc_ BK108.out 1; have hcz40_2 : w39.cell? ⟨gb108, 2, none⟩ = some (.string a0_2) := bc_ BK108.out 2; have hcz40_3 : w39.cell? ⟨gb108, 3, none⟩ = some (.int .i64 a0_3) := bc_ BK108.out 3; have hcz40_4 : w39.cell? ⟨gb108, 4, none⟩ = some (.slice A0_4 l0_4.length c0_4) := bc_ BK108.out 4; have hcz40_5 : w39.cell? ⟨gb108, 5, none⟩ = some (.int .i64 a0_5) := bc_ BK108.out 5; have hcz40_6 : w39.cell? ⟨gb108, 6, none⟩ = some (.int .i64 a0_6) := bc_ BK108.out 6; have hcz40_7 : w39.cell? ⟨gb108, 7, none⟩ = some (.string a0_7) := bc_ BK108.out 7; have hcz40_8 : w39.cell? ⟨gb108, 8, none⟩ = some (.int .i64 a0_8) := bc_ BK108.out 8; have hcz40_9 : w39.cell? ⟨gb108, 9, none⟩ = some (.int .i64 a0_9) := bc_ BK108.out 9; have hfz40_0 := blk_frozen BK108.out 0; have hfz40_1 := blk_frozen BK108.out 1; have hfz40_2 := blk_frozen BK108.out 2; have hfz40_3 := blk_frozen BK108.out 3; have hfz40_4 := blk_frozen BK108.out 4; have hfz40_5 := blk_frozen BK108.out 5; have hfz40_6 := blk_frozen BK108.out 6; have hfz40_7 := blk_frozen BK108.out 7; have hfz40_8 := blk_frozen BK108.out 8; have hfz40_9 := blk_frozen BK108.out 9; have hcz41_0 : w39.cell? ⟨gb109, 0, none⟩ = some (.int .i64 a1_0) := bc_ BK109.out 0; have hcz41_1 : w39.cell? ⟨gb109, 1, none⟩ = some (.bool a1_1) := bc_ BK109.out 1; have hcz41_2 : w39.cell? ⟨gb109, 2, none⟩ = some (.string a1_2) := bc_ BK109.out 2; have hcz41_3 : w39.cell? ⟨gb109, 3, none⟩ = some (.int .i64 a1_3) := bc_ BK109.out 3; have hcz41_4 : w39.cell? ⟨gb109, 4, none⟩ = some (.slice A1_4 l1_4.length c1_4) := bc_ BK109.out 4; have hcz41_5 : w39.cell? ⟨gb109, 5, none⟩ = some (.int .i64 a1_5) := bc_ BK109.out 5; have hcz41_6 : w39.cell? ⟨gb109, 6, none⟩ = some (.int .i64 a1_6) := bc_ BK109.out 6; have hcz41_7 : w39.cell? ⟨gb109, 7, none⟩ = some (.string a1_7) := bc_ BK109.out 7; have hcz41_8 : w39.cell? ⟨gb109, 8, none⟩ = some (.int .i64 a1_8) := bc_ BK109.out 8; have hcz41_9 : w39.cell? ⟨gb109, 9, none⟩ = some (.int .i64 a1_9) := bc_ BK109.out 9; have hfz41_0 := blk_frozen BK109.out 0; have hfz41_1 := blk_frozen BK109.out 1; have hfz41_2 := blk_frozen BK109.out 2; have hfz41_3 := blk_frozen BK109.out 3; have hfz41_4 := blk_frozen BK109.out 4; have hfz41_5 := blk_frozen BK109.out 5; have hfz41_6 := blk_frozen BK109.out 6; have hfz41_7 := blk_frozen BK109.out 7; have hfz41_8 := blk_frozen BK109.out 8; have hfz41_9 := blk_frozen BK109.out 9))
  go_ret
  exact ⟨ng_, bl_⟩
 rw [if_pos c16] at H
 have c16b0 : (a0_8 == a1_8) = true := beq_iff_eq.mpr c16
 have c16b1 : (a0_8 != a1_8) = false := bne_eq_false_iff_eq.mpr c16
 clear c16
 by_cases c17 : a0_9 = a1_9
 rotate_left
 ·rw [if_neg c17] at H
  have c17b0 : (a0_9 == a1_9) = false := beq_eq_false_iff_ne.mpr c17
  have c17b1 : (a0_9 != a1_9) = true := bne_iff_ne.mpr c17
  obtain rfl := Option.some.inj H
  go_enter Try.func79, Try.ntmps79
  go_wp2_with (first | ((with_reducible refine gate_dst (N := 2) rfl ?_); refine box_event rfl (N := 2) rfl (cs := #[.int .i64 a0_0, .bool a0_1, .string a0_2, .int .i64 a0_3, .slice A0_4 l0_4.length c0_4, .int .i64 a0_5, .int .i64 a0_6, .string a0_7, .int .i64 a0_8, .int .i64 a0_9]) (t := 83) gs_ ?_; intro gb108 hg w26 hbox hb; have BK108 := Aside0.mk (hbox); have GW108 := Aside0.mk ((by rw [hg]; exact bz_ : w.heap.size ≤ gb108)); have GE108 := GW108; replace HB := Aside0.mk (below_step bl_ hb); clear hb hbox hg) | ((with_reducible refine gate_dst (N := 3) rfl ?_); refine box_event rfl (N := 3) rfl (cs := #[.int .i64 a1_0, .bool a1_1, .string a1_2, .int .i64 a1_3, .slice A1_4 l1_4.length c1_4, .int .i64 a1_5, .int .i64 a1_6, .string a1_7, .int .i64 a1_8, .int .i64 a1_9]) (t := 83) gs_ ?_; intro gb109 hg w27 hbox hb; have BK109 := Aside0.mk (hbox); have GW109 := Aside0.mk ((by rw [hg]; exact bz_ : w.heap.size ≤ gb109)); have GE109 := GW109; replace HB := Aside0.mk (below_step bl_ hb); have NB108_109 := nl_ hg BK108; have NB109_108 := nm_ hg BK108; replace BK108 := bb_ BK108 hb; clear hb hbox hg; have hnb28 := NB108_109.out; have hnc28 := NB109_108.out; have hcz29_0 : w27.cell? ⟨gb108, 0, none⟩ = some (.int .i64 a0_0) := bc_ BK108.out 0; have hcz29_1 : w27.cell? ⟨gb108, 1, none⟩ = some (.bool a0_1) := bc_ BK108.out 1; have hcz29_2 : w27.cell? ⟨gb108, 2, none⟩ = some (.string a0_2) := bc_ BK108.out 2; have hcz29_3 : w27.cell? ⟨gb108, 3, none⟩ = some (.int .i64 a0_3) := bc_ BK108.out 3; have hcz29_4 : w27.cell? ⟨gb108, 4, none⟩ = some (.slice A0_4 l0_4.length c0_4) := bc_ BK108.out 4; have hcz29_5 : w27.cell? ⟨gb108, 5, none⟩ = some (.int .i64 a0_5) := bc_ BK108.out 5; have hcz29_6 : w27.cell? ⟨gb108, 6, none⟩ = some (.int .i64 a0_6) := bc_ BK108.out 6; have hcz29_7 : w27.cell? ⟨gb108, 7, none⟩ = some (.string a0_7) := bc_ BK108.out 7; have hcz29_8 : w27.cell? ⟨gb108, 8, none⟩ = some (.int .i64 a0_8) := bc_ BK108.out 8; have hcz29_9 : w27.cell? ⟨gb108, 9, none⟩ = some (.int .i64 a0_9) := bc_ BK108.out 9; have hfz29_0 := blk_frozen BK108.out 0; have hfz29_1 := blk_frozen BK108.out 1; have hfz29_2 := blk_frozen BK108.out 2; have hfz29_3 := blk_frozen BK108.out 3; have hfz29_4 := blk_frozen BK108.out 4; have hfz29_5 := blk_frozen BK108.out 5; have hfz29_6 := blk_frozen BK108.out 6; have hfz29_7 := blk_frozen BK108.out 7; have hfz29_8 := blk_frozen BK108.out 8; have hfz29_9 := blk_frozen BK108.out 9; have hcz30_0 : w27.cell? ⟨gb109, 0, none⟩ = some (.int .i64 a1_0) := bc_ BK109.out 0; have hcz30_1 : w27.cell? ⟨gb109, 1, none⟩ = some (.bool a1_1) := bc_ BK109.out 1; have hcz30_2 : w27.cell? ⟨gb109, 2, none⟩ = some (.string a1_2) := bc_ BK109.out 2; have hcz30_3 : w27.cell? ⟨gb109, 3, none⟩ = some (.int .i64 a1_3) := bc_ BK109.out 3; have hcz30_4 : w27.cell? ⟨gb109, 4, none⟩ = some (.slice A1_4 l1_4.length c1_4) := bc_ BK109.out 4; have hcz30_5 : w27.cell? ⟨gb109, 5, none⟩ = some (.int .i64 a1_5) := bc_ BK109.out 5; have hcz30_6 : w27.cell? ⟨gb109, 6, none⟩ = some (.int .i64 a1_6) := bc_ BK109.out 6; have hcz30_7 : w27.cell? ⟨gb109, 7, none⟩ = some (.string a1_7) := bc_ BK109.out 7; have hcz30_8 : w27.cell? ⟨gb109, 8, none⟩ = some (.int .i64 a1_8) := bc_ BK109.out 8; have hcz30_9 : w27.cell? ⟨gb109, 9, none⟩ = some (.int .i64 a1_9) := bc_ BK109.out 9; have hfz30_0 := blk_frozen BK109.out 0; have hfz30_1 := blk_frozen BK109.out 1; have hfz30_2 := blk_frozen BK109.out 2; have hfz30_3 := blk_frozen BK109.out 3; have hfz30_4 := blk_frozen BK109.out 4; have hfz30_5 := blk_frozen BK109.out 5; have hfz30_6 := blk_frozen BK109.out 6; have hfz30_7 := blk_frozen BK109.out 7; have hfz30_8 := blk_frozen BK109.out 8; have hfz30_9 := blk_frozen BK109.out 9) | ((with_reducible refine gate_callee (f := 32) rfl ?_); refine goesL_ (some 29) rfl rfl Try.func32 (by kernel_rfl) rfl #[.slice A0_4 l0_4.length c0_4, .slice A1_4 l1_4.length c1_4] rfl nc_ ?_; (with_reducible refine (laws_eqIntS.calls k _ _ l0_4 _ _ l1_4 true _ ?side1 ?side2 ?side3 ?side4 A12.out).mono ?_); (case side1 => exact kc_ (Kd.C_below HR0_4.out HB.out)); (case side2 => exact HC0_4.out); (case side3 => exact kc_ (Kd.C_below HR1_4.out HB.out)); (case side4 => exact HC1_4.out); rintro e w' ⟨rfl, ⟨nd, rfl⟩⟩; refine ⟨_, rfl, ?_⟩) | ((with_reducible refine gate_callee (f := 22) rfl ?_); refine goesL_ (some 35) rfl rfl Try.func22 (by kernel_rfl) rfl #[.agg #[.int .i64 a0_5, .int .i64 a0_6, .string a0_7], .agg #[.int .i64 a1_5, .int .i64 a1_6, .string a1_7]] rfl nc_ ?_; (with_reducible refine (laws_eqCopy.calls a0_5 a0_6 a0_7 a1_5 a1_6 a1_7 true _ A14.out).mono ?_); rintro e w31 ⟨rfl, hb⟩; refine ⟨_, rfl, ?_⟩; replace BK108 := bb_ BK108 hb; replace BK109 := bb_ BK109 hb; replace HB := Aside0.mk (below_step bl_ hb); clear hb; have hcz32_0 : w31.cell? ⟨gb108, 0, none⟩ = some (.int .i64 a0_0) := bc_ BK108.out 0; have hcz32_1 : w31.cell? ⟨gb108, 1, none⟩ = some (.bool a0_1) := bc_ BK108.out 1; have hcz32_2 : w31.cell? ⟨gb108, 2, none⟩ = some (.string a0_2) := bc_ BK108.out 2; have hcz32_3 : w31.cell? ⟨gb108, 3, none⟩ = some (.int .i64 a0_3) := bc_ BK108.out 3; have hcz32_4 : w31.cell? ⟨gb108, 4, none⟩ = some (.slice A0_4 l0_4.length c0_4) := bc_ BK108.out 4; have hcz32_5 : w31.cell? ⟨gb108, 5, none⟩ = some (.int .i64 a0_5) := bc_ BK108.out 5; have hcz32_6 : w31.cell? ⟨gb108, 6, none⟩ = some (.int .i64 a0_6) := bc_ BK108.out 6; have hcz32_7 : w31.cell? ⟨gb108, 7, none⟩ = some (.string a0_7) := bc_ BK108.out 7; have hcz32_8 : w31.cell? ⟨gb108, 8, none⟩ = some (.int .i64 a0_8) := bc_ BK108.out 8; have hcz32_9 : w31.cell? ⟨gb108, 9, none⟩ = some (.int .i64 a0_9) := bc_ BK108.out 9; have hfz32_0 := blk_frozen BK108.out 0; have hfz32_1 := blk_frozen BK108.out 1; have hfz32_2 := blk_frozen BK108.out 2; have hfz32_3 := blk_frozen BK108.out 3; have hfz32_4 := blk_frozen BK108.out 4; have hfz32_5 := blk_frozen BK108.out 5; have hfz32_6 := blk_frozen BK108.out 6; have hfz32_7 := blk_frozen BK108.out 7; have hfz32_8 := blk_frozen BK108.out 8; have hfz32_9 := blk_frozen BK108.out 9; have hcz33_0 : w31.cell? ⟨gb109, 0, none⟩ = some (.int .i64 a1_0) := bc_ BK109.out 0; have hcz33_1 : w31.cell? ⟨gb109, 1, none⟩ = some (.bool a1_1) := bc_ BK109.out 1; have hcz33_2 : w31.cell? ⟨gb109, 2, none⟩ = some (.string a1_2) := bc_ BK109.out 2; have hcz33_3 : w31.cell? ⟨gb109, 3, none⟩ = some (.int .i64 a1_3) := bc_ BK109.out 3; have hcz33_4 : w31.cell? ⟨gb109, 4, none⟩ = some (.slice A1_4 l1_4.length c1_4) := bc_ BK109.out 4; have hcz33_5 : w31.cell? ⟨gb109, 5, none⟩ = some (.int .i64 a1_5) := bc_ BK109.out 5; have hcz33_6 : w31.cell? ⟨gb109, 6, none⟩ = some (.int .i64 a1_6) := bc_ BK109.out 6; have hcz33_7 : w31.cell? ⟨gb109, 7, none⟩ = some (.string a1_7) := bc_ BK109.out 7; have hcz33_8 : w31.cell? ⟨gb109, 8, none⟩ = some (.int .i64 a1_8) := bc_ BK109.out 8; have hcz33_9 : w31.cell? ⟨gb109, 9, none⟩ = some (.int .i64 a1_9) := bc_ BK109.out 9; have hfz33_0 := blk_frozen BK109.out 0; have hfz33_1 := blk_frozen BK109.out 1; have hfz33_2 := blk_frozen BK109.out 2; have hfz33_3 := blk_frozen BK109.out 3; have hfz33_4 := blk_frozen BK109.out 4; have hfz33_5 := blk_frozen BK109.out 5; have hfz33_6 := blk_frozen BK109.out 6; have hfz33_7 := blk_frozen BK109.out 7; have hfz33_8 := blk_frozen BK109.out 8; have hfz33_9 := blk_frozen BK109.out 9))
  go_ret
  exact ⟨ng_, bl_⟩
 rw [if_pos c17] at H
 have c17b0 : (a0_9 == a1_9) = true := beq_iff_eq.mpr c17
 have c17b1 : (a0_9 != a1_9) = false := bne_eq_false_iff_eq.mpr c17
 clear c17
 obtain rfl := Option.some.inj H
 go_enter Try.func79, Try.ntmps79
 go_wp2_with (first | ((with_reducible refine gate_dst (N := 2) rfl ?_); refine box_event rfl (N := 2) rfl (cs := #[.int .i64 a0_0, .bool a0_1, .string a0_2, .int .i64 a0_3, .slice A0_4 l0_4.length c0_4, .int .i64 a0_5, .int .i64 a0_6, .string a0_7, .int .i64 a0_8, .int .i64 a0_9]) (t := 83) gs_ ?_; intro gb108 hg w18 hbox hb; have BK108 := Aside0.mk (hbox); have GW108 := Aside0.mk ((by rw [hg]; exact bz_ : w.heap.size ≤ gb108)); have GE108 := GW108; replace HB := Aside0.mk (below_step bl_ hb); clear hb hbox hg) | ((with_reducible refine gate_dst (N := 3) rfl ?_); refine box_event rfl (N := 3) rfl (cs := #[.int .i64 a1_0, .bool a1_1, .string a1_2, .int .i64 a1_3, .slice A1_4 l1_4.length c1_4, .int .i64 a1_5, .int .i64 a1_6, .string a1_7, .int .i64 a1_8, .int .i64 a1_9]) (t := 83) gs_ ?_; intro gb109 hg w19 hbox hb; have BK109 := Aside0.mk (hbox); have GW109 := Aside0.mk ((by rw [hg]; exact bz_ : w.heap.size ≤ gb109)); have GE109 := GW109; replace HB := Aside0.mk (below_step bl_ hb); have NB108_109 := nl_ hg BK108; have NB109_108 := nm_ hg BK108; replace BK108 := bb_ BK108 hb; clear hb hbox hg; have hnb20 := NB108_109.out; have hnc20 := NB109_108.out; have hcz21_0 : w19.cell? ⟨gb108, 0, none⟩ = some (.int .i64 a0_0) := bc_ BK108.out 0; have hcz21_1 : w19.cell? ⟨gb108, 1, none⟩ = some (.bool a0_1) := bc_ BK108.out 1; have hcz21_2 : w19.cell? ⟨gb108, 2, none⟩ = some (.string a0_2) := bc_ BK108.out 2; have hcz21_3 : w19.cell? ⟨gb108, 3, none⟩ = some (.int .i64 a0_3) := bc_ BK108.out 3; have hcz21_4 : w19.cell? ⟨gb108, 4, none⟩ = some (.slice A0_4 l0_4.length c0_4) := bc_ BK108.out 4; have hcz21_5 : w19.cell? ⟨gb108, 5, none⟩ = some (.int .i64 a0_5) := bc_ BK108.out 5; have hcz21_6 : w19.cell? ⟨gb108, 6, none⟩ = some (.int .i64 a0_6) := bc_ BK108.out 6; have hcz21_7 : w19.cell? ⟨gb108, 7, none⟩ = some (.string a0_7) := bc_ BK108.out 7; have hcz21_8 : w19.cell? ⟨gb108, 8, none⟩ = some (.int .i64 a0_8) := bc_ BK108.out 8; have hcz21_9 : w19.cell? ⟨gb108, 9, none⟩ = some (.int .i64 a0_9) := bc_ BK108.out 9; have hfz21_0 := blk_frozen BK108.out 0; have hfz21_1 := blk_frozen BK108.out 1; have hfz21_2 := blk_frozen BK108.out 2; have hfz21_3 := blk_frozen BK108.out 3; have hfz21_4 := blk_frozen BK108.out 4; have hfz21_5 := blk_frozen BK108.out 5; have hfz21_6 := blk_frozen BK108.out 6; have hfz21_7 := blk_frozen BK108.out 7; have hfz21_8 := blk_frozen BK108.out 8; have hfz21_9 := blk_frozen BK108.out 9; have hcz22_0 : w19.cell? ⟨gb109, 0, none⟩ = some (.int .i64 a1_0) := bc_ BK109.out 0; have hcz22_1 : w19.cell? ⟨gb109, 1, none⟩ = some (.bool a1_1) := bc_ BK109.out 1; have hcz22_2 : w19.cell? ⟨gb109, 2, none⟩ = some (.string a1_2) := bc_ BK109.out 2; have hcz22_3 : w19.cell? ⟨gb109, 3, none⟩ = some (.int .i64 a1_3) := bc_ BK109.out 3; have hcz22_4 : w19.cell? ⟨gb109, 4, none⟩ = some (.slice A1_4 l1_4.length c1_4) := bc_ BK109.out 4; have hcz22_5 : w19.cell? ⟨gb109, 5, none⟩ = some (.int .i64 a1_5) := bc_ BK109.out 5; have hcz22_6 : w19.cell? ⟨gb109, 6, none⟩ = some (.int .i64 a1_6) := bc_ BK109.out 6; have hcz22_7 : w19.cell? ⟨gb109, 7, none⟩ = some (.string a1_7) := bc_ BK109.out 7; have hcz22_8 : w19.cell? ⟨gb109, 8, none⟩ = some (.int .i64 a1_8) := bc_ BK109.out 8; have hcz22_9 : w19.cell? ⟨gb109, 9, none⟩ = some (.int .i64 a1_9) := bc_ BK109.out 9; have hfz22_0 := blk_frozen BK109.out 0; have hfz22_1 := blk_frozen BK109.out 1; have hfz22_2 := blk_frozen BK109.out 2; have hfz22_3 := blk_frozen BK109.out 3; have hfz22_4 := blk_frozen BK109.out 4; have hfz22_5 := blk_frozen BK109.out 5; have hfz22_6 := blk_frozen BK109.out 6; have hfz22_7 := blk_frozen BK109.out 7; have hfz22_8 := blk_frozen BK109.out 8; have hfz22_9 := blk_frozen BK109.out 9) | ((with_reducible refine gate_callee (f := 32) rfl ?_); refine goesL_ (some 29) rfl rfl Try.func32 (by kernel_rfl) rfl #[.slice A0_4 l0_4.length c0_4, .slice A1_4 l1_4.length c1_4] rfl nc_ ?_; (with_reducible refine (laws_eqIntS.calls k _ _ l0_4 _ _ l1_4 true _ ?side1 ?side2 ?side3 ?side4 A12.out).mono ?_); (case side1 => exact kc_ (Kd.C_below HR0_4.out HB.out)); (case side2 => exact HC0_4.out); (case side3 => exact kc_ (Kd.C_below HR1_4.out HB.out)); (case side4 => exact HC1_4.out); rintro e w' ⟨rfl, ⟨nd, rfl⟩⟩; refine ⟨_, rfl, ?_⟩) | ((with_reducible refine gate_callee (f := 22) rfl ?_); refine goesL_ (some 35) rfl rfl Try.func22 (by kernel_rfl) rfl #[.agg #[.int .i64 a0_5, .int .i64 a0_6, .string a0_7], .agg #[.int .i64 a1_5, .int .i64 a1_6, .string a1_7]] rfl nc_ ?_; (with_reducible refine (laws_eqCopy.calls a0_5 a0_6 a0_7 a1_5 a1_6 a1_7 true _ A14.out).mono ?_); rintro e w23 ⟨rfl, hb⟩; refine ⟨_, rfl, ?_⟩; replace BK108 := bb_ BK108 hb; replace BK109 := bb_ BK109 hb; replace HB := Aside0.mk (below_step bl_ hb); clear hb; have hcz24_0 : w23.cell? ⟨gb108, 0, none⟩ = some (.int .i64 a0_0) := bc_ BK108.out 0; have hcz24_1 : w23.cell? ⟨gb108, 1, none⟩ = some (.bool a0_1) := bc_ BK108.out 1; have hcz24_2 : w23.cell? ⟨gb108, 2, none⟩ = some (.string a0_2) := bc_ BK108.out 2; have hcz24_3 : w23.cell? ⟨gb108, 3, none⟩ = some (.int .i64 a0_3) := bc_ BK108.out 3; have hcz24_4 : w23.cell? ⟨gb108, 4, none⟩ = some (.slice A0_4 l0_4.length c0_4) := bc_ BK108.out 4; have hcz24_5 : w23.cell? ⟨gb108, 5, none⟩ = some (.int .i64 a0_5) := bc_ BK108.out 5; have hcz24_6 : w23.cell? ⟨gb108, 6, none⟩ = some (.int .i64 a0_6) := bc_ BK108.out 6; have hcz24_7 : w23.cell? ⟨gb108, 7, none⟩ = some (.string a0_7) := bc_ BK108.out 7; have hcz24_8 : w23.cell? ⟨gb108, 8, none⟩ = some (.int .i64 a0_8) := bc_ BK108.out 8; have hcz24_9 : w23.cell? ⟨gb108, 9, none⟩ = some (.int .i64 a0_9) := bc_ BK108.out 9; have hfz24_0 := blk_frozen BK108.out 0; have hfz24_1 := blk_frozen BK108.out 1; have hfz24_2 := blk_frozen BK108.out 2; have hfz24_3 := blk_frozen BK108.out 3; have hfz24_4 := blk_frozen BK108.out 4; have hfz24_5 := blk_frozen BK108.out 5; have hfz24_6 := blk_frozen BK108.out 6; have hfz24_7 := blk_frozen BK108.out 7; have hfz24_8 := blk_frozen BK108.out 8; have hfz24_9 := blk_frozen BK108.out 9; have hcz25_0 : w23.cell? ⟨gb109, 0, none⟩ = some (.int .i64 a1_0) := bc_ BK109.out 0; have hcz25_1 : w23.cell? ⟨gb109, 1, none⟩ = some (.bool a1_1) := bc_ BK109.out 1; have hcz25_2 : w23.cell? ⟨gb109, 2, none⟩ = some (.string a1_2) := bc_ BK109.out 2; have hcz25_3 : w23.cell? ⟨gb109, 3, none⟩ = some (.int .i64 a1_3) := bc_ BK109.out 3; have hcz25_4 : w23.cell? ⟨gb109, 4, none⟩ = some (.slice A1_4 l1_4.length c1_4) := bc_ BK109.out 4; have hcz25_5 : w23.cell? ⟨gb109, 5, none⟩ = some (.int .i64 a1_5) := bc_ BK109.out 5; have hcz25_6 : w23.cell? ⟨gb109, 6, none⟩ = some (.int .i64 a1_6) := bc_ BK109.out 6; have hcz25_7 : w23.cell? ⟨gb109, 7, none⟩ = some (.string a1_7) := bc_ BK109.out 7; have hcz25_8 : w23.cell? ⟨gb109, 8, none⟩ = some (.int .i64 a1_8) := bc_ BK109.out 8; have hcz25_9 : w23.cell? ⟨gb109, 9, none⟩ = some (.int .i64 a1_9) := bc_ BK109.out 9; have hfz25_0 := blk_frozen BK109.out 0; have hfz25_1 := blk_frozen BK109.out 1; have hfz25_2 := blk_frozen BK109.out 2; have hfz25_3 := blk_frozen BK109.out 3; have hfz25_4 := blk_frozen BK109.out 4; have hfz25_5 := blk_frozen BK109.out 5; have hfz25_6 := blk_frozen BK109.out 6; have hfz25_7 := blk_frozen BK109.out 7; have hfz25_8 := blk_frozen BK109.out 8; have hfz25_9 := blk_frozen BK109.out 9))
 go_ret
 exact ⟨ng_, bl_⟩

end Go.Proofs.Ytipfikmbldgliaa.PRG
