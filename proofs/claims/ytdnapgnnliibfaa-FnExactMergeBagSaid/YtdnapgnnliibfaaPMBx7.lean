/- What this text proves: the machine calls of these functions return what the plain functions say. Conditions: as each theorem says. Printed by a program of this session out of the translation. -/
import Derived.Test.YtdnapgnnliibfaaPMBx0
import Derived.Test.YtdnapgnnliibfaaPMBx6
namespace Go.Proofs.Ytdnapgnnliibfaa.PMB
open Go.RowKit Go.Proofs.YtdnapgnnliibfaaW.PrintWords Go.Proofs.YtdnapgnnliibfaaW.PrintLast Go.Proofs.YtdnapgnnliibfaaW.PrintMore
attribute [local go_sem] max2_int min2_int max_two min_two max_three min_three max_four min_four   -- for this text's walks alone
set_option linter.unusedVariables false
set_option linter.unusedSimpArgs false

/-! ### impl_areAdds: function 55 -/
def impl_areAdds.l0 : Nat → List (S48) → List (S48) → Int → Int → Option (Bool)
 | 0, _, _, _, _ => none
 | k + 1, x0, x5, x6, x7 => if x7 < x6 then (if 0 ≤ x7 then (if x7 < (x5.length : Int) then ((impl_isValue.f k ((rd_T48 x5 x7).f0)).bind fun t236 => (if t236 = true then ((impl_in.f ((rd_T48 x5 x7).f1) 0 5).bind fun t237 => (if t237 = true then ((impl_in.f ((rd_T48 x5 x7).f2) 1 1000).bind fun t238 => (if t238 = true then (if x7 > 0 then (if 0 ≤ (wrap64 (x7 - 1)) then (if (wrap64 (x7 - 1)) < (x0.length : Int) then ((impl_compareAdds.f k ((rd_T48 x0 (wrap64 (x7 - 1))).f0) ((rd_T48 x0 (wrap64 (x7 - 1))).f1) ((rd_T48 x0 (wrap64 (x7 - 1))).f2) ((rd_T48 x5 x7).f0) ((rd_T48 x5 x7).f1) ((rd_T48 x5 x7).f2)).bind fun t240 => (if t240 ≥ 0 then (some false) else (impl_areAdds.l0 k x0 x5 x6 (wrap64 (x7 + 1))))) else (none)) else (none)) else (impl_areAdds.l0 k x0 x5 x6 (wrap64 (x7 + 1)))) else (some false))) else (some false))) else (some false))) else (none)) else (none)) else (some (decide ((x0.length : Int) ≤ 40)))
def impl_areAdds.f (k : Nat) (l0 : List (S48)) : Option (Bool) := impl_areAdds.l0 k l0 l0 (l0.length : Int) 0
theorem impl_areAdds.mono_l : ∀ k, (∀ y0 y1 y2 y3, LeO (impl_areAdds.l0 k y0 y1 y2 y3) (impl_areAdds.l0 (k + 1) y0 y1 y2 y3))
 | 0 => fun _ _ _ _ r h => by simp [impl_areAdds.l0] at h
 | k + 1 => by
  have ih0 := impl_areAdds.mono_l k
  ·intro y0 y1 y2 y3
   unfold impl_areAdds.l0
   repeat' first
   | (with_reducible exact ih0 _ _ _ _)
   | (with_reducible exact impl_compareAdds.mono _ _ _ _ _ _ _)
   | (with_reducible exact impl_isValue.mono _ _)
   | (with_reducible exact LeO.refl _)
   | (with_reducible exact LeO.none _)
   | (with_reducible refine LeO.ite ?_ ?_)
   | (with_reducible refine LeO.bind ?_ (fun _ => ?_))
   | exact ih0 _ _ _ _
   | exact impl_compareAdds.mono _ _ _ _ _ _ _
   | exact impl_isValue.mono _ _
   | exact LeO.none _
   | refine LeO.ite ?_ ?_
   | refine LeO.bind ?_ (fun _ => ?_)
theorem impl_areAdds.mono : ∀ a0 k, LeO (impl_areAdds.f k a0) (impl_areAdds.f (k + 1) a0) := by
 intro a0 k
 have ih0 := impl_areAdds.mono_l k
 unfold impl_areAdds.f
 repeat' first
   | (with_reducible exact ih0 _ _ _ _)
   | (with_reducible exact impl_compareAdds.mono _ _ _ _ _ _ _)
   | (with_reducible exact impl_isValue.mono _ _)
   | (with_reducible exact LeO.refl _)
   | (with_reducible exact LeO.none _)
   | (with_reducible refine LeO.ite ?_ ?_)
   | (with_reducible refine LeO.bind ?_ (fun _ => ?_))
   | exact ih0 _ _ _ _
   | exact impl_compareAdds.mono _ _ _ _ _ _ _
   | exact impl_isValue.mono _ _
   | exact LeO.none _
   | refine LeO.ite ?_ ?_
   | refine LeO.bind ?_ (fun _ => ?_)
def impl_areAdds.T4 : Bool × List (List Nat × List Nat) := (true, [([], []), ([0], [0]), ([1], [1]), ([2], [2]), ([3, 2], [3]), ([4], [4]), ([5, 4], [4, 5]), ([6, 4, 4], [4, 6]), ([7, 4], [4, 7]), ([4, 8], [4, 8]), ([9, 7], [9]), ([10], [10]), ([11, 10], [10, 11]), ([12, 10, 10], [10, 12]), ([13, 10], [10, 13]), ([10, 14], [10, 14]), ([15, 13], [15]), ([16], [16]), ([17, 16], [16, 17]), ([18, 16, 16], [16, 18]), ([19], [19]), ([19], [19]), ([21, 19], [19, 21]), ([20, 22, 19], [19, 20, 22]), ([23, 19], [19, 23]), ([19], [19]), ([24, 25, 19, 19], [19, 24, 25]), ([26, 19], [19, 26]), ([19, 27, 16], [16, 19, 27]), ([16, 28], [16, 28])])
def impl_areAdds.B4 : List Nat := [0, 1, 3, 7, 15, 31, 63, 127, 255, 511, 1023, 2047, 4095, 8191, 16383, 32767, 65535, 131071, 262143, 524287, 1048575, 1048575, 3145727, 8388607, 16777215, 1048575, 67108863, 134217727, 268435455, 536870911]
theorem impl_areAdds.tab4 : rtab .any (opsOf Try.f55 4) = impl_areAdds.T4 := by kernel_rfl
theorem impl_areAdds.bits4 : waitsOk impl_areAdds.T4.2 impl_areAdds.B4 = true := by kernel_rfl
set_option maxHeartbeats 8000000 in
set_option maxRecDepth 100000 in
theorem impl_areAdds.calls (k : Nat) (A0 : Option Addr) (c0 : Nat) (l0 : List (S48)) (r : Bool) (w : World) (hr0 : Kd.C k48 w A0 l0.length l0) (hc0 : l0.length ≤ c0) (h : impl_areAdds.f k l0 = some r) :
  Calls Try.prog 55 #[.slice A0 l0.length c0] w fun e w' => e = .returned (.bool r) ∧ Below w.heap.size w w' := by
 have hu48 := Try.underlying48
 have HR0 := Aside0.mk hr0
 have HC0 := Aside0.mk hc0
 clear hr0 hc0
 have HB := Aside0.mk (Below.refl w.heap.size w)
 have H : (impl_areAdds.l0 k l0 l0 (l0.length : Int) 0) = some r := h
 clear h
 have H' := Aside0.mk H
 clear H
 go_enter Try.func55, Try.ntmps55
 go_wp2
 go_loopg [7] k (fun kq v7 w' => ∃ (x7_1 : Int), v7 = .int .i64 x7_1 ∧ Aside0 (impl_areAdds.l0 kq l0 l0 (l0.length : Int) x7_1 = some r) ∧ Aside0 (kq ≤ k) ∧ Aside0 (Below w.heap.size w w'))
 case atStart => exact ⟨(0), (by first | rfl | (simp; done) | (simp [*]; done)), H', ⟨Nat.le_refl _⟩, ⟨bl_⟩⟩
 clear H'
 obtain ⟨x7_1, rfl, HA, HK1, HB⟩ := hrel
 cases gk with
 | zero => exact absurd HA.out (by simp [impl_areAdds.l0])
 | succ k1 => ?_
 have H := HA.out
 clear HA
 simp only [impl_areAdds.l0] at H
 by_cases c2 : x7_1 < (l0.length : Int)
 rotate_left
 ·rw [if_neg c2] at H
  have c2b0 : decide (x7_1 < (l0.length : Int)) = false := decide_eq_false c2
  clear c2
  obtain rfl := Option.some.inj H
  go_wp2
  go_ret
  exact ⟨ng_, bl_⟩
 rw [if_pos c2] at H
 have c2b0 : decide (x7_1 < (l0.length : Int)) = true := decide_eq_true c2
 clear c2
 by_cases c3 : 0 ≤ x7_1
 rotate_left
 ·rw [if_neg c3] at H
  exact absurd H (by simp)
 rw [if_pos c3] at H
 have c3b0 : decide (0 ≤ x7_1) = true := decide_eq_true c3
 clear c3
 by_cases c4 : x7_1 < (l0.length : Int)
 rotate_left
 ·rw [if_neg c4] at H
  exact absurd H (by simp)
 rw [if_pos c4] at H
 have c4b0 : decide (x7_1 < (l0.length : Int)) = true := decide_eq_true c4
 clear c4
 replace H := Option.bind_eq_some_iff.mp H
 obtain ⟨t236, A50, H⟩ := H
 replace H : (if t236 = true then ((impl_in.f ((rd_T48 l0 x7_1).f1) 0 5).bind fun t237 => (if t237 = true then ((impl_in.f ((rd_T48 l0 x7_1).f2) 1 1000).bind fun t238 => (if t238 = true then (if x7_1 > 0 then (if 0 ≤ (wrap64 (x7_1 - 1)) then (if (wrap64 (x7_1 - 1)) < (l0.length : Int) then ((impl_compareAdds.f k1 ((rd_T48 l0 (wrap64 (x7_1 - 1))).f0) ((rd_T48 l0 (wrap64 (x7_1 - 1))).f1) ((rd_T48 l0 (wrap64 (x7_1 - 1))).f2) ((rd_T48 l0 x7_1).f0) ((rd_T48 l0 x7_1).f1) ((rd_T48 l0 x7_1).f2)).bind fun t240 => (if t240 ≥ 0 then (some false) else (impl_areAdds.l0 k1 l0 l0 (l0.length : Int) (wrap64 (x7_1 + 1))))) else (none)) else (none)) else (impl_areAdds.l0 k1 l0 l0 (l0.length : Int) (wrap64 (x7_1 + 1)))) else (some false))) else (some false))) else (some false)) = some r := H
 have A5 := Aside0.mk A50
 clear A50
 by_cases c6 : t236 = true
 rotate_left
 ·replace c6 := Bool.eq_false_iff.mpr c6
  subst c6
  have H1 : (some false) = some r := by rw [if_neg (show ¬ (false = true) by decide)] at H; exact H
  clear H
  have H := H1
  clear H1
  obtain rfl := Option.some.inj H
  have p234 : 0 ≤ (x7_1 : Int) := of_decide_eq_true (by first | (with_reducible assumption) | assumption)
  have q234 : x7_1 < (l0.length : Int) := of_decide_eq_true (by first | (with_reducible assumption) | assumption)
  obtain ⟨ad234, e234, hx234_0, hx234_1, hx234_2⟩ := at_T48 HR0.out x7_1 p234 q234
  cases e234
  replace hx234_0 := (HB.out.cell (World.block_lt_of_cell? w _ hx234_0)).trans hx234_0
  replace hx234_1 := (HB.out.cell (World.block_lt_of_cell? w _ hx234_1)).trans hx234_1
  replace hx234_2 := (HB.out.cell (World.block_lt_of_cell? w _ hx234_2)).trans hx234_2
  replace p234 := eq_true p234
  replace q234 := eq_true q234
  try go_wp2_with (first | ((with_reducible refine gate_dst (N := 4) rfl ?_); refine box_event rfl (N := 4) rfl (cs := #[.string (⟨#[]⟩ : ByteArray), .int .i64 0, .int .i64 0]) (t := 48) gs_ ?_; intro gb235 hg w39 hbox hb; have BK235 := Aside0.mk (hbox); have GW235 := Aside0.mk ((by rw [hg]; exact bz_ : w.heap.size ≤ gb235)); have GE235 := GW235; replace HB := Aside0.mk (below_step bl_ hb); clear hb hbox hg; have hcz40_0 : w39.cell? ⟨gb235, 0, none⟩ = some (.string (⟨#[]⟩ : ByteArray)) := bc_ BK235.out 0; have hcz40_1 : w39.cell? ⟨gb235, 1, none⟩ = some (.int .i64 0) := bc_ BK235.out 1; have hcz40_2 : w39.cell? ⟨gb235, 2, none⟩ = some (.int .i64 0) := bc_ BK235.out 2; have hfz40_0 := blk_frozen BK235.out 0; have hfz40_1 := blk_frozen BK235.out 1; have hfz40_2 := blk_frozen BK235.out 2))
  have n0_ : Aside0 ((((w39.setCell ⟨gb235, 0, none⟩ (.string ((rd_T48 l0 x7_1).f0))).setCell ⟨gb235, 1, none⟩ (.int .i64 ((rd_T48 l0 x7_1).f1))).setCell ⟨gb235, 2, none⟩ (.int .i64 ((rd_T48 l0 x7_1).f2))).heap[gb235]? = some (.cells #[.string ((rd_T48 l0 x7_1).f0), .int .i64 ((rd_T48 l0 x7_1).f1), .int .i64 ((rd_T48 l0 x7_1).f2)] 48 (0, 0))) := ⟨by (with_reducible repeat (first | refine blk_drewN ?_ _ | refine blk_drew ?_ | refine blk_alloc ?_ _)); refine blk_put (cs := #[.string ((rd_T48 l0 x7_1).f0), .int .i64 ((rd_T48 l0 x7_1).f1), .int .i64 0]) ?_ 2 _ rfl; (with_reducible repeat (first | refine blk_drewN ?_ _ | refine blk_drew ?_ | refine blk_alloc ?_ _)); refine blk_put (cs := #[.string ((rd_T48 l0 x7_1).f0), .int .i64 0, .int .i64 0]) ?_ 1 _ rfl; (with_reducible repeat (first | refine blk_drewN ?_ _ | refine blk_drew ?_ | refine blk_alloc ?_ _)); refine blk_put (cs := #[.string (⟨#[]⟩ : ByteArray), .int .i64 0, .int .i64 0]) ?_ 0 _ rfl; exact kb_ BK235.out⟩
  have n1_ : Aside0 (Below w.heap.size w (((w39.setCell ⟨gb235, 0, none⟩ (.string ((rd_T48 l0 x7_1).f0))).setCell ⟨gb235, 1, none⟩ (.int .i64 ((rd_T48 l0 x7_1).f1))).setCell ⟨gb235, 2, none⟩ (.int .i64 ((rd_T48 l0 x7_1).f2)))) := ⟨bl_⟩
  (try clear BK235)
  (try clear HB)
  generalize (((w39.setCell ⟨gb235, 0, none⟩ (.string ((rd_T48 l0 x7_1).f0))).setCell ⟨gb235, 1, none⟩ (.int .i64 ((rd_T48 l0 x7_1).f1))).setCell ⟨gb235, 2, none⟩ (.int .i64 ((rd_T48 l0 x7_1).f2))) = w41 at n0_ n1_ ⊢
  have BK235 := n0_
  have HB := n1_
  clear n0_ n1_
  replace BK235 := Aside0.mk (blk_drew BK235.out)
  replace HB := Aside0.mk (below_drew1 HB.out)
  refine start_ (n := 30) (S := fun w' => w'.cell? ⟨gb235, 0, none⟩ = some (.string ((rd_T48 l0 x7_1).f0)) ∧ w'.cell? ⟨gb235, 1, none⟩ = some (.int .i64 ((rd_T48 l0 x7_1).f1)) ∧ w'.cell? ⟨gb235, 2, none⟩ = some (.int .i64 ((rd_T48 l0 x7_1).f2))) (ds := []) #[false, false, false, false, false, false, false, false, false, false, false, false, false, false, false, false, false, false, false, false, false, false, false, false, false, false, false, false, false, false] (by kernel_rfl) rfl rfl ⟨bc_ BK235.out 0, bc_ BK235.out 1, bc_ BK235.out 2⟩ (fun hHeld => ?_); refine with_tabW impl_areAdds.tab4 impl_areAdds.bits4 (fun HT_ HW_ => ?_)
  generalize w41.drew = w42 at BK235 HB hHeld ⊢
  refine pu_ 0 (some 12) (h := ?_)
  refine tk3_ 1 (some 13) (h := ?_)
  refine on_ 2 (some 14) (h := fun K hK => ?_)
  refine goes_ Try.func50 (by kernel_rfl) rfl #[.string ((rd_T48 l0 x7_1).f0)] (by rfl) rfl rfl nc_ ?_
  with_reducible refine (impl_isValue.calls k1 ((rd_T48 l0 x7_1).f0) false _ A5.out).mono ?_
  rintro e w' ⟨rfl, ⟨nd, rfl⟩⟩
  refine ⟨_, rfl, ?_⟩
  refine hK.out _ _ ⟨bc_ BK235.out 0, bc_ BK235.out 1, bc_ BK235.out 2⟩ (fun hHeld => ?_)
  clear hK K
  refine norm_ nn_ ?_
  refine pu_ 3 (some 15) (h := ?_)
  refine pu_ 4 (some 16) (h := ?_)
  refine px_ 5 (some 17) (h := ?_)
  refine px_ 6 (some 18) (h := ?_)
  refine px_ 7 (some 19) (h := ?_)
  refine px_ 8 (some 20) (h := ?_)
  refine pu_ 9 (some 21) (h := ?_)
  refine pu_ 10 (some 22) (h := ?_)
  refine px_ 11 (some 23) (h := ?_)
  refine px_ 12 (some 24) (h := ?_)
  refine px_ 13 (some 25) (h := ?_)
  refine px_ 14 (some 26) (h := ?_)
  refine pu_ 15 (some 27) (h := ?_)
  refine pu_ 16 (some 28) (h := ?_)
  refine px_ 17 (some 29) (h := ?_)
  refine px_ 18 (some 30) (h := ?_)
  refine px_ 19 (some 31) (h := ?_)
  refine px_ 20 (some 32) (h := ?_)
  refine px_ 21 (some 33) (h := ?_)
  refine px_ 22 (some 34) (h := ?_)
  refine px_ 23 (some 35) (h := ?_)
  refine px_ 24 (some 36) (h := ?_)
  refine px_ 25 (some 37) (h := ?_)
  refine px_ 26 (some 38) (h := ?_)
  refine px_ 27 (some 39) (h := ?_)
  refine px_ 28 (some 40) (h := ?_)
  refine pu_ 29 (some 41) (h := ?_)
  refine done_ (done_of HT_.out (by kernel_rfl)) ?_
  try go_wp2
  go_ret
  exact ⟨ng_, bl_⟩
 subst c6
 have H1 : ((impl_in.f ((rd_T48 l0 x7_1).f1) 0 5).bind fun t237 => (if t237 = true then ((impl_in.f ((rd_T48 l0 x7_1).f2) 1 1000).bind fun t238 => (if t238 = true then (if x7_1 > 0 then (if 0 ≤ (wrap64 (x7_1 - 1)) then (if (wrap64 (x7_1 - 1)) < (l0.length : Int) then ((impl_compareAdds.f k1 ((rd_T48 l0 (wrap64 (x7_1 - 1))).f0) ((rd_T48 l0 (wrap64 (x7_1 - 1))).f1) ((rd_T48 l0 (wrap64 (x7_1 - 1))).f2) ((rd_T48 l0 x7_1).f0) ((rd_T48 l0 x7_1).f1) ((rd_T48 l0 x7_1).f2)).bind fun t240 => (if t240 ≥ 0 then (some false) else (impl_areAdds.l0 k1 l0 l0 (l0.length : Int) (wrap64 (x7_1 + 1))))) else (none)) else (none)) else (impl_areAdds.l0 k1 l0 l0 (l0.length : Int) (wrap64 (x7_1 + 1)))) else (some false))) else (some false))) = some r := by rw [if_pos rfl] at H; exact H
 clear H
 have H := H1
 clear H1
 replace H := Option.bind_eq_some_iff.mp H
 obtain ⟨t237, A70, H⟩ := H
 replace H : (if t237 = true then ((impl_in.f ((rd_T48 l0 x7_1).f2) 1 1000).bind fun t238 => (if t238 = true then (if x7_1 > 0 then (if 0 ≤ (wrap64 (x7_1 - 1)) then (if (wrap64 (x7_1 - 1)) < (l0.length : Int) then ((impl_compareAdds.f k1 ((rd_T48 l0 (wrap64 (x7_1 - 1))).f0) ((rd_T48 l0 (wrap64 (x7_1 - 1))).f1) ((rd_T48 l0 (wrap64 (x7_1 - 1))).f2) ((rd_T48 l0 x7_1).f0) ((rd_T48 l0 x7_1).f1) ((rd_T48 l0 x7_1).f2)).bind fun t240 => (if t240 ≥ 0 then (some false) else (impl_areAdds.l0 k1 l0 l0 (l0.length : Int) (wrap64 (x7_1 + 1))))) else (none)) else (none)) else (impl_areAdds.l0 k1 l0 l0 (l0.length : Int) (wrap64 (x7_1 + 1)))) else (some false))) else (some false)) = some r := H
 have A7 := Aside0.mk A70
 clear A70
 by_cases c8 : t237 = true
 rotate_left
 ·replace c8 := Bool.eq_false_iff.mpr c8
  subst c8
  have H1 : (some false) = some r := by rw [if_neg (show ¬ (false = true) by decide)] at H; exact H
  clear H
  have H := H1
  clear H1
  obtain rfl := Option.some.inj H
  have p234 : 0 ≤ (x7_1 : Int) := of_decide_eq_true (by first | (with_reducible assumption) | assumption)
  have q234 : x7_1 < (l0.length : Int) := of_decide_eq_true (by first | (with_reducible assumption) | assumption)
  obtain ⟨ad234, e234, hx234_0, hx234_1, hx234_2⟩ := at_T48 HR0.out x7_1 p234 q234
  cases e234
  replace hx234_0 := (HB.out.cell (World.block_lt_of_cell? w _ hx234_0)).trans hx234_0
  replace hx234_1 := (HB.out.cell (World.block_lt_of_cell? w _ hx234_1)).trans hx234_1
  replace hx234_2 := (HB.out.cell (World.block_lt_of_cell? w _ hx234_2)).trans hx234_2
  replace p234 := eq_true p234
  replace q234 := eq_true q234
  try go_wp2_with (first | ((with_reducible refine gate_dst (N := 4) rfl ?_); refine box_event rfl (N := 4) rfl (cs := #[.string (⟨#[]⟩ : ByteArray), .int .i64 0, .int .i64 0]) (t := 48) gs_ ?_; intro gb235 hg w35 hbox hb; have BK235 := Aside0.mk (hbox); have GW235 := Aside0.mk ((by rw [hg]; exact bz_ : w.heap.size ≤ gb235)); have GE235 := GW235; replace HB := Aside0.mk (below_step bl_ hb); clear hb hbox hg; have hcz36_0 : w35.cell? ⟨gb235, 0, none⟩ = some (.string (⟨#[]⟩ : ByteArray)) := bc_ BK235.out 0; have hcz36_1 : w35.cell? ⟨gb235, 1, none⟩ = some (.int .i64 0) := bc_ BK235.out 1; have hcz36_2 : w35.cell? ⟨gb235, 2, none⟩ = some (.int .i64 0) := bc_ BK235.out 2; have hfz36_0 := blk_frozen BK235.out 0; have hfz36_1 := blk_frozen BK235.out 1; have hfz36_2 := blk_frozen BK235.out 2))
  have n0_ : Aside0 ((((w35.setCell ⟨gb235, 0, none⟩ (.string ((rd_T48 l0 x7_1).f0))).setCell ⟨gb235, 1, none⟩ (.int .i64 ((rd_T48 l0 x7_1).f1))).setCell ⟨gb235, 2, none⟩ (.int .i64 ((rd_T48 l0 x7_1).f2))).heap[gb235]? = some (.cells #[.string ((rd_T48 l0 x7_1).f0), .int .i64 ((rd_T48 l0 x7_1).f1), .int .i64 ((rd_T48 l0 x7_1).f2)] 48 (0, 0))) := ⟨by (with_reducible repeat (first | refine blk_drewN ?_ _ | refine blk_drew ?_ | refine blk_alloc ?_ _)); refine blk_put (cs := #[.string ((rd_T48 l0 x7_1).f0), .int .i64 ((rd_T48 l0 x7_1).f1), .int .i64 0]) ?_ 2 _ rfl; (with_reducible repeat (first | refine blk_drewN ?_ _ | refine blk_drew ?_ | refine blk_alloc ?_ _)); refine blk_put (cs := #[.string ((rd_T48 l0 x7_1).f0), .int .i64 0, .int .i64 0]) ?_ 1 _ rfl; (with_reducible repeat (first | refine blk_drewN ?_ _ | refine blk_drew ?_ | refine blk_alloc ?_ _)); refine blk_put (cs := #[.string (⟨#[]⟩ : ByteArray), .int .i64 0, .int .i64 0]) ?_ 0 _ rfl; exact kb_ BK235.out⟩
  have n1_ : Aside0 (Below w.heap.size w (((w35.setCell ⟨gb235, 0, none⟩ (.string ((rd_T48 l0 x7_1).f0))).setCell ⟨gb235, 1, none⟩ (.int .i64 ((rd_T48 l0 x7_1).f1))).setCell ⟨gb235, 2, none⟩ (.int .i64 ((rd_T48 l0 x7_1).f2)))) := ⟨bl_⟩
  (try clear BK235)
  (try clear HB)
  generalize (((w35.setCell ⟨gb235, 0, none⟩ (.string ((rd_T48 l0 x7_1).f0))).setCell ⟨gb235, 1, none⟩ (.int .i64 ((rd_T48 l0 x7_1).f1))).setCell ⟨gb235, 2, none⟩ (.int .i64 ((rd_T48 l0 x7_1).f2))) = w37 at n0_ n1_ ⊢
  have BK235 := n0_
  have HB := n1_
  clear n0_ n1_
  replace BK235 := Aside0.mk (blk_drew BK235.out)
  replace HB := Aside0.mk (below_drew1 HB.out)
  refine start_ (n := 30) (S := fun w' => w'.cell? ⟨gb235, 0, none⟩ = some (.string ((rd_T48 l0 x7_1).f0)) ∧ w'.cell? ⟨gb235, 1, none⟩ = some (.int .i64 ((rd_T48 l0 x7_1).f1)) ∧ w'.cell? ⟨gb235, 2, none⟩ = some (.int .i64 ((rd_T48 l0 x7_1).f2))) (ds := []) #[false, false, false, false, false, false, false, false, false, false, false, false, false, false, false, false, false, false, false, false, false, false, false, false, false, false, false, false, false, false] (by kernel_rfl) rfl rfl ⟨bc_ BK235.out 0, bc_ BK235.out 1, bc_ BK235.out 2⟩ (fun hHeld => ?_); refine with_tabW impl_areAdds.tab4 impl_areAdds.bits4 (fun HT_ HW_ => ?_)
  generalize w37.drew = w38 at BK235 HB hHeld ⊢
  refine pu_ 0 (some 12) (h := ?_)
  refine tk3_ 1 (some 13) (h := ?_)
  refine on_ 2 (some 14) (h := fun K hK => ?_)
  refine goes_ Try.func50 (by kernel_rfl) rfl #[.string ((rd_T48 l0 x7_1).f0)] (by rfl) rfl rfl nc_ ?_
  with_reducible refine (impl_isValue.calls k1 ((rd_T48 l0 x7_1).f0) true _ A5.out).mono ?_
  rintro e w' ⟨rfl, ⟨nd, rfl⟩⟩
  refine ⟨_, rfl, ?_⟩
  refine hK.out _ _ ⟨bc_ BK235.out 0, bc_ BK235.out 1, bc_ BK235.out 2⟩ (fun hHeld => ?_)
  clear hK K
  refine norm_ nn_ ?_
  refine pu_ 3 (some 15) (h := ?_)
  refine pu_ 4 (some 16) (h := ?_)
  refine pu_ 5 (some 17) (h := ?_)
  refine tk3_ 6 (some 18) (h := ?_)
  refine on_ 7 (some 19) (h := fun K hK => ?_)
  refine goes_ Try.func49 (by kernel_rfl) rfl #[.int .i64 ((rd_T48 l0 x7_1).f1), .int .i64 0, .int .i64 5] (by rfl) rfl rfl nc_ ?_
  with_reducible refine (impl_in.calls ((rd_T48 l0 x7_1).f1) 0 5 false _ A7.out).mono ?_
  rintro e w' ⟨rfl, ⟨nd, rfl⟩⟩
  refine ⟨_, rfl, ?_⟩
  refine hK.out _ _ ⟨bc_ BK235.out 0, bc_ BK235.out 1, bc_ BK235.out 2⟩ (fun hHeld => ?_)
  clear hK K
  refine norm_ nn_ ?_
  refine pu_ 8 (some 20) (h := ?_)
  refine pu_ 9 (some 21) (h := ?_)
  refine pu_ 10 (some 22) (h := ?_)
  refine px_ 11 (some 23) (h := ?_)
  refine px_ 12 (some 24) (h := ?_)
  refine px_ 13 (some 25) (h := ?_)
  refine px_ 14 (some 26) (h := ?_)
  refine pu_ 15 (some 27) (h := ?_)
  refine pu_ 16 (some 28) (h := ?_)
  refine px_ 17 (some 29) (h := ?_)
  refine px_ 18 (some 30) (h := ?_)
  refine px_ 19 (some 31) (h := ?_)
  refine px_ 20 (some 32) (h := ?_)
  refine px_ 21 (some 33) (h := ?_)
  refine px_ 22 (some 34) (h := ?_)
  refine px_ 23 (some 35) (h := ?_)
  refine px_ 24 (some 36) (h := ?_)
  refine px_ 25 (some 37) (h := ?_)
  refine px_ 26 (some 38) (h := ?_)
  refine px_ 27 (some 39) (h := ?_)
  refine px_ 28 (some 40) (h := ?_)
  refine pu_ 29 (some 41) (h := ?_)
  refine done_ (done_of HT_.out (by kernel_rfl)) ?_
  try go_wp2
  go_ret
  exact ⟨ng_, bl_⟩
 subst c8
 have H1 : ((impl_in.f ((rd_T48 l0 x7_1).f2) 1 1000).bind fun t238 => (if t238 = true then (if x7_1 > 0 then (if 0 ≤ (wrap64 (x7_1 - 1)) then (if (wrap64 (x7_1 - 1)) < (l0.length : Int) then ((impl_compareAdds.f k1 ((rd_T48 l0 (wrap64 (x7_1 - 1))).f0) ((rd_T48 l0 (wrap64 (x7_1 - 1))).f1) ((rd_T48 l0 (wrap64 (x7_1 - 1))).f2) ((rd_T48 l0 x7_1).f0) ((rd_T48 l0 x7_1).f1) ((rd_T48 l0 x7_1).f2)).bind fun t240 => (if t240 ≥ 0 then (some false) else (impl_areAdds.l0 k1 l0 l0 (l0.length : Int) (wrap64 (x7_1 + 1))))) else (none)) else (none)) else (impl_areAdds.l0 k1 l0 l0 (l0.length : Int) (wrap64 (x7_1 + 1)))) else (some false))) = some r := by rw [if_pos rfl] at H; exact H
 clear H
 have H := H1
 clear H1
 replace H := Option.bind_eq_some_iff.mp H
 obtain ⟨t238, A90, H⟩ := H
 replace H : (if t238 = true then (if x7_1 > 0 then (if 0 ≤ (wrap64 (x7_1 - 1)) then (if (wrap64 (x7_1 - 1)) < (l0.length : Int) then ((impl_compareAdds.f k1 ((rd_T48 l0 (wrap64 (x7_1 - 1))).f0) ((rd_T48 l0 (wrap64 (x7_1 - 1))).f1) ((rd_T48 l0 (wrap64 (x7_1 - 1))).f2) ((rd_T48 l0 x7_1).f0) ((rd_T48 l0 x7_1).f1) ((rd_T48 l0 x7_1).f2)).bind fun t240 => (if t240 ≥ 0 then (some false) else (impl_areAdds.l0 k1 l0 l0 (l0.length : Int) (wrap64 (x7_1 + 1))))) else (none)) else (none)) else (impl_areAdds.l0 k1 l0 l0 (l0.length : Int) (wrap64 (x7_1 + 1)))) else (some false)) = some r := H
 have A9 := Aside0.mk A90
 clear A90
 by_cases c10 : t238 = true
 rotate_left
 ·replace c10 := Bool.eq_false_iff.mpr c10
  subst c10
  have H1 : (some false) = some r := by rw [if_neg (show ¬ (false = true) by decide)] at H; exact H
  clear H
  have H := H1
  clear H1
  obtain rfl := Option.some.inj H
  have p234 : 0 ≤ (x7_1 : Int) := of_decide_eq_true (by first | (with_reducible assumption) | assumption)
  have q234 : x7_1 < (l0.length : Int) := of_decide_eq_true (by first | (with_reducible assumption) | assumption)
  obtain ⟨ad234, e234, hx234_0, hx234_1, hx234_2⟩ := at_T48 HR0.out x7_1 p234 q234
  cases e234
  replace hx234_0 := (HB.out.cell (World.block_lt_of_cell? w _ hx234_0)).trans hx234_0
  replace hx234_1 := (HB.out.cell (World.block_lt_of_cell? w _ hx234_1)).trans hx234_1
  replace hx234_2 := (HB.out.cell (World.block_lt_of_cell? w _ hx234_2)).trans hx234_2
  replace p234 := eq_true p234
  replace q234 := eq_true q234
  try go_wp2_with (first | ((with_reducible refine gate_dst (N := 4) rfl ?_); refine box_event rfl (N := 4) rfl (cs := #[.string (⟨#[]⟩ : ByteArray), .int .i64 0, .int .i64 0]) (t := 48) gs_ ?_; intro gb235 hg w31 hbox hb; have BK235 := Aside0.mk (hbox); have GW235 := Aside0.mk ((by rw [hg]; exact bz_ : w.heap.size ≤ gb235)); have GE235 := GW235; replace HB := Aside0.mk (below_step bl_ hb); clear hb hbox hg; have hcz32_0 : w31.cell? ⟨gb235, 0, none⟩ = some (.string (⟨#[]⟩ : ByteArray)) := bc_ BK235.out 0; have hcz32_1 : w31.cell? ⟨gb235, 1, none⟩ = some (.int .i64 0) := bc_ BK235.out 1; have hcz32_2 : w31.cell? ⟨gb235, 2, none⟩ = some (.int .i64 0) := bc_ BK235.out 2; have hfz32_0 := blk_frozen BK235.out 0; have hfz32_1 := blk_frozen BK235.out 1; have hfz32_2 := blk_frozen BK235.out 2))
  have n0_ : Aside0 ((((w31.setCell ⟨gb235, 0, none⟩ (.string ((rd_T48 l0 x7_1).f0))).setCell ⟨gb235, 1, none⟩ (.int .i64 ((rd_T48 l0 x7_1).f1))).setCell ⟨gb235, 2, none⟩ (.int .i64 ((rd_T48 l0 x7_1).f2))).heap[gb235]? = some (.cells #[.string ((rd_T48 l0 x7_1).f0), .int .i64 ((rd_T48 l0 x7_1).f1), .int .i64 ((rd_T48 l0 x7_1).f2)] 48 (0, 0))) := ⟨by (with_reducible repeat (first | refine blk_drewN ?_ _ | refine blk_drew ?_ | refine blk_alloc ?_ _)); refine blk_put (cs := #[.string ((rd_T48 l0 x7_1).f0), .int .i64 ((rd_T48 l0 x7_1).f1), .int .i64 0]) ?_ 2 _ rfl; (with_reducible repeat (first | refine blk_drewN ?_ _ | refine blk_drew ?_ | refine blk_alloc ?_ _)); refine blk_put (cs := #[.string ((rd_T48 l0 x7_1).f0), .int .i64 0, .int .i64 0]) ?_ 1 _ rfl; (with_reducible repeat (first | refine blk_drewN ?_ _ | refine blk_drew ?_ | refine blk_alloc ?_ _)); refine blk_put (cs := #[.string (⟨#[]⟩ : ByteArray), .int .i64 0, .int .i64 0]) ?_ 0 _ rfl; exact kb_ BK235.out⟩
  have n1_ : Aside0 (Below w.heap.size w (((w31.setCell ⟨gb235, 0, none⟩ (.string ((rd_T48 l0 x7_1).f0))).setCell ⟨gb235, 1, none⟩ (.int .i64 ((rd_T48 l0 x7_1).f1))).setCell ⟨gb235, 2, none⟩ (.int .i64 ((rd_T48 l0 x7_1).f2)))) := ⟨bl_⟩
  (try clear BK235)
  (try clear HB)
  generalize (((w31.setCell ⟨gb235, 0, none⟩ (.string ((rd_T48 l0 x7_1).f0))).setCell ⟨gb235, 1, none⟩ (.int .i64 ((rd_T48 l0 x7_1).f1))).setCell ⟨gb235, 2, none⟩ (.int .i64 ((rd_T48 l0 x7_1).f2))) = w33 at n0_ n1_ ⊢
  have BK235 := n0_
  have HB := n1_
  clear n0_ n1_
  replace BK235 := Aside0.mk (blk_drew BK235.out)
  replace HB := Aside0.mk (below_drew1 HB.out)
  refine start_ (n := 30) (S := fun w' => w'.cell? ⟨gb235, 0, none⟩ = some (.string ((rd_T48 l0 x7_1).f0)) ∧ w'.cell? ⟨gb235, 1, none⟩ = some (.int .i64 ((rd_T48 l0 x7_1).f1)) ∧ w'.cell? ⟨gb235, 2, none⟩ = some (.int .i64 ((rd_T48 l0 x7_1).f2))) (ds := []) #[false, false, false, false, false, false, false, false, false, false, false, false, false, false, false, false, false, false, false, false, false, false, false, false, false, false, false, false, false, false] (by kernel_rfl) rfl rfl ⟨bc_ BK235.out 0, bc_ BK235.out 1, bc_ BK235.out 2⟩ (fun hHeld => ?_); refine with_tabW impl_areAdds.tab4 impl_areAdds.bits4 (fun HT_ HW_ => ?_)
  generalize w33.drew = w34 at BK235 HB hHeld ⊢
  refine pu_ 0 (some 12) (h := ?_)
  refine tk3_ 1 (some 13) (h := ?_)
  refine on_ 2 (some 14) (h := fun K hK => ?_)
  refine goes_ Try.func50 (by kernel_rfl) rfl #[.string ((rd_T48 l0 x7_1).f0)] (by rfl) rfl rfl nc_ ?_
  with_reducible refine (impl_isValue.calls k1 ((rd_T48 l0 x7_1).f0) true _ A5.out).mono ?_
  rintro e w' ⟨rfl, ⟨nd, rfl⟩⟩
  refine ⟨_, rfl, ?_⟩
  refine hK.out _ _ ⟨bc_ BK235.out 0, bc_ BK235.out 1, bc_ BK235.out 2⟩ (fun hHeld => ?_)
  clear hK K
  refine norm_ nn_ ?_
  refine pu_ 3 (some 15) (h := ?_)
  refine pu_ 4 (some 16) (h := ?_)
  refine pu_ 5 (some 17) (h := ?_)
  refine tk3_ 6 (some 18) (h := ?_)
  refine on_ 7 (some 19) (h := fun K hK => ?_)
  refine goes_ Try.func49 (by kernel_rfl) rfl #[.int .i64 ((rd_T48 l0 x7_1).f1), .int .i64 0, .int .i64 5] (by rfl) rfl rfl nc_ ?_
  with_reducible refine (impl_in.calls ((rd_T48 l0 x7_1).f1) 0 5 true _ A7.out).mono ?_
  rintro e w' ⟨rfl, ⟨nd, rfl⟩⟩
  refine ⟨_, rfl, ?_⟩
  refine hK.out _ _ ⟨bc_ BK235.out 0, bc_ BK235.out 1, bc_ BK235.out 2⟩ (fun hHeld => ?_)
  clear hK K
  refine norm_ nn_ ?_
  refine pu_ 8 (some 20) (h := ?_)
  refine pu_ 9 (some 21) (h := ?_)
  refine pu_ 10 (some 22) (h := ?_)
  refine pu_ 11 (some 23) (h := ?_)
  refine tk3_ 12 (some 24) (h := ?_)
  refine on_ 13 (some 25) (h := fun K hK => ?_)
  refine goes_ Try.func49 (by kernel_rfl) rfl #[.int .i64 ((rd_T48 l0 x7_1).f2), .int .i64 1, .int .i64 1000] (by rfl) rfl rfl nc_ ?_
  with_reducible refine (impl_in.calls ((rd_T48 l0 x7_1).f2) 1 1000 false _ A9.out).mono ?_
  rintro e w' ⟨rfl, ⟨nd, rfl⟩⟩
  refine ⟨_, rfl, ?_⟩
  refine hK.out _ _ ⟨bc_ BK235.out 0, bc_ BK235.out 1, bc_ BK235.out 2⟩ (fun hHeld => ?_)
  clear hK K
  refine norm_ nn_ ?_
  refine pu_ 14 (some 26) (h := ?_)
  refine pu_ 15 (some 27) (h := ?_)
  refine pu_ 16 (some 28) (h := ?_)
  refine px_ 17 (some 29) (h := ?_)
  refine px_ 18 (some 30) (h := ?_)
  refine px_ 19 (some 31) (h := ?_)
  refine px_ 20 (some 32) (h := ?_)
  refine px_ 21 (some 33) (h := ?_)
  refine px_ 22 (some 34) (h := ?_)
  refine px_ 23 (some 35) (h := ?_)
  refine px_ 24 (some 36) (h := ?_)
  refine px_ 25 (some 37) (h := ?_)
  refine px_ 26 (some 38) (h := ?_)
  refine px_ 27 (some 39) (h := ?_)
  refine px_ 28 (some 40) (h := ?_)
  refine pu_ 29 (some 41) (h := ?_)
  refine done_ (done_of HT_.out (by kernel_rfl)) ?_
  try go_wp2
  go_ret
  exact ⟨ng_, bl_⟩
 subst c10
 have H1 : (if x7_1 > 0 then (if 0 ≤ (wrap64 (x7_1 - 1)) then (if (wrap64 (x7_1 - 1)) < (l0.length : Int) then ((impl_compareAdds.f k1 ((rd_T48 l0 (wrap64 (x7_1 - 1))).f0) ((rd_T48 l0 (wrap64 (x7_1 - 1))).f1) ((rd_T48 l0 (wrap64 (x7_1 - 1))).f2) ((rd_T48 l0 x7_1).f0) ((rd_T48 l0 x7_1).f1) ((rd_T48 l0 x7_1).f2)).bind fun t240 => (if t240 ≥ 0 then (some false) else (impl_areAdds.l0 k1 l0 l0 (l0.length : Int) (wrap64 (x7_1 + 1))))) else (none)) else (none)) else (impl_areAdds.l0 k1 l0 l0 (l0.length : Int) (wrap64 (x7_1 + 1)))) = some r := by rw [if_pos rfl] at H; exact H
 clear H
 have H := H1
 clear H1
 by_cases c11 : x7_1 > 0
 rotate_left
 ·rw [if_neg c11] at H
  have c11b0 : decide (0 < x7_1) = false := decide_eq_false c11
  clear c11
  have H' := Aside0.mk H
  clear H
  have p234 : 0 ≤ (x7_1 : Int) := of_decide_eq_true (by first | (with_reducible assumption) | assumption)
  have q234 : x7_1 < (l0.length : Int) := of_decide_eq_true (by first | (with_reducible assumption) | assumption)
  obtain ⟨ad234, e234, hx234_0, hx234_1, hx234_2⟩ := at_T48 HR0.out x7_1 p234 q234
  cases e234
  replace hx234_0 := (HB.out.cell (World.block_lt_of_cell? w _ hx234_0)).trans hx234_0
  replace hx234_1 := (HB.out.cell (World.block_lt_of_cell? w _ hx234_1)).trans hx234_1
  replace hx234_2 := (HB.out.cell (World.block_lt_of_cell? w _ hx234_2)).trans hx234_2
  replace p234 := eq_true p234
  replace q234 := eq_true q234
  try go_wp2_with (first | ((with_reducible refine gate_dst (N := 4) rfl ?_); refine box_event rfl (N := 4) rfl (cs := #[.string (⟨#[]⟩ : ByteArray), .int .i64 0, .int .i64 0]) (t := 48) gs_ ?_; intro gb235 hg w27 hbox hb; have BK235 := Aside0.mk (hbox); have GW235 := Aside0.mk ((by rw [hg]; exact bz_ : w.heap.size ≤ gb235)); have GE235 := GW235; replace HB := Aside0.mk (below_step bl_ hb); clear hb hbox hg; have hcz28_0 : w27.cell? ⟨gb235, 0, none⟩ = some (.string (⟨#[]⟩ : ByteArray)) := bc_ BK235.out 0; have hcz28_1 : w27.cell? ⟨gb235, 1, none⟩ = some (.int .i64 0) := bc_ BK235.out 1; have hcz28_2 : w27.cell? ⟨gb235, 2, none⟩ = some (.int .i64 0) := bc_ BK235.out 2; have hfz28_0 := blk_frozen BK235.out 0; have hfz28_1 := blk_frozen BK235.out 1; have hfz28_2 := blk_frozen BK235.out 2))
  have n0_ : Aside0 ((((w27.setCell ⟨gb235, 0, none⟩ (.string ((rd_T48 l0 x7_1).f0))).setCell ⟨gb235, 1, none⟩ (.int .i64 ((rd_T48 l0 x7_1).f1))).setCell ⟨gb235, 2, none⟩ (.int .i64 ((rd_T48 l0 x7_1).f2))).heap[gb235]? = some (.cells #[.string ((rd_T48 l0 x7_1).f0), .int .i64 ((rd_T48 l0 x7_1).f1), .int .i64 ((rd_T48 l0 x7_1).f2)] 48 (0, 0))) := ⟨by (with_reducible repeat (first | refine blk_drewN ?_ _ | refine blk_drew ?_ | refine blk_alloc ?_ _)); refine blk_put (cs := #[.string ((rd_T48 l0 x7_1).f0), .int .i64 ((rd_T48 l0 x7_1).f1), .int .i64 0]) ?_ 2 _ rfl; (with_reducible repeat (first | refine blk_drewN ?_ _ | refine blk_drew ?_ | refine blk_alloc ?_ _)); refine blk_put (cs := #[.string ((rd_T48 l0 x7_1).f0), .int .i64 0, .int .i64 0]) ?_ 1 _ rfl; (with_reducible repeat (first | refine blk_drewN ?_ _ | refine blk_drew ?_ | refine blk_alloc ?_ _)); refine blk_put (cs := #[.string (⟨#[]⟩ : ByteArray), .int .i64 0, .int .i64 0]) ?_ 0 _ rfl; exact kb_ BK235.out⟩
  have n1_ : Aside0 (Below w.heap.size w (((w27.setCell ⟨gb235, 0, none⟩ (.string ((rd_T48 l0 x7_1).f0))).setCell ⟨gb235, 1, none⟩ (.int .i64 ((rd_T48 l0 x7_1).f1))).setCell ⟨gb235, 2, none⟩ (.int .i64 ((rd_T48 l0 x7_1).f2)))) := ⟨bl_⟩
  (try clear BK235)
  (try clear HB)
  generalize (((w27.setCell ⟨gb235, 0, none⟩ (.string ((rd_T48 l0 x7_1).f0))).setCell ⟨gb235, 1, none⟩ (.int .i64 ((rd_T48 l0 x7_1).f1))).setCell ⟨gb235, 2, none⟩ (.int .i64 ((rd_T48 l0 x7_1).f2))) = w29 at n0_ n1_ ⊢
  have BK235 := n0_
  have HB := n1_
  clear n0_ n1_
  replace BK235 := Aside0.mk (blk_drew BK235.out)
  replace HB := Aside0.mk (below_drew1 HB.out)
  refine start_ (n := 30) (S := fun w' => w'.cell? ⟨gb235, 0, none⟩ = some (.string ((rd_T48 l0 x7_1).f0)) ∧ w'.cell? ⟨gb235, 1, none⟩ = some (.int .i64 ((rd_T48 l0 x7_1).f1)) ∧ w'.cell? ⟨gb235, 2, none⟩ = some (.int .i64 ((rd_T48 l0 x7_1).f2))) (ds := []) #[false, false, false, false, false, false, false, false, false, false, false, false, false, false, false, false, false, false, false, false, false, false, false, false, false, false, false, false, false, false] (by kernel_rfl) rfl rfl ⟨bc_ BK235.out 0, bc_ BK235.out 1, bc_ BK235.out 2⟩ (fun hHeld => ?_); refine with_tabW impl_areAdds.tab4 impl_areAdds.bits4 (fun HT_ HW_ => ?_)
  generalize w29.drew = w30 at BK235 HB hHeld ⊢
  refine pu_ 0 (some 12) (h := ?_)
  refine tk3_ 1 (some 13) (h := ?_)
  refine on_ 2 (some 14) (h := fun K hK => ?_)
  refine goes_ Try.func50 (by kernel_rfl) rfl #[.string ((rd_T48 l0 x7_1).f0)] (by rfl) rfl rfl nc_ ?_
  with_reducible refine (impl_isValue.calls k1 ((rd_T48 l0 x7_1).f0) true _ A5.out).mono ?_
  rintro e w' ⟨rfl, ⟨nd, rfl⟩⟩
  refine ⟨_, rfl, ?_⟩
  refine hK.out _ _ ⟨bc_ BK235.out 0, bc_ BK235.out 1, bc_ BK235.out 2⟩ (fun hHeld => ?_)
  clear hK K
  refine norm_ nn_ ?_
  refine pu_ 3 (some 15) (h := ?_)
  refine pu_ 4 (some 16) (h := ?_)
  refine pu_ 5 (some 17) (h := ?_)
  refine tk3_ 6 (some 18) (h := ?_)
  refine on_ 7 (some 19) (h := fun K hK => ?_)
  refine goes_ Try.func49 (by kernel_rfl) rfl #[.int .i64 ((rd_T48 l0 x7_1).f1), .int .i64 0, .int .i64 5] (by rfl) rfl rfl nc_ ?_
  with_reducible refine (impl_in.calls ((rd_T48 l0 x7_1).f1) 0 5 true _ A7.out).mono ?_
  rintro e w' ⟨rfl, ⟨nd, rfl⟩⟩
  refine ⟨_, rfl, ?_⟩
  refine hK.out _ _ ⟨bc_ BK235.out 0, bc_ BK235.out 1, bc_ BK235.out 2⟩ (fun hHeld => ?_)
  clear hK K
  refine norm_ nn_ ?_
  refine pu_ 8 (some 20) (h := ?_)
  refine pu_ 9 (some 21) (h := ?_)
  refine pu_ 10 (some 22) (h := ?_)
  refine pu_ 11 (some 23) (h := ?_)
  refine tk3_ 12 (some 24) (h := ?_)
  refine on_ 13 (some 25) (h := fun K hK => ?_)
  refine goes_ Try.func49 (by kernel_rfl) rfl #[.int .i64 ((rd_T48 l0 x7_1).f2), .int .i64 1, .int .i64 1000] (by rfl) rfl rfl nc_ ?_
  with_reducible refine (impl_in.calls ((rd_T48 l0 x7_1).f2) 1 1000 true _ A9.out).mono ?_
  rintro e w' ⟨rfl, ⟨nd, rfl⟩⟩
  refine ⟨_, rfl, ?_⟩
  refine hK.out _ _ ⟨bc_ BK235.out 0, bc_ BK235.out 1, bc_ BK235.out 2⟩ (fun hHeld => ?_)
  clear hK K
  refine norm_ nn_ ?_
  refine pu_ 14 (some 26) (h := ?_)
  refine pu_ 15 (some 27) (h := ?_)
  refine pu_ 16 (some 28) (h := ?_)
  refine pu_ 17 (some 29) (h := ?_)
  refine pu_ 18 (some 30) (h := ?_)
  refine pu_ 19 (some 31) (h := ?_)
  refine px_ 20 (some 32) (h := ?_)
  refine px_ 21 (some 33) (h := ?_)
  refine px_ 22 (some 34) (h := ?_)
  refine px_ 23 (some 35) (h := ?_)
  refine px_ 24 (some 36) (h := ?_)
  refine px_ 25 (some 37) (h := ?_)
  refine px_ 26 (some 38) (h := ?_)
  refine px_ 27 (some 39) (h := ?_)
  refine pu_ 28 (some 40) (h := ?_)
  refine pu_ 29 (some 41) (h := ?_)
  refine done_ (done_of HT_.out (by kernel_rfl)) ?_
  try go_wp2
  go_roundg k1
  case measure => have := HK1.out; omega
  case rel => exact ⟨(wrap64 (x7_1 + 1)), (by first | rfl | (simp; done) | (simp [*]; done)), H', ⟨by have := HK1.out; omega⟩, ⟨bl_⟩⟩
 rw [if_pos c11] at H
 have c11b0 : decide (0 < x7_1) = true := decide_eq_true c11
 clear c11
 obtain ⟨ji12, hji12⟩ : ∃ j_ : Int, (wrap64 (x7_1 - 1)) = j_ := ⟨_, rfl⟩
 replace H : (if 0 ≤ (ji12) then (if (ji12) < (l0.length : Int) then ((impl_compareAdds.f k1 ((rd_T48 l0 (ji12)).f0) ((rd_T48 l0 (ji12)).f1) ((rd_T48 l0 (ji12)).f2) ((rd_T48 l0 x7_1).f0) ((rd_T48 l0 x7_1).f1) ((rd_T48 l0 x7_1).f2)).bind fun t240 => (if t240 ≥ 0 then (some false) else (impl_areAdds.l0 k1 l0 l0 (l0.length : Int) (wrap64 (x7_1 + 1))))) else (none)) else (none)) = some r := by first | (rw [hji12] at H; exact H) | (simp only [hji12] at H ⊢; exact H)
 (try rw [hji12] at A5)
 (try rw [hji12] at A7)
 (try rw [hji12] at A9)
 have hji12w : (IntKind.i64.wrap (x7_1 - 1)) = ji12 := (i64_w _).trans hji12
 by_cases c13 : 0 ≤ (ji12)
 rotate_left
 ·rw [if_neg c13] at H
  exact absurd H (by simp)
 rw [if_pos c13] at H
 have c13b0 : decide (0 ≤ (ji12)) = true := decide_eq_true c13
 clear c13
 by_cases c14 : (ji12) < (l0.length : Int)
 rotate_left
 ·rw [if_neg c14] at H
  exact absurd H (by simp)
 rw [if_pos c14] at H
 have c14b0 : decide ((ji12) < (l0.length : Int)) = true := decide_eq_true c14
 clear c14
 replace H := Option.bind_eq_some_iff.mp H
 obtain ⟨t240, A150, H⟩ := H
 replace H : (if t240 ≥ 0 then (some false) else (impl_areAdds.l0 k1 l0 l0 (l0.length : Int) (wrap64 (x7_1 + 1)))) = some r := H
 have A15 := Aside0.mk A150
 clear A150
 by_cases c16 : t240 ≥ 0
 rotate_left
 ·rw [if_neg c16] at H
  have c16b0 : decide (0 ≤ t240) = false := decide_eq_false c16
  clear c16
  have H' := Aside0.mk H
  clear H
  have p234 : 0 ≤ (x7_1 : Int) := of_decide_eq_true (by first | (with_reducible assumption) | assumption)
  have q234 : x7_1 < (l0.length : Int) := of_decide_eq_true (by first | (with_reducible assumption) | assumption)
  obtain ⟨ad234, e234, hx234_0, hx234_1, hx234_2⟩ := at_T48 HR0.out x7_1 p234 q234
  cases e234
  replace hx234_0 := (HB.out.cell (World.block_lt_of_cell? w _ hx234_0)).trans hx234_0
  replace hx234_1 := (HB.out.cell (World.block_lt_of_cell? w _ hx234_1)).trans hx234_1
  replace hx234_2 := (HB.out.cell (World.block_lt_of_cell? w _ hx234_2)).trans hx234_2
  replace p234 := eq_true p234
  replace q234 := eq_true q234
  try go_wp2_with (first | ((with_reducible refine gate_dst (N := 4) rfl ?_); refine box_event rfl (N := 4) rfl (cs := #[.string (⟨#[]⟩ : ByteArray), .int .i64 0, .int .i64 0]) (t := 48) gs_ ?_; intro gb235 hg w22 hbox hb; have BK235 := Aside0.mk (hbox); have GW235 := Aside0.mk ((by rw [hg]; exact bz_ : w.heap.size ≤ gb235)); have GE235 := GW235; replace HB := Aside0.mk (below_step bl_ hb); clear hb hbox hg; have hcz23_0 : w22.cell? ⟨gb235, 0, none⟩ = some (.string (⟨#[]⟩ : ByteArray)) := bc_ BK235.out 0; have hcz23_1 : w22.cell? ⟨gb235, 1, none⟩ = some (.int .i64 0) := bc_ BK235.out 1; have hcz23_2 : w22.cell? ⟨gb235, 2, none⟩ = some (.int .i64 0) := bc_ BK235.out 2; have hfz23_0 := blk_frozen BK235.out 0; have hfz23_1 := blk_frozen BK235.out 1; have hfz23_2 := blk_frozen BK235.out 2))
  have n0_ : Aside0 ((((w22.setCell ⟨gb235, 0, none⟩ (.string ((rd_T48 l0 x7_1).f0))).setCell ⟨gb235, 1, none⟩ (.int .i64 ((rd_T48 l0 x7_1).f1))).setCell ⟨gb235, 2, none⟩ (.int .i64 ((rd_T48 l0 x7_1).f2))).heap[gb235]? = some (.cells #[.string ((rd_T48 l0 x7_1).f0), .int .i64 ((rd_T48 l0 x7_1).f1), .int .i64 ((rd_T48 l0 x7_1).f2)] 48 (0, 0))) := ⟨by (with_reducible repeat (first | refine blk_drewN ?_ _ | refine blk_drew ?_ | refine blk_alloc ?_ _)); refine blk_put (cs := #[.string ((rd_T48 l0 x7_1).f0), .int .i64 ((rd_T48 l0 x7_1).f1), .int .i64 0]) ?_ 2 _ rfl; (with_reducible repeat (first | refine blk_drewN ?_ _ | refine blk_drew ?_ | refine blk_alloc ?_ _)); refine blk_put (cs := #[.string ((rd_T48 l0 x7_1).f0), .int .i64 0, .int .i64 0]) ?_ 1 _ rfl; (with_reducible repeat (first | refine blk_drewN ?_ _ | refine blk_drew ?_ | refine blk_alloc ?_ _)); refine blk_put (cs := #[.string (⟨#[]⟩ : ByteArray), .int .i64 0, .int .i64 0]) ?_ 0 _ rfl; exact kb_ BK235.out⟩
  have n1_ : Aside0 (Below w.heap.size w (((w22.setCell ⟨gb235, 0, none⟩ (.string ((rd_T48 l0 x7_1).f0))).setCell ⟨gb235, 1, none⟩ (.int .i64 ((rd_T48 l0 x7_1).f1))).setCell ⟨gb235, 2, none⟩ (.int .i64 ((rd_T48 l0 x7_1).f2)))) := ⟨bl_⟩
  (try clear BK235)
  (try clear HB)
  generalize (((w22.setCell ⟨gb235, 0, none⟩ (.string ((rd_T48 l0 x7_1).f0))).setCell ⟨gb235, 1, none⟩ (.int .i64 ((rd_T48 l0 x7_1).f1))).setCell ⟨gb235, 2, none⟩ (.int .i64 ((rd_T48 l0 x7_1).f2))) = w24 at n0_ n1_ ⊢
  have BK235 := n0_
  have HB := n1_
  clear n0_ n1_
  replace BK235 := Aside0.mk (blk_drew BK235.out)
  replace HB := Aside0.mk (below_drew1 HB.out)
  have p239 : 0 ≤ ((ji12) : Int) := of_decide_eq_true (by first | (with_reducible assumption) | assumption)
  have q239 : (ji12) < (l0.length : Int) := of_decide_eq_true (by first | (with_reducible assumption) | assumption)
  obtain ⟨ad239, e239, hx239_0, hx239_1, hx239_2⟩ := at_T48 HR0.out (ji12) p239 q239
  have hw239_2 := hx239_2
  have hw239_1 := hx239_1
  have hw239_0 := hx239_0
  obtain rfl : ad234 = ad239 := (by injection e239)
  replace hx239_0 := (HB.out.cell (World.block_lt_of_cell? w _ hx239_0)).trans hx239_0
  replace hx239_1 := (HB.out.cell (World.block_lt_of_cell? w _ hx239_1)).trans hx239_1
  replace hx239_2 := (HB.out.cell (World.block_lt_of_cell? w _ hx239_2)).trans hx239_2
  replace p239 := eq_true p239
  replace q239 := eq_true q239
  refine start_ (n := 30) (S := fun w' => w'.cell? ⟨gb235, 0, none⟩ = some (.string ((rd_T48 l0 x7_1).f0)) ∧ w'.cell? ⟨gb235, 1, none⟩ = some (.int .i64 ((rd_T48 l0 x7_1).f1)) ∧ w'.cell? ⟨gb235, 2, none⟩ = some (.int .i64 ((rd_T48 l0 x7_1).f2)) ∧ w'.cell? (ad234.add (((ji12)).toNat * 3)) = some (.string ((rd_T48 l0 (ji12)).f0)) ∧ w'.cell? ⟨(ad234.add (((ji12)).toNat * 3)).block, (ad234.add (((ji12)).toNat * 3)).off + 1, none⟩ = some (.int .i64 ((rd_T48 l0 (ji12)).f1)) ∧ w'.cell? ⟨(ad234.add (((ji12)).toNat * 3)).block, (ad234.add (((ji12)).toNat * 3)).off + 2, none⟩ = some (.int .i64 ((rd_T48 l0 (ji12)).f2))) (ds := []) #[false, false, false, false, false, false, false, false, false, false, false, false, false, false, false, false, false, false, false, false, false, false, false, false, false, false, false, false, false, false] (by kernel_rfl) rfl rfl ⟨bc_ BK235.out 0, bc_ BK235.out 1, bc_ BK235.out 2, ((HB.out.cell (World.block_lt_of_cell? w _ hw239_0)).trans hw239_0), ((HB.out.cell (World.block_lt_of_cell? w _ hw239_1)).trans hw239_1), ((HB.out.cell (World.block_lt_of_cell? w _ hw239_2)).trans hw239_2)⟩ (fun hHeld => ?_); refine with_tabW impl_areAdds.tab4 impl_areAdds.bits4 (fun HT_ HW_ => ?_)
  generalize w24.drew = w25 at BK235 HB hx239_0 hx239_1 hx239_2 hHeld ⊢
  refine pu_ 0 (some 12) (h := ?_)
  refine tk6_ 1 (some 13) (h := ?_)
  refine on_ 2 (some 14) (h := fun K hK => ?_)
  refine goes_ Try.func50 (by kernel_rfl) rfl #[.string ((rd_T48 l0 x7_1).f0)] (by rfl) rfl rfl nc_ ?_
  with_reducible refine (impl_isValue.calls k1 ((rd_T48 l0 x7_1).f0) true _ A5.out).mono ?_
  rintro e w' ⟨rfl, ⟨nd, rfl⟩⟩
  refine ⟨_, rfl, ?_⟩
  refine hK.out _ _ ⟨bc_ BK235.out 0, bc_ BK235.out 1, bc_ BK235.out 2, ((HB.out.cell (World.block_lt_of_cell? w _ hw239_0)).trans hw239_0), ((HB.out.cell (World.block_lt_of_cell? w _ hw239_1)).trans hw239_1), ((HB.out.cell (World.block_lt_of_cell? w _ hw239_2)).trans hw239_2)⟩ (fun hHeld => ?_)
  clear hK K
  refine norm_ nn_ ?_
  refine pu_ 3 (some 15) (h := ?_)
  refine pu_ 4 (some 16) (h := ?_)
  refine pu_ 5 (some 17) (h := ?_)
  refine tk6_ 6 (some 18) (h := ?_)
  refine on_ 7 (some 19) (h := fun K hK => ?_)
  refine goes_ Try.func49 (by kernel_rfl) rfl #[.int .i64 ((rd_T48 l0 x7_1).f1), .int .i64 0, .int .i64 5] (by rfl) rfl rfl nc_ ?_
  with_reducible refine (impl_in.calls ((rd_T48 l0 x7_1).f1) 0 5 true _ A7.out).mono ?_
  rintro e w' ⟨rfl, ⟨nd, rfl⟩⟩
  refine ⟨_, rfl, ?_⟩
  refine hK.out _ _ ⟨bc_ BK235.out 0, bc_ BK235.out 1, bc_ BK235.out 2, ((HB.out.cell (World.block_lt_of_cell? w _ hw239_0)).trans hw239_0), ((HB.out.cell (World.block_lt_of_cell? w _ hw239_1)).trans hw239_1), ((HB.out.cell (World.block_lt_of_cell? w _ hw239_2)).trans hw239_2)⟩ (fun hHeld => ?_)
  clear hK K
  refine norm_ nn_ ?_
  refine pu_ 8 (some 20) (h := ?_)
  refine pu_ 9 (some 21) (h := ?_)
  refine pu_ 10 (some 22) (h := ?_)
  refine pu_ 11 (some 23) (h := ?_)
  refine tk6_ 12 (some 24) (h := ?_)
  refine on_ 13 (some 25) (h := fun K hK => ?_)
  refine goes_ Try.func49 (by kernel_rfl) rfl #[.int .i64 ((rd_T48 l0 x7_1).f2), .int .i64 1, .int .i64 1000] (by rfl) rfl rfl nc_ ?_
  with_reducible refine (impl_in.calls ((rd_T48 l0 x7_1).f2) 1 1000 true _ A9.out).mono ?_
  rintro e w' ⟨rfl, ⟨nd, rfl⟩⟩
  refine ⟨_, rfl, ?_⟩
  refine hK.out _ _ ⟨bc_ BK235.out 0, bc_ BK235.out 1, bc_ BK235.out 2, ((HB.out.cell (World.block_lt_of_cell? w _ hw239_0)).trans hw239_0), ((HB.out.cell (World.block_lt_of_cell? w _ hw239_1)).trans hw239_1), ((HB.out.cell (World.block_lt_of_cell? w _ hw239_2)).trans hw239_2)⟩ (fun hHeld => ?_)
  clear hK K
  refine norm_ nn_ ?_
  refine pu_ 14 (some 26) (h := ?_)
  refine pu_ 15 (some 27) (h := ?_)
  refine pu_ 16 (some 28) (h := ?_)
  refine pu_ 17 (some 29) (h := ?_)
  refine pu_ 18 (some 30) (h := ?_)
  refine pu_ 19 (some 31) (h := ?_)
  refine pu_ 20 (some 32) (h := ?_)
  refine pu_ 21 (some 33) (h := ?_)
  refine pu_ 22 (some 34) (h := ?_)
  refine pu_ 23 (some 35) (h := ?_)
  refine tk6_ 24 (some 36) (h := ?_)
  refine tk6_ 25 (some 37) (h := ?_)
  refine on_ 26 (some 38) (h := fun K hK => ?_)
  refine goes_ Try.func40 (by kernel_rfl) rfl #[.agg #[.string ((rd_T48 l0 (ji12)).f0), .int .i64 ((rd_T48 l0 (ji12)).f1), .int .i64 ((rd_T48 l0 (ji12)).f2)], .agg #[.string ((rd_T48 l0 x7_1).f0), .int .i64 ((rd_T48 l0 x7_1).f1), .int .i64 ((rd_T48 l0 x7_1).f2)]] (by rfl) rfl rfl (by (try simp only [List.map_toArray, List.map_cons, List.map_nil]); first | done | (simp only [hji12]; rfl) | rfl | (simp only [List.length_drop, List.length_take]; rfl)) ?_
  with_reducible refine (impl_compareAdds.calls k1 ((rd_T48 l0 (ji12)).f0) ((rd_T48 l0 (ji12)).f1) ((rd_T48 l0 (ji12)).f2) ((rd_T48 l0 x7_1).f0) ((rd_T48 l0 x7_1).f1) ((rd_T48 l0 x7_1).f2) t240 _ A15.out).mono ?_
  rintro e w26 ⟨rfl, hb⟩
  refine ⟨_, rfl, ?_⟩
  replace BK235 := bb_ BK235 hb
  replace HB := Aside0.mk (below_step bl_ hb)
  clear hb
  refine hK.out _ _ ⟨bc_ BK235.out 0, bc_ BK235.out 1, bc_ BK235.out 2, ((HB.out.cell (World.block_lt_of_cell? w _ hw239_0)).trans hw239_0), ((HB.out.cell (World.block_lt_of_cell? w _ hw239_1)).trans hw239_1), ((HB.out.cell (World.block_lt_of_cell? w _ hw239_2)).trans hw239_2)⟩ (fun hHeld => ?_)
  clear hK K
  refine norm_ nn_ ?_
  refine pu_ 27 (some 39) (h := ?_)
  refine pu_ 28 (some 40) (h := ?_)
  refine pu_ 29 (some 41) (h := ?_)
  refine done_ (done_of HT_.out (by kernel_rfl)) ?_
  try go_wp2
  go_roundg k1
  case measure => have := HK1.out; omega
  case rel => exact ⟨(wrap64 (x7_1 + 1)), (by first | rfl | (simp; done) | (simp [*]; done)), H', ⟨by have := HK1.out; omega⟩, ⟨bl_⟩⟩
 rw [if_pos c16] at H
 have c16b0 : decide (0 ≤ t240) = true := decide_eq_true c16
 clear c16
 obtain rfl := Option.some.inj H
 have p234 : 0 ≤ (x7_1 : Int) := of_decide_eq_true (by first | (with_reducible assumption) | assumption)
 have q234 : x7_1 < (l0.length : Int) := of_decide_eq_true (by first | (with_reducible assumption) | assumption)
 obtain ⟨ad234, e234, hx234_0, hx234_1, hx234_2⟩ := at_T48 HR0.out x7_1 p234 q234
 cases e234
 replace hx234_0 := (HB.out.cell (World.block_lt_of_cell? w _ hx234_0)).trans hx234_0
 replace hx234_1 := (HB.out.cell (World.block_lt_of_cell? w _ hx234_1)).trans hx234_1
 replace hx234_2 := (HB.out.cell (World.block_lt_of_cell? w _ hx234_2)).trans hx234_2
 replace p234 := eq_true p234
 replace q234 := eq_true q234
 try go_wp2_with (first | ((with_reducible refine gate_dst (N := 4) rfl ?_); refine box_event rfl (N := 4) rfl (cs := #[.string (⟨#[]⟩ : ByteArray), .int .i64 0, .int .i64 0]) (t := 48) gs_ ?_; intro gb235 hg w17 hbox hb; have BK235 := Aside0.mk (hbox); have GW235 := Aside0.mk ((by rw [hg]; exact bz_ : w.heap.size ≤ gb235)); have GE235 := GW235; replace HB := Aside0.mk (below_step bl_ hb); clear hb hbox hg; have hcz18_0 : w17.cell? ⟨gb235, 0, none⟩ = some (.string (⟨#[]⟩ : ByteArray)) := bc_ BK235.out 0; have hcz18_1 : w17.cell? ⟨gb235, 1, none⟩ = some (.int .i64 0) := bc_ BK235.out 1; have hcz18_2 : w17.cell? ⟨gb235, 2, none⟩ = some (.int .i64 0) := bc_ BK235.out 2; have hfz18_0 := blk_frozen BK235.out 0; have hfz18_1 := blk_frozen BK235.out 1; have hfz18_2 := blk_frozen BK235.out 2))
 have n0_ : Aside0 ((((w17.setCell ⟨gb235, 0, none⟩ (.string ((rd_T48 l0 x7_1).f0))).setCell ⟨gb235, 1, none⟩ (.int .i64 ((rd_T48 l0 x7_1).f1))).setCell ⟨gb235, 2, none⟩ (.int .i64 ((rd_T48 l0 x7_1).f2))).heap[gb235]? = some (.cells #[.string ((rd_T48 l0 x7_1).f0), .int .i64 ((rd_T48 l0 x7_1).f1), .int .i64 ((rd_T48 l0 x7_1).f2)] 48 (0, 0))) := ⟨by (with_reducible repeat (first | refine blk_drewN ?_ _ | refine blk_drew ?_ | refine blk_alloc ?_ _)); refine blk_put (cs := #[.string ((rd_T48 l0 x7_1).f0), .int .i64 ((rd_T48 l0 x7_1).f1), .int .i64 0]) ?_ 2 _ rfl; (with_reducible repeat (first | refine blk_drewN ?_ _ | refine blk_drew ?_ | refine blk_alloc ?_ _)); refine blk_put (cs := #[.string ((rd_T48 l0 x7_1).f0), .int .i64 0, .int .i64 0]) ?_ 1 _ rfl; (with_reducible repeat (first | refine blk_drewN ?_ _ | refine blk_drew ?_ | refine blk_alloc ?_ _)); refine blk_put (cs := #[.string (⟨#[]⟩ : ByteArray), .int .i64 0, .int .i64 0]) ?_ 0 _ rfl; exact kb_ BK235.out⟩
 have n1_ : Aside0 (Below w.heap.size w (((w17.setCell ⟨gb235, 0, none⟩ (.string ((rd_T48 l0 x7_1).f0))).setCell ⟨gb235, 1, none⟩ (.int .i64 ((rd_T48 l0 x7_1).f1))).setCell ⟨gb235, 2, none⟩ (.int .i64 ((rd_T48 l0 x7_1).f2)))) := ⟨bl_⟩
 (try clear BK235)
 (try clear HB)
 generalize (((w17.setCell ⟨gb235, 0, none⟩ (.string ((rd_T48 l0 x7_1).f0))).setCell ⟨gb235, 1, none⟩ (.int .i64 ((rd_T48 l0 x7_1).f1))).setCell ⟨gb235, 2, none⟩ (.int .i64 ((rd_T48 l0 x7_1).f2))) = w19 at n0_ n1_ ⊢
 have BK235 := n0_
 have HB := n1_
 clear n0_ n1_
 replace BK235 := Aside0.mk (blk_drew BK235.out)
 replace HB := Aside0.mk (below_drew1 HB.out)
 have p239 : 0 ≤ ((ji12) : Int) := of_decide_eq_true (by first | (with_reducible assumption) | assumption)
 have q239 : (ji12) < (l0.length : Int) := of_decide_eq_true (by first | (with_reducible assumption) | assumption)
 obtain ⟨ad239, e239, hx239_0, hx239_1, hx239_2⟩ := at_T48 HR0.out (ji12) p239 q239
 have hw239_2 := hx239_2
 have hw239_1 := hx239_1
 have hw239_0 := hx239_0
 obtain rfl : ad234 = ad239 := (by injection e239)
 replace hx239_0 := (HB.out.cell (World.block_lt_of_cell? w _ hx239_0)).trans hx239_0
 replace hx239_1 := (HB.out.cell (World.block_lt_of_cell? w _ hx239_1)).trans hx239_1
 replace hx239_2 := (HB.out.cell (World.block_lt_of_cell? w _ hx239_2)).trans hx239_2
 replace p239 := eq_true p239
 replace q239 := eq_true q239
 refine start_ (n := 30) (S := fun w' => w'.cell? ⟨gb235, 0, none⟩ = some (.string ((rd_T48 l0 x7_1).f0)) ∧ w'.cell? ⟨gb235, 1, none⟩ = some (.int .i64 ((rd_T48 l0 x7_1).f1)) ∧ w'.cell? ⟨gb235, 2, none⟩ = some (.int .i64 ((rd_T48 l0 x7_1).f2)) ∧ w'.cell? (ad234.add (((ji12)).toNat * 3)) = some (.string ((rd_T48 l0 (ji12)).f0)) ∧ w'.cell? ⟨(ad234.add (((ji12)).toNat * 3)).block, (ad234.add (((ji12)).toNat * 3)).off + 1, none⟩ = some (.int .i64 ((rd_T48 l0 (ji12)).f1)) ∧ w'.cell? ⟨(ad234.add (((ji12)).toNat * 3)).block, (ad234.add (((ji12)).toNat * 3)).off + 2, none⟩ = some (.int .i64 ((rd_T48 l0 (ji12)).f2))) (ds := []) #[false, false, false, false, false, false, false, false, false, false, false, false, false, false, false, false, false, false, false, false, false, false, false, false, false, false, false, false, false, false] (by kernel_rfl) rfl rfl ⟨bc_ BK235.out 0, bc_ BK235.out 1, bc_ BK235.out 2, ((HB.out.cell (World.block_lt_of_cell? w _ hw239_0)).trans hw239_0), ((HB.out.cell (World.block_lt_of_cell? w _ hw239_1)).trans hw239_1), ((HB.out.cell (World.block_lt_of_cell? w _ hw239_2)).trans hw239_2)⟩ (fun hHeld => ?_); refine with_tabW impl_areAdds.tab4 impl_areAdds.bits4 (fun HT_ HW_ => ?_)
 generalize w19.drew = w20 at BK235 HB hx239_0 hx239_1 hx239_2 hHeld ⊢
 refine pu_ 0 (some 12) (h := ?_)
 refine tk6_ 1 (some 13) (h := ?_)
 refine on_ 2 (some 14) (h := fun K hK => ?_)
 refine goes_ Try.func50 (by kernel_rfl) rfl #[.string ((rd_T48 l0 x7_1).f0)] (by rfl) rfl rfl nc_ ?_
 with_reducible refine (impl_isValue.calls k1 ((rd_T48 l0 x7_1).f0) true _ A5.out).mono ?_
 rintro e w' ⟨rfl, ⟨nd, rfl⟩⟩
 refine ⟨_, rfl, ?_⟩
 refine hK.out _ _ ⟨bc_ BK235.out 0, bc_ BK235.out 1, bc_ BK235.out 2, ((HB.out.cell (World.block_lt_of_cell? w _ hw239_0)).trans hw239_0), ((HB.out.cell (World.block_lt_of_cell? w _ hw239_1)).trans hw239_1), ((HB.out.cell (World.block_lt_of_cell? w _ hw239_2)).trans hw239_2)⟩ (fun hHeld => ?_)
 clear hK K
 refine norm_ nn_ ?_
 refine pu_ 3 (some 15) (h := ?_)
 refine pu_ 4 (some 16) (h := ?_)
 refine pu_ 5 (some 17) (h := ?_)
 refine tk6_ 6 (some 18) (h := ?_)
 refine on_ 7 (some 19) (h := fun K hK => ?_)
 refine goes_ Try.func49 (by kernel_rfl) rfl #[.int .i64 ((rd_T48 l0 x7_1).f1), .int .i64 0, .int .i64 5] (by rfl) rfl rfl nc_ ?_
 with_reducible refine (impl_in.calls ((rd_T48 l0 x7_1).f1) 0 5 true _ A7.out).mono ?_
 rintro e w' ⟨rfl, ⟨nd, rfl⟩⟩
 refine ⟨_, rfl, ?_⟩
 refine hK.out _ _ ⟨bc_ BK235.out 0, bc_ BK235.out 1, bc_ BK235.out 2, ((HB.out.cell (World.block_lt_of_cell? w _ hw239_0)).trans hw239_0), ((HB.out.cell (World.block_lt_of_cell? w _ hw239_1)).trans hw239_1), ((HB.out.cell (World.block_lt_of_cell? w _ hw239_2)).trans hw239_2)⟩ (fun hHeld => ?_)
 clear hK K
 refine norm_ nn_ ?_
 refine pu_ 8 (some 20) (h := ?_)
 refine pu_ 9 (some 21) (h := ?_)
 refine pu_ 10 (some 22) (h := ?_)
 refine pu_ 11 (some 23) (h := ?_)
 refine tk6_ 12 (some 24) (h := ?_)
 refine on_ 13 (some 25) (h := fun K hK => ?_)
 refine goes_ Try.func49 (by kernel_rfl) rfl #[.int .i64 ((rd_T48 l0 x7_1).f2), .int .i64 1, .int .i64 1000] (by rfl) rfl rfl nc_ ?_
 with_reducible refine (impl_in.calls ((rd_T48 l0 x7_1).f2) 1 1000 true _ A9.out).mono ?_
 rintro e w' ⟨rfl, ⟨nd, rfl⟩⟩
 refine ⟨_, rfl, ?_⟩
 refine hK.out _ _ ⟨bc_ BK235.out 0, bc_ BK235.out 1, bc_ BK235.out 2, ((HB.out.cell (World.block_lt_of_cell? w _ hw239_0)).trans hw239_0), ((HB.out.cell (World.block_lt_of_cell? w _ hw239_1)).trans hw239_1), ((HB.out.cell (World.block_lt_of_cell? w _ hw239_2)).trans hw239_2)⟩ (fun hHeld => ?_)
 clear hK K
 refine norm_ nn_ ?_
 refine pu_ 14 (some 26) (h := ?_)
 refine pu_ 15 (some 27) (h := ?_)
 refine pu_ 16 (some 28) (h := ?_)
 refine pu_ 17 (some 29) (h := ?_)
 refine pu_ 18 (some 30) (h := ?_)
 refine pu_ 19 (some 31) (h := ?_)
 refine pu_ 20 (some 32) (h := ?_)
 refine pu_ 21 (some 33) (h := ?_)
 refine pu_ 22 (some 34) (h := ?_)
 refine pu_ 23 (some 35) (h := ?_)
 refine tk6_ 24 (some 36) (h := ?_)
 refine tk6_ 25 (some 37) (h := ?_)
 refine on_ 26 (some 38) (h := fun K hK => ?_)
 refine goes_ Try.func40 (by kernel_rfl) rfl #[.agg #[.string ((rd_T48 l0 (ji12)).f0), .int .i64 ((rd_T48 l0 (ji12)).f1), .int .i64 ((rd_T48 l0 (ji12)).f2)], .agg #[.string ((rd_T48 l0 x7_1).f0), .int .i64 ((rd_T48 l0 x7_1).f1), .int .i64 ((rd_T48 l0 x7_1).f2)]] (by rfl) rfl rfl (by (try simp only [List.map_toArray, List.map_cons, List.map_nil]); first | done | (simp only [hji12]; rfl) | rfl | (simp only [List.length_drop, List.length_take]; rfl)) ?_
 with_reducible refine (impl_compareAdds.calls k1 ((rd_T48 l0 (ji12)).f0) ((rd_T48 l0 (ji12)).f1) ((rd_T48 l0 (ji12)).f2) ((rd_T48 l0 x7_1).f0) ((rd_T48 l0 x7_1).f1) ((rd_T48 l0 x7_1).f2) t240 _ A15.out).mono ?_
 rintro e w21 ⟨rfl, hb⟩
 refine ⟨_, rfl, ?_⟩
 replace BK235 := bb_ BK235 hb
 replace HB := Aside0.mk (below_step bl_ hb)
 clear hb
 refine hK.out _ _ ⟨bc_ BK235.out 0, bc_ BK235.out 1, bc_ BK235.out 2, ((HB.out.cell (World.block_lt_of_cell? w _ hw239_0)).trans hw239_0), ((HB.out.cell (World.block_lt_of_cell? w _ hw239_1)).trans hw239_1), ((HB.out.cell (World.block_lt_of_cell? w _ hw239_2)).trans hw239_2)⟩ (fun hHeld => ?_)
 clear hK K
 refine norm_ nn_ ?_
 refine pu_ 27 (some 39) (h := ?_)
 refine pu_ 28 (some 40) (h := ?_)
 refine pu_ 29 (some 41) (h := ?_)
 refine done_ (done_of HT_.out (by kernel_rfl)) ?_
 try go_wp2
 go_ret
 exact ⟨by first | rfl | (simp [errW_none, errW_some] <;> rfl) | (simp only [← hji12]; first | rfl | (simp [errW_none, errW_some] <;> rfl)) | (simp [*, errW_none, errW_some] <;> rfl), bl_⟩

end Go.Proofs.Ytdnapgnnliibfaa.PMB
