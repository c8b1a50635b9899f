/- What this text proves: the machine calls of these functions return what the plain functions say. Conditions: as each theorem says. Printed by a program of this session out of the translation. -/
import Derived.Test.YtdnapgnnliibfaaPMBx0
import Derived.Test.YtdnapgnnliibfaaPMBx1
import Derived.Test.YtdnapgnnliibfaaPMBx6
namespace Go.Proofs.Ytdnapgnnliibfaa.PMB
open Go.RowKit Go.Proofs.YtdnapgnnliibfaaW.PrintWords Go.Proofs.YtdnapgnnliibfaaW.PrintLast Go.Proofs.YtdnapgnnliibfaaW.PrintMore
attribute [local go_sem] max2_int min2_int max_two min_two max_three min_three max_four min_four   -- for this text's walks alone
set_option linter.unusedVariables false
set_option linter.unusedSimpArgs false

attribute [local go_sem high] eqA48
/-! ### impl_MergeBag_1: function 39 -/
def impl_MergeBag_1.f (k : Nat) (a0_0 : ByteArray) (a0_1 : Int) (a0_2 : Int) (a1_0 : ByteArray) (a1_1 : Int) (a1_2 : Int) : Option (Bool) := (impl_compareAdds.f k a0_0 a0_1 a0_2 a1_0 a1_1 a1_2).bind fun t589 => (if t589 = 0 then (some (a0_0.toList != a1_0.toList)) else (some false))
theorem impl_MergeBag_1.mono : ∀ a0 a1 a2 a3 a4 a5 k, LeO (impl_MergeBag_1.f k a0 a1 a2 a3 a4 a5) (impl_MergeBag_1.f (k + 1) a0 a1 a2 a3 a4 a5) := by
 intro a0 a1 a2 a3 a4 a5 k
 unfold impl_MergeBag_1.f
 repeat' first
   | (with_reducible exact impl_compareAdds.mono _ _ _ _ _ _ _)
   | (with_reducible exact LeO.refl _)
   | (with_reducible exact LeO.none _)
   | (with_reducible refine LeO.ite ?_ ?_)
   | (with_reducible refine LeO.bind ?_ (fun _ => ?_))
   | exact impl_compareAdds.mono _ _ _ _ _ _ _
   | exact LeO.none _
   | refine LeO.ite ?_ ?_
   | refine LeO.bind ?_ (fun _ => ?_)
set_option maxHeartbeats 8000000 in
set_option maxRecDepth 100000 in
theorem impl_MergeBag_1.calls (k : Nat) (a0_0 : ByteArray) (a0_1 : Int) (a0_2 : Int) (a1_0 : ByteArray) (a1_1 : Int) (a1_2 : Int) (r : Bool) (w : World) (h : impl_MergeBag_1.f k a0_0 a0_1 a0_2 a1_0 a1_1 a1_2 = some r) {gb587 : Nat} (hbk_ : w.heap[gb587]? = some (.cells #[.string a1_0, .int .i64 a1_1, .int .i64 a1_2] 48 (0, 0)) := by with_reducible repeat (first | exact Aside0.out (by assumption) | refine blk_drewN ?_ _ | refine blk_drew ?_ | refine blk_alloc ?_ _)) :
  Calls Try.prog 39 #[.agg #[.string a0_0, .int .i64 a0_1, .int .i64 a0_2], .pointer (some ⟨gb587, 0, none⟩)] w fun e w' => e = .returned (.bool r) ∧ Below w.heap.size w w' := by
 have BK587 := Aside0.mk hbk_
 clear hbk_
 have hu48 := Try.underlying48
 have HB := Aside0.mk (Below.refl w.heap.size w)
 have H : ((impl_compareAdds.f k a0_0 a0_1 a0_2 a1_0 a1_1 a1_2).bind fun t589 => (if t589 = 0 then (some (a0_0.toList != a1_0.toList)) else (some false))) = some r := h
 clear h
 replace H := Option.bind_eq_some_iff.mp H
 obtain ⟨t589, A30, H⟩ := H
 replace H : (if t589 = 0 then (some (a0_0.toList != a1_0.toList)) else (some false)) = some r := H
 have A3 := Aside0.mk A30
 clear A30
 by_cases c4 : t589 = 0
 ·rw [if_pos c4] at H
  have c4b0 : (t589 == 0) = true := beq_iff_eq.mpr c4
  have c4b1 : (t589 != 0) = false := bne_eq_false_iff_eq.mpr c4
  clear c4
  obtain rfl := Option.some.inj H
  go_enter Try.func39, Try.ntmps39
  go_wp2_with (first | ((with_reducible refine gate_dst (N := 2) rfl ?_); refine box_event rfl (N := 2) rfl (cs := #[.string a0_0, .int .i64 a0_1, .int .i64 a0_2]) (t := 48) gs_ ?_; intro gb588 hg w6 hbox hb; have BK588 := Aside0.mk (hbox); have GW588 := Aside0.mk ((by rw [hg]; exact bz_ : w.heap.size ≤ gb588)); have GE588 := GW588; replace HB := Aside0.mk (below_step bl_ hb); have NB587_588 := nl_ hg BK587; have NB588_587 := nm_ hg BK587; replace BK587 := bb_ BK587 hb; clear hb hbox hg; have hnb7 := NB588_587.out; have hnc7 := NB587_588.out; have hcz8_0 : w6.cell? ⟨gb588, 0, none⟩ = some (.string a0_0) := bc_ BK588.out 0; have hcz8_1 : w6.cell? ⟨gb588, 1, none⟩ = some (.int .i64 a0_1) := bc_ BK588.out 1; have hcz8_2 : w6.cell? ⟨gb588, 2, none⟩ = some (.int .i64 a0_2) := bc_ BK588.out 2; have hfz8_0 := blk_frozen BK588.out 0; have hfz8_1 := blk_frozen BK588.out 1; have hfz8_2 := blk_frozen BK588.out 2; have hcz9_0 : w6.cell? ⟨gb587, 0, none⟩ = some (.string a1_0) := bc_ BK587.out 0; have hcz9_1 : w6.cell? ⟨gb587, 1, none⟩ = some (.int .i64 a1_1) := bc_ BK587.out 1; have hcz9_2 : w6.cell? ⟨gb587, 2, none⟩ = some (.int .i64 a1_2) := bc_ BK587.out 2; have hfz9_0 := blk_frozen BK587.out 0; have hfz9_1 := blk_frozen BK587.out 1; have hfz9_2 := blk_frozen BK587.out 2) | ((with_reducible refine gate_callee (f := 40) rfl ?_); refine goesL_ (some 6) rfl rfl Try.func40 (by kernel_rfl) rfl #[.agg #[.string a0_0, .int .i64 a0_1, .int .i64 a0_2], .agg #[.string a1_0, .int .i64 a1_1, .int .i64 a1_2]] rfl nc_ ?_; (with_reducible refine (impl_compareAdds.calls k a0_0 a0_1 a0_2 a1_0 a1_1 a1_2 t589 _ A3.out).mono ?_); rintro e w10 ⟨rfl, hb⟩; refine ⟨_, rfl, ?_⟩; replace BK587 := bb_ BK587 hb; replace BK588 := bb_ BK588 hb; replace HB := Aside0.mk (below_step bl_ hb); clear hb; have hcz11_0 : w10.cell? ⟨gb588, 0, none⟩ = some (.string a0_0) := bc_ BK588.out 0; have hcz11_1 : w10.cell? ⟨gb588, 1, none⟩ = some (.int .i64 a0_1) := bc_ BK588.out 1; have hcz11_2 : w10.cell? ⟨gb588, 2, none⟩ = some (.int .i64 a0_2) := bc_ BK588.out 2; have hfz11_0 := blk_frozen BK588.out 0; have hfz11_1 := blk_frozen BK588.out 1; have hfz11_2 := blk_frozen BK588.out 2; have hcz12_0 : w10.cell? ⟨gb587, 0, none⟩ = some (.string a1_0) := bc_ BK587.out 0; have hcz12_1 : w10.cell? ⟨gb587, 1, none⟩ = some (.int .i64 a1_1) := bc_ BK587.out 1; have hcz12_2 : w10.cell? ⟨gb587, 2, none⟩ = some (.int .i64 a1_2) := bc_ BK587.out 2; have hfz12_0 := blk_frozen BK587.out 0; have hfz12_1 := blk_frozen BK587.out 1; have hfz12_2 := blk_frozen BK587.out 2))
  go_ret
  exact ⟨ng_, bl_⟩
 rw [if_neg c4] at H
 have c4b0 : (t589 == 0) = false := beq_eq_false_iff_ne.mpr c4
 have c4b1 : (t589 != 0) = true := bne_iff_ne.mpr c4
 obtain rfl := Option.some.inj H
 go_enter Try.func39, Try.ntmps39
 go_wp2_with (first | ((with_reducible refine gate_dst (N := 15) rfl ?_); refine box_event rfl (N := 15) rfl (cs := #[.string a1_0, .int .i64 a1_1, .int .i64 a1_2]) (t := 48) gs_ ?_; intro gb587 hg w13 hbox hb; have BK587 := Aside0.mk (hbox); have GW587 := Aside0.mk ((by rw [hg]; exact bz_ : w.heap.size ≤ gb587)); have GE587 := GW587; replace HB := Aside0.mk (below_step bl_ hb); clear hb hbox hg) | ((with_reducible refine gate_dst (N := 2) rfl ?_); refine box_event rfl (N := 2) rfl (cs := #[.string a0_0, .int .i64 a0_1, .int .i64 a0_2]) (t := 48) gs_ ?_; intro gb588 hg w14 hbox hb; have BK588 := Aside0.mk (hbox); have GW588 := Aside0.mk ((by rw [hg]; exact bz_ : w.heap.size ≤ gb588)); have GE588 := GW588; replace HB := Aside0.mk (below_step bl_ hb); have NB587_588 := nl_ hg BK587; have NB588_587 := nm_ hg BK587; replace BK587 := bb_ BK587 hb; clear hb hbox hg; have hnb15 := NB588_587.out; have hnc15 := NB587_588.out; have hcz16_0 : w14.cell? ⟨gb588, 0, none⟩ = some (.string a0_0) := bc_ BK588.out 0; have hcz16_1 : w14.cell? ⟨gb588, 1, none⟩ = some (.int .i64 a0_1) := bc_ BK588.out 1; have hcz16_2 : w14.cell? ⟨gb588, 2, none⟩ = some (.int .i64 a0_2) := bc_ BK588.out 2; have hfz16_0 := blk_frozen BK588.out 0; have hfz16_1 := blk_frozen BK588.out 1; have hfz16_2 := blk_frozen BK588.out 2; have hcz17_0 : w14.cell? ⟨gb587, 0, none⟩ = some (.string a1_0) := bc_ BK587.out 0; have hcz17_1 : w14.cell? ⟨gb587, 1, none⟩ = some (.int .i64 a1_1) := bc_ BK587.out 1; have hcz17_2 : w14.cell? ⟨gb587, 2, none⟩ = some (.int .i64 a1_2) := bc_ BK587.out 2; have hfz17_0 := blk_frozen BK587.out 0; have hfz17_1 := blk_frozen BK587.out 1; have hfz17_2 := blk_frozen BK587.out 2) | ((with_reducible refine gate_callee (f := 40) rfl ?_); refine goesL_ (some 6) rfl rfl Try.func40 (by kernel_rfl) rfl #[.agg #[.string a0_0, .int .i64 a0_1, .int .i64 a0_2], .agg #[.string a1_0, .int .i64 a1_1, .int .i64 a1_2]] rfl nc_ ?_; (with_reducible refine (impl_compareAdds.calls k a0_0 a0_1 a0_2 a1_0 a1_1 a1_2 t589 _ A3.out).mono ?_); rintro e w18 ⟨rfl, hb⟩; refine ⟨_, rfl, ?_⟩; replace BK587 := bb_ BK587 hb; replace BK588 := bb_ BK588 hb; replace HB := Aside0.mk (below_step bl_ hb); clear hb))
 go_ret
 exact ⟨ng_, bl_⟩

/-! ### impl_Add_64: function 64 -/
def impl_Add_64.l0 : Nat → List (S48) → Int → Int → ByteArray → Int → Int → Option (Int)
 | 0, _, _, _, _, _, _ => none
 | k + 1, x0, x7, x8, x602000, x602001, x602002 => if x8 < x7 then (if 0 ≤ x8 then (if x8 < (x0.length : Int) then (if (x602000.toList == (((rd_T48 x0 x8).f0).toList) && (x602001 == ((rd_T48 x0 x8).f1) && (x602002 == ((rd_T48 x0 x8).f2)))) = true then (some x8) else (impl_Add_64.l0 k x0 x7 (wrap64 (x8 + 1)) x602000 x602001 x602002)) else (none)) else (none)) else (some (-1))
def impl_Add_64.f (k : Nat) (l0 : List (S48)) (a1_0 : ByteArray) (a1_1 : Int) (a1_2 : Int) : Option (Int) := impl_Add_64.l0 k l0 (l0.length : Int) 0 a1_0 a1_1 a1_2
theorem impl_Add_64.mono_l : ∀ k, (∀ y0 y1 y2 y3 y4 y5, LeO (impl_Add_64.l0 k y0 y1 y2 y3 y4 y5) (impl_Add_64.l0 (k + 1) y0 y1 y2 y3 y4 y5))
 | 0 => fun _ _ _ _ _ _ r h => by simp [impl_Add_64.l0] at h
 | k + 1 => by
  have ih0 := impl_Add_64.mono_l k
  ·intro y0 y1 y2 y3 y4 y5
   unfold impl_Add_64.l0
   repeat' first
   | (with_reducible exact ih0 _ _ _ _ _ _)
   | (with_reducible exact LeO.refl _)
   | (with_reducible exact LeO.none _)
   | (with_reducible refine LeO.ite ?_ ?_)
   | (with_reducible refine LeO.bind ?_ (fun _ => ?_))
   | exact ih0 _ _ _ _ _ _
   | exact LeO.none _
   | refine LeO.ite ?_ ?_
   | refine LeO.bind ?_ (fun _ => ?_)
theorem impl_Add_64.mono : ∀ a0 a1 a2 a3 k, LeO (impl_Add_64.f k a0 a1 a2 a3) (impl_Add_64.f (k + 1) a0 a1 a2 a3) := by
 intro a0 a1 a2 a3 k
 have ih0 := impl_Add_64.mono_l k
 unfold impl_Add_64.f
 repeat' first
   | (with_reducible exact ih0 _ _ _ _ _ _)
   | (with_reducible exact LeO.refl _)
   | (with_reducible exact LeO.none _)
   | (with_reducible refine LeO.ite ?_ ?_)
   | (with_reducible refine LeO.bind ?_ (fun _ => ?_))
   | exact ih0 _ _ _ _ _ _
   | exact LeO.none _
   | refine LeO.ite ?_ ?_
   | refine LeO.bind ?_ (fun _ => ?_)
set_option maxHeartbeats 8000000 in
set_option maxRecDepth 100000 in
theorem impl_Add_64.calls (k : Nat) (A0 : Option Addr) (c0 : Nat) (l0 : List (S48)) (a1_0 : ByteArray) (a1_1 : Int) (a1_2 : Int) (r : Int) (w : World) (hr0 : Kd.C k48 w A0 l0.length l0) (hc0 : l0.length ≤ c0) (h : impl_Add_64.f k l0 a1_0 a1_1 a1_2 = some r) :
  Calls Try.prog 64 #[.slice A0 l0.length c0, .agg #[.string a1_0, .int .i64 a1_1, .int .i64 a1_2]] w fun e w' => e = .returned (.int .i64 r) ∧ Below w.heap.size w w' := by
 have hu48 := Try.underlying48
 have HR0 := Aside0.mk hr0
 have HC0 := Aside0.mk hc0
 clear hr0 hc0
 have HB := Aside0.mk (Below.refl w.heap.size w)
 have H : (impl_Add_64.l0 k l0 (l0.length : Int) 0 a1_0 a1_1 a1_2) = some r := h
 clear h
 have H' := Aside0.mk H
 clear H
 go_enter Try.func64, Try.ntmps64
 go_wp2_with (first | ((with_reducible refine gate_dst (N := 3) rfl ?_); refine box_event rfl (N := 3) rfl (cs := #[.string a1_0, .int .i64 a1_1, .int .i64 a1_2]) (t := 48) gs_ ?_; intro gb601 hg w3 hbox hb; have BK601 := Aside0.mk (hbox); have GW601 := Aside0.mk ((by rw [hg]; exact bz_ : w.heap.size ≤ gb601)); have GE601 := GW601; replace HB := Aside0.mk (below_step bl_ hb); clear hb hbox hg))
 repeat (go_quiet (first | ((with_reducible refine gate_dst (N := 3) rfl ?_); refine box_event rfl (N := 3) rfl (cs := #[.string a1_0, .int .i64 a1_1, .int .i64 a1_2]) (t := 48) gs_ ?_; intro gb601 hg w3 hbox hb; have BK601 := Aside0.mk (hbox); have GW601 := Aside0.mk ((by rw [hg]; exact bz_ : w.heap.size ≤ gb601)); have GE601 := GW601; replace HB := Aside0.mk (below_step bl_ hb); clear hb hbox hg)); try go_wp2_with (first | ((with_reducible refine gate_dst (N := 3) rfl ?_); refine box_event rfl (N := 3) rfl (cs := #[.string a1_0, .int .i64 a1_1, .int .i64 a1_2]) (t := 48) gs_ ?_; intro gb601 hg w3 hbox hb; have BK601 := Aside0.mk (hbox); have GW601 := Aside0.mk ((by rw [hg]; exact bz_ : w.heap.size ≤ gb601)); have GE601 := GW601; replace HB := Aside0.mk (below_step bl_ hb); clear hb hbox hg)))
 go_loopg [8] k (fun kq v8 w' => ∃ (x8_1 : Int), v8 = .int .i64 x8_1 ∧ Aside0 (impl_Add_64.l0 kq l0 (l0.length : Int) x8_1 a1_0 a1_1 a1_2 = some r) ∧ Aside0 (kq ≤ k) ∧ Aside0 (w'.heap[gb601]? = some (.cells #[.string a1_0, .int .i64 a1_1, .int .i64 a1_2] 48 (0, 0))) ∧ Aside0 (Below w.heap.size w w'))
 case atStart => exact ⟨(0), (by first | rfl | (simp; done) | (simp [*]; done)), H', ⟨Nat.le_refl _⟩, ⟨by exact kb_ BK601.out⟩, ⟨bl_⟩⟩
 clear H'
 try clear p2
 obtain ⟨x8_1, rfl, HA, HK1, BK601, HB⟩ := hrel
 cases gk with
 | zero => exact absurd HA.out (by simp [impl_Add_64.l0])
 | succ k1 => ?_
 have H := HA.out
 clear HA
 simp only [impl_Add_64.l0] at H
 by_cases c4 : x8_1 < (l0.length : Int)
 rotate_left
 ·rw [if_neg c4] at H
  have c4b0 : decide (x8_1 < (l0.length : Int)) = false := decide_eq_false c4
  clear c4
  obtain rfl := Option.some.inj H
  go_wp2
  repeat (go_quiet (fail); try go_wp2)
  go_ret
  exact ⟨ng_, bl_⟩
 rw [if_pos c4] at H
 have c4b0 : decide (x8_1 < (l0.length : Int)) = true := decide_eq_true c4
 clear c4
 by_cases c5 : 0 ≤ x8_1
 rotate_left
 ·rw [if_neg c5] at H
  exact absurd H (by simp)
 rw [if_pos c5] at H
 have c5b0 : decide (0 ≤ x8_1) = true := decide_eq_true c5
 clear c5
 by_cases c6 : x8_1 < (l0.length : Int)
 rotate_left
 ·rw [if_neg c6] at H
  exact absurd H (by simp)
 rw [if_pos c6] at H
 have c6b0 : decide (x8_1 < (l0.length : Int)) = true := decide_eq_true c6
 clear c6
 by_cases c7 : (a1_0.toList == (((rd_T48 l0 x8_1).f0).toList) && (a1_1 == ((rd_T48 l0 x8_1).f1) && (a1_2 == ((rd_T48 l0 x8_1).f2)))) = true
 ·rw [if_pos c7] at H
  have c7b0 : (a1_0.toList == (((rd_T48 l0 x8_1).f0).toList) && (a1_1 == ((rd_T48 l0 x8_1).f1) && (a1_2 == ((rd_T48 l0 x8_1).f2)))) = true := c7
  (try (have c7b1 : decide (a1_0.toList = (((rd_T48 l0 x8_1).f0).toList) && (a1_1 == ((rd_T48 l0 x8_1).f1) && (a1_2 == ((rd_T48 l0 x8_1).f2)))) = true := by simpa using c7))
  (try (have c7b2 : (a1_0.toList == (((rd_T48 l0 x8_1).f0).toList) && (a1_1 == ((rd_T48 l0 x8_1).f1) && (a1_2 == ((rd_T48 l0 x8_1).f2)))) = true := by simpa using c7))
  clear c7
  obtain rfl := Option.some.inj H
  have hcz8_0 : wr.cell? ⟨gb601, 0, none⟩ = some (.string a1_0) := bc_ BK601.out 0
  have hcz8_1 : wr.cell? ⟨gb601, 1, none⟩ = some (.int .i64 a1_1) := bc_ BK601.out 1
  have hcz8_2 : wr.cell? ⟨gb601, 2, none⟩ = some (.int .i64 a1_2) := bc_ BK601.out 2
  have hfz8_0 := blk_frozen BK601.out 0
  have hfz8_1 := blk_frozen BK601.out 1
  have hfz8_2 := blk_frozen BK601.out 2
  have p602 : 0 ≤ (x8_1 : Int) := of_decide_eq_true (by first | (with_reducible assumption) | assumption)
  have q602 : x8_1 < (l0.length : Int) := of_decide_eq_true (by first | (with_reducible assumption) | assumption)
  obtain ⟨ad602, e602, hx602_0, hx602_1, hx602_2⟩ := at_T48 HR0.out x8_1 p602 q602
  cases e602
  replace hx602_0 := (HB.out.cell (World.block_lt_of_cell? w _ hx602_0)).trans hx602_0
  replace hx602_1 := (HB.out.cell (World.block_lt_of_cell? w _ hx602_1)).trans hx602_1
  replace hx602_2 := (HB.out.cell (World.block_lt_of_cell? w _ hx602_2)).trans hx602_2
  replace p602 := eq_true p602
  replace q602 := eq_true q602
  go_wp2
  repeat (go_quiet (fail); try go_wp2)
  go_ret
  exact ⟨ng_, bl_⟩
 rw [if_neg c7] at H
 have c7b0 : (a1_0.toList == (((rd_T48 l0 x8_1).f0).toList) && (a1_1 == ((rd_T48 l0 x8_1).f1) && (a1_2 == ((rd_T48 l0 x8_1).f2)))) = false := by simpa using c7
 (try (have c7b1 : decide (a1_0.toList = (((rd_T48 l0 x8_1).f0).toList) && (a1_1 == ((rd_T48 l0 x8_1).f1) && (a1_2 == ((rd_T48 l0 x8_1).f2)))) = false := by simpa using c7))
 (try (have c7b2 : (a1_0.toList == (((rd_T48 l0 x8_1).f0).toList) && (a1_1 == ((rd_T48 l0 x8_1).f1) && (a1_2 == ((rd_T48 l0 x8_1).f2)))) = false := by simpa using c7))
 (try (have c7b3 : ¬ (a1_0.toList = (((rd_T48 l0 x8_1).f0).toList) && (a1_1 == ((rd_T48 l0 x8_1).f1) && (a1_2 == ((rd_T48 l0 x8_1).f2)))) := by simpa using c7))
 clear c7
 have H' := Aside0.mk H
 clear H
 have hcz9_0 : wr.cell? ⟨gb601, 0, none⟩ = some (.string a1_0) := bc_ BK601.out 0
 have hcz9_1 : wr.cell? ⟨gb601, 1, none⟩ = some (.int .i64 a1_1) := bc_ BK601.out 1
 have hcz9_2 : wr.cell? ⟨gb601, 2, none⟩ = some (.int .i64 a1_2) := bc_ BK601.out 2
 have hfz9_0 := blk_frozen BK601.out 0
 have hfz9_1 := blk_frozen BK601.out 1
 have hfz9_2 := blk_frozen BK601.out 2
 have p602 : 0 ≤ (x8_1 : Int) := of_decide_eq_true (by first | (with_reducible assumption) | assumption)
 have q602 : x8_1 < (l0.length : Int) := of_decide_eq_true (by first | (with_reducible assumption) | assumption)
 obtain ⟨ad602, e602, hx602_0, hx602_1, hx602_2⟩ := at_T48 HR0.out x8_1 p602 q602
 cases e602
 replace hx602_0 := (HB.out.cell (World.block_lt_of_cell? w _ hx602_0)).trans hx602_0
 replace hx602_1 := (HB.out.cell (World.block_lt_of_cell? w _ hx602_1)).trans hx602_1
 replace hx602_2 := (HB.out.cell (World.block_lt_of_cell? w _ hx602_2)).trans hx602_2
 replace p602 := eq_true p602
 replace q602 := eq_true q602
 go_wp2
 repeat (go_quiet (fail); try go_wp2)
 go_roundg k1
 case measure => have := HK1.out; omega
 case rel => exact ⟨(wrap64 (x8_1 + 1)), (by first | rfl | (simp; done) | (simp [*]; done)), H', ⟨by have := HK1.out; omega⟩, ⟨by exact kb_ BK601.out⟩, ⟨bl_⟩⟩

/-! ### impl_Add_43: function 43 -/
def impl_Add_43.f (k : Nat) (l0 : List (S48)) (a1_0 : ByteArray) (a1_1 : Int) (a1_2 : Int) : Option (Bool) := (impl_Add_64.f k l0 a1_0 a1_1 a1_2).bind fun t604 => (some (decide (t604 ≥ 0)))
theorem impl_Add_43.mono : ∀ a0 a1 a2 a3 k, LeO (impl_Add_43.f k a0 a1 a2 a3) (impl_Add_43.f (k + 1) a0 a1 a2 a3) := by
 intro a0 a1 a2 a3 k
 unfold impl_Add_43.f
 repeat' first
   | (with_reducible exact impl_Add_64.mono _ _ _ _ _)
   | (with_reducible exact LeO.refl _)
   | (with_reducible exact LeO.none _)
   | (with_reducible refine LeO.ite ?_ ?_)
   | (with_reducible refine LeO.bind ?_ (fun _ => ?_))
   | exact impl_Add_64.mono _ _ _ _ _
   | exact LeO.none _
   | refine LeO.ite ?_ ?_
   | refine LeO.bind ?_ (fun _ => ?_)
set_option maxHeartbeats 8000000 in
set_option maxRecDepth 100000 in
theorem impl_Add_43.calls (k : Nat) (A0 : Option Addr) (c0 : Nat) (l0 : List (S48)) (a1_0 : ByteArray) (a1_1 : Int) (a1_2 : Int) (r : Bool) (w : World) (hr0 : Kd.C k48 w A0 l0.length l0) (hc0 : l0.length ≤ c0) (h : impl_Add_43.f k l0 a1_0 a1_1 a1_2 = some r) :
  Calls Try.prog 43 #[.slice A0 l0.length c0, .agg #[.string a1_0, .int .i64 a1_1, .int .i64 a1_2]] w fun e w' => e = .returned (.bool r) ∧ Below w.heap.size w w' := by
 have hu48 := Try.underlying48
 have HR0 := Aside0.mk hr0
 have HC0 := Aside0.mk hc0
 clear hr0 hc0
 have HB := Aside0.mk (Below.refl w.heap.size w)
 have H : ((impl_Add_64.f k l0 a1_0 a1_1 a1_2).bind fun t604 => (some (decide (t604 ≥ 0)))) = some r := h
 clear h
 replace H := Option.bind_eq_some_iff.mp H
 obtain ⟨t604, A30, H⟩ := H
 replace H : (some (decide (t604 ≥ 0))) = some r := H
 have A3 := Aside0.mk A30
 clear A30
 obtain rfl := Option.some.inj H
 go_enter Try.func43, Try.ntmps43
 go_wp2_with (first | ((with_reducible refine gate_dst (N := 3) rfl ?_); refine box_event rfl (N := 3) rfl (cs := #[.string a1_0, .int .i64 a1_1, .int .i64 a1_2]) (t := 48) gs_ ?_; intro gb603 hg w4 hbox hb; have BK603 := Aside0.mk (hbox); have GW603 := Aside0.mk ((by rw [hg]; exact bz_ : w.heap.size ≤ gb603)); have GE603 := GW603; replace HB := Aside0.mk (below_step bl_ hb); clear hb hbox hg; have hcz5_0 : w4.cell? ⟨gb603, 0, none⟩ = some (.string a1_0) := bc_ BK603.out 0; have hcz5_1 : w4.cell? ⟨gb603, 1, none⟩ = some (.int .i64 a1_1) := bc_ BK603.out 1; have hcz5_2 : w4.cell? ⟨gb603, 2, none⟩ = some (.int .i64 a1_2) := bc_ BK603.out 2; have hfz5_0 := blk_frozen BK603.out 0; have hfz5_1 := blk_frozen BK603.out 1; have hfz5_2 := blk_frozen BK603.out 2) | ((with_reducible refine gate_callee (f := 64) rfl ?_); refine goesL_ (some 7) rfl rfl Try.func64 (by kernel_rfl) rfl #[.slice A0 l0.length c0, .agg #[.string a1_0, .int .i64 a1_1, .int .i64 a1_2]] rfl nc_ ?_; (with_reducible refine (impl_Add_64.calls k _ _ l0 a1_0 a1_1 a1_2 t604 _ ?side1 ?side2 A3.out).mono ?_); (case side1 => exact kc_ (Kd.C_below HR0.out HB.out)); (case side2 => exact HC0.out); rintro e w6 ⟨rfl, hb⟩; refine ⟨_, rfl, ?_⟩; replace BK603 := bb_ BK603 hb; replace HB := Aside0.mk (below_step bl_ hb); clear hb))
 go_ret
 exact ⟨ng_, bl_⟩

-- NOT PRINTED: function 42 (impl_MergeBag_2)

/-! ### has_impl_MergeBag_1: slices.ContainsFunc[[]loop.example/g00218/impl.Add,loop.example/g00218/impl.Add] with function 39 -/
def has_impl_MergeBag_1.f (k : Nat) (l0 : List S48) (a1_0 : ByteArray) (a1_1 : Int) (a1_2 : Int) : Option (Bool) := (idxO (fun x : S48 => impl_MergeBag_1.f k x.f0 x.f1 x.f2 a1_0 a1_1 a1_2) l0 0).bind fun i => some (decide (i ≥ 0))
theorem has_impl_MergeBag_1.mono : ∀ l0 a1_0 a1_1 a1_2 k, LeO (has_impl_MergeBag_1.f k l0 a1_0 a1_1 a1_2) (has_impl_MergeBag_1.f (k + 1) l0 a1_0 a1_1 a1_2) := by
 intro l0 a1_0 a1_1 a1_2 k
 unfold has_impl_MergeBag_1.f
 exact LeO.bind (idxO_le (fun x => impl_MergeBag_1.mono _ _ _ _ _ _ k) l0 0) (fun _ => LeO.refl _)
theorem has_impl_MergeBag_1.calls (k : Nat) (A0 : Option Addr) (c0 : Nat) (l0 : List S48) (a1_0 : ByteArray) (a1_1 : Int) (a1_2 : Int) (r : Bool) (w : World) (hr0 : Kd.C k48 w A0 l0.length l0) (hc0 : l0.length ≤ c0)  (h : has_impl_MergeBag_1.f k l0 a1_0 a1_1 a1_2 = some r) {g : Nat} (hb : w.heap[g]? = some (.cells #[.string a1_0, .int .i64 a1_1, .int .i64 a1_2] 48 (0, 0)) := by with_reducible repeat (first | exact Aside0.out (by assumption) | refine blk_drewN ?_ _ | refine blk_drew ?_ | refine blk_alloc ?_ _)) :
  Calls Try.prog 38 #[.slice A0 l0.length c0, .func (.func 39) #[] #[.pointer (some ⟨g, 0, none⟩)]] w fun e w' => e = .returned (.bool r) ∧ Below w.heap.size w w' := by
 have eg : ∀ args w, (callFunc 39 args).run Try.prog w = .ok (.enter 39 args) w := Go.Proofs.enters_of Try.func39 (by kernel_rfl) rfl
 unfold has_impl_MergeBag_1.f at h
 rw [Option.bind_eq_some_iff] at h
 obtain ⟨i, hi, he⟩ := h
 obtain rfl := Option.some.inj he
 exact conT48.any 39 #[.pointer (some ⟨g, 0, none⟩)] eg (fun x : S48 => impl_MergeBag_1.f k x.f0 x.f1 x.f2 a1_0 a1_1 a1_2) A0 c0 l0 i w (fun x b W hx hB_ => (impl_MergeBag_1.calls k x.f0 x.f1 x.f2 a1_0 a1_1 a1_2 b W hx (hbk_ := blk_below hb hB_)).mono fun _ _ h_ => ⟨h_.1, (by first | exact h_.2 | exact h_.2.below)⟩) hr0 hi

end Go.Proofs.Ytdnapgnnliibfaa.PMB
