/- What this text proves: the machine calls of these functions return what the plain functions say. Conditions: as each theorem says. Printed by a program of this session out of the translation. -/
import Derived.Test.YtgdcooiaeeajmaaPLAx0
import Derived.Test.YtgdcooiaeeajmaaPLAx3
namespace Go.Proofs.Ytgdcooiaeeajmaa.PLA
open Go.RowKit Go.Proofs.YtgdcooiaeeajmaaW.PrintWords Go.Proofs.YtgdcooiaeeajmaaW.PrintLast Go.Proofs.YtgdcooiaeeajmaaW.PrintMore
attribute [local go_sem] max2_int min2_int max_two min_two max_three min_three max_four min_four   -- for this text's walks alone
set_option linter.unusedVariables false
set_option linter.unusedSimpArgs false

/-! ### spec_GoodEvents: function 38 -/
mutual
def spec_GoodEvents.l0 : Nat → List (S68) → List (S68) → Int → Int → Option (Bool)
 | 0, _, _, _, _ => none
 | k + 1, x0, x8, x9, x10 => if x10 < x9 then (if 0 ≤ x10 then (if x10 < (x8.length : Int) then ((spec_l1In.f ((rd_T68 x8 x10).f0) 1 3).bind fun t216 => (if t216 = true then ((spec_l1In.f ((rd_T68 x8 x10).f1) 0 5).bind fun t217 => (spec_GoodEvents.j1 k x0 x10 x8 x9 x10 (!t217) ((rd_T68 x8 x10).f0) ((rd_T68 x8 x10).f1) ((rd_T68 x8 x10).f2))) else (spec_GoodEvents.j1 k x0 x10 x8 x9 x10 true ((rd_T68 x8 x10).f0) ((rd_T68 x8 x10).f1) ((rd_T68 x8 x10).f2)))) else (none)) else (none)) else (some (decide ((x0.length : Int) ≤ 60)))
def spec_GoodEvents.j1 : Nat → List (S68) → Int → List (S68) → Int → Int → Bool → Int → Int → Int → Option (Bool)
 | 0, _, _, _, _, _, _, _, _, _ => none
 | k + 1, x0, x3, x8, x9, x10, x24, x216000, x216001, x216002 => if x24 = true then (some false) else (if x216000 = 1 then (if x216002 = 0 then (spec_GoodEvents.l0 k x0 x8 x9 (wrap64 (x10 + 1))) else (some false)) else (if 0 ≤ x3 then (if x3 ≤ (x0.length : Int) then ((some (x0.take (x3 : Int).toNat : List (S68))).bind fun y218 => (spec_GoodEvents.l1 k x0 false x8 x9 x10 y218 (y218.length : Int) 0 x216000 x216001 x216002)) else (none)) else (none)))
def spec_GoodEvents.l1 : Nat → List (S68) → Bool → List (S68) → Int → Int → List (S68) → Int → Int → Int → Int → Int → Option (Bool)
 | 0, _, _, _, _, _, _, _, _, _, _, _ => none
 | k + 1, x0, x5, x8, x9, x10, x33, x34, x35, x216000, x216001, x216002 => if x35 < x34 then (if 0 ≤ x35 then (if x35 < (x33.length : Int) then (if ((rd_T68 x33 x35).f2) = x216002 then (if ((rd_T68 x33 x35).f0) = x216000 then (some false) else (if x5 = true then (spec_GoodEvents.l1 k x0 true x8 x9 x10 x33 x34 (wrap64 (x35 + 1)) x216000 x216001 x216002) else (spec_GoodEvents.l1 k x0 (((rd_T68 x33 x35).f0) == 2) x8 x9 x10 x33 x34 (wrap64 (x35 + 1)) x216000 x216001 x216002))) else (if x5 = true then (spec_GoodEvents.l1 k x0 true x8 x9 x10 x33 x34 (wrap64 (x35 + 1)) x216000 x216001 x216002) else (spec_GoodEvents.l1 k x0 false x8 x9 x10 x33 x34 (wrap64 (x35 + 1)) x216000 x216001 x216002))) else (none)) else (none)) else ((spec_l1In.f x216002 1 1000).bind fun t224 => (if t224 = true then (if x216000 = 3 then (if x5 = true then (spec_GoodEvents.l0 k x0 x8 x9 (wrap64 (x10 + 1))) else (some false)) else (spec_GoodEvents.l0 k x0 x8 x9 (wrap64 (x10 + 1)))) else (some false)))
end
def spec_GoodEvents.f (k : Nat) (l0 : List (S68)) : Option (Bool) := spec_GoodEvents.l0 k l0 l0 (l0.length : Int) 0
theorem spec_GoodEvents.mono_l : ∀ k, (∀ y0 y1 y2 y3, LeO (spec_GoodEvents.l0 k y0 y1 y2 y3) (spec_GoodEvents.l0 (k + 1) y0 y1 y2 y3)) ∧ (∀ y0 y1 y2 y3 y4 y5 y6 y7 y8, LeO (spec_GoodEvents.j1 k y0 y1 y2 y3 y4 y5 y6 y7 y8) (spec_GoodEvents.j1 (k + 1) y0 y1 y2 y3 y4 y5 y6 y7 y8)) ∧ (∀ y0 y1 y2 y3 y4 y5 y6 y7 y8 y9 y10, LeO (spec_GoodEvents.l1 k y0 y1 y2 y3 y4 y5 y6 y7 y8 y9 y10) (spec_GoodEvents.l1 (k + 1) y0 y1 y2 y3 y4 y5 y6 y7 y8 y9 y10))
 | 0 => ⟨fun _ _ _ _ r h => by simp [spec_GoodEvents.l0] at h, fun _ _ _ _ _ _ _ _ _ r h => by simp [spec_GoodEvents.j1] at h, fun _ _ _ _ _ _ _ _ _ _ _ r h => by simp [spec_GoodEvents.l1] at h⟩
 | k + 1 => by
  obtain ⟨ih0, ih1, ih2⟩ := spec_GoodEvents.mono_l k
  refine ⟨?_, ?_, ?_⟩
  ·intro y0 y1 y2 y3
   unfold spec_GoodEvents.l0
   repeat' first
   | (with_reducible exact ih0 _ _ _ _)
   | (with_reducible exact ih1 _ _ _ _ _ _ _ _ _)
   | (with_reducible exact ih2 _ _ _ _ _ _ _ _ _ _ _)
   | (with_reducible exact LeO.refl _)
   | (with_reducible exact LeO.none _)
   | (with_reducible refine LeO.ite ?_ ?_)
   | (with_reducible refine LeO.bind ?_ (fun _ => ?_))
   | exact ih0 _ _ _ _
   | exact ih1 _ _ _ _ _ _ _ _ _
   | exact ih2 _ _ _ _ _ _ _ _ _ _ _
   | exact LeO.none _
   | refine LeO.ite ?_ ?_
   | refine LeO.bind ?_ (fun _ => ?_)
  ·intro y0 y1 y2 y3 y4 y5 y6 y7 y8
   unfold spec_GoodEvents.j1
   repeat' first
   | (with_reducible exact ih0 _ _ _ _)
   | (with_reducible exact ih1 _ _ _ _ _ _ _ _ _)
   | (with_reducible exact ih2 _ _ _ _ _ _ _ _ _ _ _)
   | (with_reducible exact LeO.refl _)
   | (with_reducible exact LeO.none _)
   | (with_reducible refine LeO.ite ?_ ?_)
   | (with_reducible refine LeO.bind ?_ (fun _ => ?_))
   | exact ih0 _ _ _ _
   | exact ih1 _ _ _ _ _ _ _ _ _
   | exact ih2 _ _ _ _ _ _ _ _ _ _ _
   | exact LeO.none _
   | refine LeO.ite ?_ ?_
   | refine LeO.bind ?_ (fun _ => ?_)
  ·intro y0 y1 y2 y3 y4 y5 y6 y7 y8 y9 y10
   unfold spec_GoodEvents.l1
   repeat' first
   | (with_reducible exact ih0 _ _ _ _)
   | (with_reducible exact ih1 _ _ _ _ _ _ _ _ _)
   | (with_reducible exact ih2 _ _ _ _ _ _ _ _ _ _ _)
   | (with_reducible exact LeO.refl _)
   | (with_reducible exact LeO.none _)
   | (with_reducible refine LeO.ite ?_ ?_)
   | (with_reducible refine LeO.bind ?_ (fun _ => ?_))
   | exact ih0 _ _ _ _
   | exact ih1 _ _ _ _ _ _ _ _ _
   | exact ih2 _ _ _ _ _ _ _ _ _ _ _
   | exact LeO.none _
   | refine LeO.ite ?_ ?_
   | refine LeO.bind ?_ (fun _ => ?_)
theorem spec_GoodEvents.mono : ∀ a0 k, LeO (spec_GoodEvents.f k a0) (spec_GoodEvents.f (k + 1) a0) := by
 intro a0 k
 obtain ⟨ih0, ih1, ih2⟩ := spec_GoodEvents.mono_l k
 unfold spec_GoodEvents.f
 repeat' first
   | (with_reducible exact ih0 _ _ _ _)
   | (with_reducible exact ih1 _ _ _ _ _ _ _ _ _)
   | (with_reducible exact ih2 _ _ _ _ _ _ _ _ _ _ _)
   | (with_reducible exact LeO.refl _)
   | (with_reducible exact LeO.none _)
   | (with_reducible refine LeO.ite ?_ ?_)
   | (with_reducible refine LeO.bind ?_ (fun _ => ?_))
   | exact ih0 _ _ _ _
   | exact ih1 _ _ _ _ _ _ _ _ _
   | exact ih2 _ _ _ _ _ _ _ _ _ _ _
   | exact LeO.none _
   | refine LeO.ite ?_ ?_
   | refine LeO.bind ?_ (fun _ => ?_)
set_option maxHeartbeats 8000000 in
set_option maxRecDepth 100000 in
theorem spec_GoodEvents.calls (k : Nat) (A0 : Option Addr) (c0 : Nat) (l0 : List (S68)) (r : Bool) (w : World) (hr0 : Kd.C k68 w A0 l0.length l0) (hc0 : l0.length ≤ c0) (h : spec_GoodEvents.f k l0 = some r) :
  Calls Try.prog 38 #[.slice A0 l0.length c0] w fun e w' => e = .returned (.bool r) ∧ Below w.heap.size w w' := by
 have hu68 := Try.underlying68
 have HR0 := Aside0.mk hr0
 have HC0 := Aside0.mk hc0
 clear hr0 hc0
 have HB := Aside0.mk (Below.refl w.heap.size w)
 have H : (spec_GoodEvents.l0 k l0 l0 (l0.length : Int) 0) = some r := h
 clear h
 have H' := Aside0.mk H
 clear H
 go_enter Try.func38, Try.ntmps38
 go_wp2
 go_loopg [10] k (fun kq v10 w' => ∃ (x10_1 : Int), v10 = .int .i64 x10_1 ∧ Aside0 (spec_GoodEvents.l0 kq l0 l0 (l0.length : Int) x10_1 = some r) ∧ Aside0 (kq ≤ k) ∧ Aside0 (Below w.heap.size w w'))
 case atStart => exact ⟨(0), (by first | rfl | (simp; done) | (simp [*]; done)), H', ⟨Nat.le_refl _⟩, ⟨bl_⟩⟩
 clear H'
 obtain ⟨x10_1, rfl, HA, HK1, HB⟩ := hrel
 cases gk with
 | zero => exact absurd HA.out (by simp [spec_GoodEvents.l0])
 | succ k1 => ?_
 have H := HA.out
 clear HA
 simp only [spec_GoodEvents.l0] at H
 by_cases c2 : x10_1 < (l0.length : Int)
 rotate_left
 ·rw [if_neg c2] at H
  have c2b0 : decide (x10_1 < (l0.length : Int)) = false := decide_eq_false c2
  clear c2
  obtain rfl := Option.some.inj H
  go_wp2
  go_ret
  exact ⟨ng_, bl_⟩
 rw [if_pos c2] at H
 have c2b0 : decide (x10_1 < (l0.length : Int)) = true := decide_eq_true c2
 clear c2
 by_cases c3 : 0 ≤ x10_1
 rotate_left
 ·rw [if_neg c3] at H
  exact absurd H (by simp)
 rw [if_pos c3] at H
 have c3b0 : decide (0 ≤ x10_1) = true := decide_eq_true c3
 clear c3
 by_cases c4 : x10_1 < (l0.length : Int)
 rotate_left
 ·rw [if_neg c4] at H
  exact absurd H (by simp)
 rw [if_pos c4] at H
 have c4b0 : decide (x10_1 < (l0.length : Int)) = true := decide_eq_true c4
 clear c4
 have HC5 := Aside0.mk H
 clear H
 have p214 : 0 ≤ (x10_1 : Int) := of_decide_eq_true (by first | (with_reducible assumption) | assumption)
 have q214 : x10_1 < (l0.length : Int) := of_decide_eq_true (by first | (with_reducible assumption) | assumption)
 obtain ⟨ad214, e214, hx214_0, hx214_1, hx214_2⟩ := at_T68 HR0.out x10_1 p214 q214
 cases e214
 replace hx214_0 := (HB.out.cell (World.block_lt_of_cell? w _ hx214_0)).trans hx214_0
 replace hx214_1 := (HB.out.cell (World.block_lt_of_cell? w _ hx214_1)).trans hx214_1
 replace hx214_2 := (HB.out.cell (World.block_lt_of_cell? w _ hx214_2)).trans hx214_2
 replace p214 := eq_true p214
 replace q214 := eq_true q214
 go_upto_region 4 with (first | ((with_reducible refine gate_dst (N := 4) rfl ?_); refine box_event rfl (N := 4) rfl (cs := #[.int .i64 0, .int .i64 0, .int .i64 0]) (t := 68) gs_ ?_; intro gb215 hg w6 hbox hb; have BK215 := Aside0.mk (hbox); have GW215 := Aside0.mk ((by rw [hg]; exact bz_ : w.heap.size ≤ gb215)); have GE215 := GW215; replace HB := Aside0.mk (below_step bl_ hb); clear hb hbox hg; have hcz7_0 : w6.cell? ⟨gb215, 0, none⟩ = some (.int .i64 0) := bc_ BK215.out 0; have hcz7_1 : w6.cell? ⟨gb215, 1, none⟩ = some (.int .i64 0) := bc_ BK215.out 1; have hcz7_2 : w6.cell? ⟨gb215, 2, none⟩ = some (.int .i64 0) := bc_ BK215.out 2; have hfz7_0 := blk_frozen BK215.out 0; have hfz7_1 := blk_frozen BK215.out 1; have hfz7_2 := blk_frozen BK215.out 2))
 (try simp only [Act.put, List.setIfInBounds_toArray, List.set_cons_zero, List.set_cons_succ])
 go_cut [24] (fun v24 wc => ∃ (kq : Nat) (x24_4 : Bool), v24 = .bool x24_4 ∧ Aside0 (spec_GoodEvents.j1 kq l0 x10_1 l0 (l0.length : Int) x10_1 x24_4 ((rd_T68 l0 x10_1).f0) ((rd_T68 l0 x10_1).f1) ((rd_T68 l0 x10_1).f2) = some r) ∧ Aside0 (kq ≤ k1) ∧ Aside0 (wc.heap[gb215]? = some (.cells #[.int .i64 ((rd_T68 l0 x10_1).f0), .int .i64 ((rd_T68 l0 x10_1).f1), .int .i64 ((rd_T68 l0 x10_1).f2)] 68 (0, 0))) ∧ Aside0 (Below w.heap.size w wc))
 case first =>
  have H := HC5.out
  clear HC5
  replace H := Option.bind_eq_some_iff.mp H
  obtain ⟨t216, A80, H⟩ := H
  replace H : (if t216 = true then ((spec_l1In.f ((rd_T68 l0 x10_1).f1) 0 5).bind fun t217 => (spec_GoodEvents.j1 k1 l0 x10_1 l0 (l0.length : Int) x10_1 (!t217) ((rd_T68 l0 x10_1).f0) ((rd_T68 l0 x10_1).f1) ((rd_T68 l0 x10_1).f2))) else (spec_GoodEvents.j1 k1 l0 x10_1 l0 (l0.length : Int) x10_1 true ((rd_T68 l0 x10_1).f0) ((rd_T68 l0 x10_1).f1) ((rd_T68 l0 x10_1).f2))) = some r := H
  have A8 := Aside0.mk A80
  clear A80
  by_cases c9 : t216 = true
  rotate_left
  ·replace c9 := Bool.eq_false_iff.mpr c9
   subst c9
   have H1 : (spec_GoodEvents.j1 k1 l0 x10_1 l0 (l0.length : Int) x10_1 true ((rd_T68 l0 x10_1).f0) ((rd_T68 l0 x10_1).f1) ((rd_T68 l0 x10_1).f2)) = some r := by rw [if_neg (show ¬ (false = true) by decide)] at H; exact H
   clear H
   have H := H1
   clear H1
   have H' := Aside0.mk H
   clear H
   have hcz12_0 : w6.cell? ⟨gb215, 0, none⟩ = some (.int .i64 0) := bc_ BK215.out 0
   have hcz12_1 : w6.cell? ⟨gb215, 1, none⟩ = some (.int .i64 0) := bc_ BK215.out 1
   have hcz12_2 : w6.cell? ⟨gb215, 2, none⟩ = some (.int .i64 0) := bc_ BK215.out 2
   have hfz12_0 := blk_frozen BK215.out 0
   have hfz12_1 := blk_frozen BK215.out 1
   have hfz12_2 := blk_frozen BK215.out 2
   go_wp2_with (first | ((with_reducible refine gate_callee (f := 27) rfl ?_); refine goesL_ (some 17) rfl rfl Try.func27 (by kernel_rfl) rfl #[.int .i64 ((rd_T68 l0 x10_1).f0), .int .i64 1, .int .i64 3] rfl nc_ ?_; (with_reducible refine (spec_l1In.calls ((rd_T68 l0 x10_1).f0) 1 3 false _ A8.out).mono ?_); rintro e w' ⟨rfl, ⟨nd, rfl⟩⟩; refine ⟨_, rfl, ?_⟩))
   go_meet
   case rel => exact ⟨_, (true), (by first | rfl | (simp; done) | (simp [*]; done)), H', ⟨by have := HK1.out; first | omega | exact Nat.le_refl _⟩, ⟨by (with_reducible repeat (first | refine blk_drewN ?_ _ | refine blk_drew ?_ | refine blk_alloc ?_ _)); refine blk_put (cs := #[.int .i64 ((rd_T68 l0 x10_1).f0), .int .i64 ((rd_T68 l0 x10_1).f1), .int .i64 0]) ?_ 2 _ rfl; (with_reducible repeat (first | refine blk_drewN ?_ _ | refine blk_drew ?_ | refine blk_alloc ?_ _)); refine blk_put (cs := #[.int .i64 ((rd_T68 l0 x10_1).f0), .int .i64 0, .int .i64 0]) ?_ 1 _ rfl; (with_reducible repeat (first | refine blk_drewN ?_ _ | refine blk_drew ?_ | refine blk_alloc ?_ _)); refine blk_put (cs := #[.int .i64 0, .int .i64 0, .int .i64 0]) ?_ 0 _ rfl; exact kb_ BK215.out⟩, ⟨bl_⟩⟩
  subst c9
  have H1 : ((spec_l1In.f ((rd_T68 l0 x10_1).f1) 0 5).bind fun t217 => (spec_GoodEvents.j1 k1 l0 x10_1 l0 (l0.length : Int) x10_1 (!t217) ((rd_T68 l0 x10_1).f0) ((rd_T68 l0 x10_1).f1) ((rd_T68 l0 x10_1).f2))) = some r := by rw [if_pos rfl] at H; exact H
  clear H
  have H := H1
  clear H1
  replace H := Option.bind_eq_some_iff.mp H
  obtain ⟨t217, A100, H⟩ := H
  replace H : (spec_GoodEvents.j1 k1 l0 x10_1 l0 (l0.length : Int) x10_1 (!t217) ((rd_T68 l0 x10_1).f0) ((rd_T68 l0 x10_1).f1) ((rd_T68 l0 x10_1).f2)) = some r := H
  have A10 := Aside0.mk A100
  clear A100
  have H' := Aside0.mk H
  clear H
  have hcz11_0 : w6.cell? ⟨gb215, 0, none⟩ = some (.int .i64 0) := bc_ BK215.out 0
  have hcz11_1 : w6.cell? ⟨gb215, 1, none⟩ = some (.int .i64 0) := bc_ BK215.out 1
  have hcz11_2 : w6.cell? ⟨gb215, 2, none⟩ = some (.int .i64 0) := bc_ BK215.out 2
  have hfz11_0 := blk_frozen BK215.out 0
  have hfz11_1 := blk_frozen BK215.out 1
  have hfz11_2 := blk_frozen BK215.out 2
  go_wp2_with (first | ((with_reducible refine gate_callee (f := 27) rfl ?_); refine goesL_ (some 17) rfl rfl Try.func27 (by kernel_rfl) rfl #[.int .i64 ((rd_T68 l0 x10_1).f0), .int .i64 1, .int .i64 3] rfl nc_ ?_; (with_reducible refine (spec_l1In.calls ((rd_T68 l0 x10_1).f0) 1 3 true _ A8.out).mono ?_); rintro e w' ⟨rfl, ⟨nd, rfl⟩⟩; refine ⟨_, rfl, ?_⟩) | (go_at_call 27; (with_reducible refine (spec_l1In.calls ((rd_T68 l0 x10_1).f1) 0 5 t217 _ A10.out).mono ?_); rintro e w' ⟨rfl, ⟨nd, rfl⟩⟩))
  go_meet
  case rel => exact ⟨_, (!t217), (by first | rfl | (simp; done) | (simp [*]; done)), H', ⟨by have := HK1.out; first | omega | exact Nat.le_refl _⟩, ⟨by (with_reducible repeat (first | refine blk_drewN ?_ _ | refine blk_drew ?_ | refine blk_alloc ?_ _)); refine blk_put (cs := #[.int .i64 ((rd_T68 l0 x10_1).f0), .int .i64 ((rd_T68 l0 x10_1).f1), .int .i64 0]) ?_ 2 _ rfl; (with_reducible repeat (first | refine blk_drewN ?_ _ | refine blk_drew ?_ | refine blk_alloc ?_ _)); refine blk_put (cs := #[.int .i64 ((rd_T68 l0 x10_1).f0), .int .i64 0, .int .i64 0]) ?_ 1 _ rfl; (with_reducible repeat (first | refine blk_drewN ?_ _ | refine blk_drew ?_ | refine blk_alloc ?_ _)); refine blk_put (cs := #[.int .i64 0, .int .i64 0, .int .i64 0]) ?_ 0 _ rfl; exact kb_ BK215.out⟩, ⟨bl_⟩⟩
 clear HC5
 try clear c2
 try clear c2b0
 try clear p2
 try clear q2
 try clear hx2
 try clear c3
 try clear c3b0
 try clear c4
 try clear c4b0
 try clear c9
 try clear hcz11_0
 try clear hcz11_1
 try clear hcz11_2
 try clear hcz12_0
 try clear hcz12_1
 try clear hcz12_2
 try clear hcz7_0
 try clear hcz7_1
 try clear hcz7_2
 try clear hfz11_0
 try clear hfz11_1
 try clear hfz11_2
 try clear hfz12_0
 try clear hfz12_1
 try clear hfz12_2
 try clear hfz7_0
 try clear hfz7_1
 try clear hfz7_2
 try clear hx214_0
 try clear hx214_1
 try clear hx214_2
 try clear p214
 try clear q214
 obtain ⟨kq, x24_4, rfl, HA, HJ4, BK215, HB⟩ := hcut
 cases kq with
 | zero => exact absurd HA.out (by simp [spec_GoodEvents.j1])
 | succ kj4 => ?_
 have H := HA.out
 clear HA
 simp only [spec_GoodEvents.j1] at H
 by_cases c13 : x24_4 = true
 ·subst c13
  have H1 : (some false) = some r := by rw [if_pos rfl] at H; exact H
  clear H
  have H := H1
  clear H1
  obtain rfl := Option.some.inj H
  go_wp2
  go_ret
  exact ⟨ng_, bl_⟩
 replace c13 := Bool.eq_false_iff.mpr c13
 subst c13
 have H1 : (if ((rd_T68 l0 x10_1).f0) = 1 then (if ((rd_T68 l0 x10_1).f2) = 0 then (spec_GoodEvents.l0 kj4 l0 l0 (l0.length : Int) (wrap64 (x10_1 + 1))) else (some false)) else (if 0 ≤ x10_1 then (if x10_1 ≤ (l0.length : Int) then ((some (l0.take (x10_1 : Int).toNat : List (S68))).bind fun y218 => (spec_GoodEvents.l1 kj4 l0 false l0 (l0.length : Int) x10_1 y218 (y218.length : Int) 0 ((rd_T68 l0 x10_1).f0) ((rd_T68 l0 x10_1).f1) ((rd_T68 l0 x10_1).f2))) else (none)) else (none))) = some r := by rw [if_neg (show ¬ (false = true) by decide)] at H; exact H
 clear H
 have H := H1
 clear H1
 by_cases c14 : ((rd_T68 l0 x10_1).f0) = 1
 ·rw [if_pos c14] at H
  have c14b0 : (((rd_T68 l0 x10_1).f0) == 1) = true := beq_iff_eq.mpr c14
  have c14b1 : (((rd_T68 l0 x10_1).f0) != 1) = false := bne_eq_false_iff_eq.mpr c14
  clear c14
  by_cases c15 : ((rd_T68 l0 x10_1).f2) = 0
  rotate_left
  ·rw [if_neg c15] at H
   have c15b0 : (((rd_T68 l0 x10_1).f2) == 0) = false := beq_eq_false_iff_ne.mpr c15
   have c15b1 : (((rd_T68 l0 x10_1).f2) != 0) = true := bne_iff_ne.mpr c15
   obtain rfl := Option.some.inj H
   have hcz17_0 : wc.cell? ⟨gb215, 0, none⟩ = some (.int .i64 ((rd_T68 l0 x10_1).f0)) := bc_ BK215.out 0
   have hcz17_1 : wc.cell? ⟨gb215, 1, none⟩ = some (.int .i64 ((rd_T68 l0 x10_1).f1)) := bc_ BK215.out 1
   have hcz17_2 : wc.cell? ⟨gb215, 2, none⟩ = some (.int .i64 ((rd_T68 l0 x10_1).f2)) := bc_ BK215.out 2
   have hfz17_0 := blk_frozen BK215.out 0
   have hfz17_1 := blk_frozen BK215.out 1
   have hfz17_2 := blk_frozen BK215.out 2
   go_wp2
   go_ret
   exact ⟨ng_, bl_⟩
  rw [if_pos c15] at H
  have c15b0 : (((rd_T68 l0 x10_1).f2) == 0) = true := beq_iff_eq.mpr c15
  have c15b1 : (((rd_T68 l0 x10_1).f2) != 0) = false := bne_eq_false_iff_eq.mpr c15
  clear c15
  have H' := Aside0.mk H
  clear H
  have hcz16_0 : wc.cell? ⟨gb215, 0, none⟩ = some (.int .i64 ((rd_T68 l0 x10_1).f0)) := bc_ BK215.out 0
  have hcz16_1 : wc.cell? ⟨gb215, 1, none⟩ = some (.int .i64 ((rd_T68 l0 x10_1).f1)) := bc_ BK215.out 1
  have hcz16_2 : wc.cell? ⟨gb215, 2, none⟩ = some (.int .i64 ((rd_T68 l0 x10_1).f2)) := bc_ BK215.out 2
  have hfz16_0 := blk_frozen BK215.out 0
  have hfz16_1 := blk_frozen BK215.out 1
  have hfz16_2 := blk_frozen BK215.out 2
  go_wp2
  go_roundg kj4
  case measure => have := HK1.out; have := HJ4.out; omega
  case rel => exact ⟨(wrap64 (x10_1 + 1)), (by first | rfl | (simp; done) | (simp [*]; done)), H', ⟨by have := HK1.out; have := HJ4.out; omega⟩, ⟨bl_⟩⟩
 rw [if_neg c14] at H
 have c14b0 : (((rd_T68 l0 x10_1).f0) == 1) = false := beq_eq_false_iff_ne.mpr c14
 have c14b1 : (((rd_T68 l0 x10_1).f0) != 1) = true := bne_iff_ne.mpr c14
 by_cases c18 : 0 ≤ x10_1
 rotate_left
 ·rw [if_neg c18] at H
  exact absurd H (by simp)
 rw [if_pos c18] at H
 have c18b0 := eq_true c18
 have c18b1 : decide (0 ≤ x10_1) = true := decide_eq_true c18
 clear c18
 by_cases c19 : x10_1 ≤ (l0.length : Int)
 rotate_left
 ·rw [if_neg c19] at H
  exact absurd H (by simp)
 rw [if_pos c19] at H
 have c19b0 := eq_true c19
 have c19b1 : decide (x10_1 ≤ (l0.length : Int)) = true := decide_eq_true c19
 clear c19
 obtain ⟨y218, hy218⟩ : ∃ y_ : List (S68), y_ = (l0.take (x10_1 : Int).toNat) := ⟨_, rfl⟩
 replace H : (spec_GoodEvents.l1 kj4 l0 false l0 (l0.length : Int) x10_1 y218 (y218.length : Int) 0 ((rd_T68 l0 x10_1).f0) ((rd_T68 l0 x10_1).f1) ((rd_T68 l0 x10_1).f2)) = some r := by first | (rw [hy218]; with_reducible exact H) | (have H2_ := (Option.bind_some _ _).symm.trans H; rw [hy218]; with_reducible exact H2_) | (have H2_ := (Option.bind_some _ _).symm.trans H; with_reducible exact H2_) | with_reducible exact H | (rw [hy218]; exact H) | exact H
 have Ny218 := Aside0.mk hy218
 clear hy218
 have H' := Aside0.mk H
 clear H
 have hcz20_0 : wc.cell? ⟨gb215, 0, none⟩ = some (.int .i64 ((rd_T68 l0 x10_1).f0)) := bc_ BK215.out 0
 have hcz20_1 : wc.cell? ⟨gb215, 1, none⟩ = some (.int .i64 ((rd_T68 l0 x10_1).f1)) := bc_ BK215.out 1
 have hcz20_2 : wc.cell? ⟨gb215, 2, none⟩ = some (.int .i64 ((rd_T68 l0 x10_1).f2)) := bc_ BK215.out 2
 have hfz20_0 := blk_frozen BK215.out 0
 have hfz20_1 := blk_frozen BK215.out 1
 have hfz20_2 := blk_frozen BK215.out 2
 have q21 : (x10_1 : Int) ≤ ((l0.length : Int) : Int) := of_decide_eq_true (by first | (with_reducible assumption) | assumption)
 obtain ⟨i021, hi021, _, hsz21, _⟩ := info_parts info68
 have hroom21 : l0.length ≤ c0 := HC0.out
 have hC21 : Kd.C k68 _ (some ad214) l0.length l0 := HR0.out
 have hcut21 := cut_to (P := Try.prog) 42 68 .i64 Try.underlying42 hi021 (some ad214) l0.length c0 x10_1 (of_decide_eq_true (by first | (with_reducible assumption) | assumption)) q21 hroom21
 have hr21 := Kd.C_take (m := (x10_1 : Int).toNat) hC21 (by omega)
 have hy21 : y218.length = (x10_1 : Int).toNat := (by rw [Ny218.out, List.length_take]; omega)
 rw [← Ny218.out] at hr21
 rw [← hy21] at hcut21
 have HR221 := Aside0.mk hr21
 have HC221 := Aside0.mk (show y218.length ≤ c0 from by omega)
 clear hr21 hC21 hroom21 hi021 hsz21
 have KY21 := Aside0.mk hy21
 clear hy21
 replace q21 := eq_true q21
 go_wp2
 go_loopg [5, 35] kj4 (fun kq v5 v35 w' => ∃ (x5_3 : Bool) (x35_3 : Int), v5 = .bool x5_3 ∧ v35 = .int .i64 x35_3 ∧ Aside0 (spec_GoodEvents.l1 kq l0 x5_3 l0 (l0.length : Int) x10_1 y218 (y218.length : Int) x35_3 ((rd_T68 l0 x10_1).f0) ((rd_T68 l0 x10_1).f1) ((rd_T68 l0 x10_1).f2) = some r) ∧ Aside0 (kq ≤ kj4) ∧ Aside0 (w'.heap[gb215]? = some (.cells #[.int .i64 ((rd_T68 l0 x10_1).f0), .int .i64 ((rd_T68 l0 x10_1).f1), .int .i64 ((rd_T68 l0 x10_1).f2)] 68 (0, 0))) ∧ Aside0 (Below w.heap.size w w'))
 case atStart => exact ⟨(false), (0), (by first | rfl | (simp; done) | (simp [*]; done)), (by first | rfl | (simp; done) | (simp [*]; done)), H', ⟨Nat.le_refl _⟩, ⟨by exact kb_ BK215.out⟩, ⟨bl_⟩⟩
 clear H'
 try clear c1
 try clear c2
 try clear c2b0
 try clear p2
 try clear q2
 try clear hx2
 try clear c3
 try clear c3b0
 try clear c4
 try clear c4b0
 try clear p6
 try clear c9
 try clear c13
 try clear c14
 try clear c14b0
 try clear c14b1
 try clear c15
 try clear c15b0
 try clear c15b1
 try clear c18
 try clear c18b0
 try clear c18b1
 try clear c19
 try clear c19b0
 try clear c19b1
 try clear p21
 try clear q21
 try clear hx21
 try clear hcz11_0
 try clear hcz11_1
 try clear hcz11_2
 try clear hcz12_0
 try clear hcz12_1
 try clear hcz12_2
 try clear hcz16_0
 try clear hcz16_1
 try clear hcz16_2
 try clear hcz17_0
 try clear hcz17_1
 try clear hcz17_2
 try clear hcz20_0
 try clear hcz20_1
 try clear hcz20_2
 try clear hcz7_0
 try clear hcz7_1
 try clear hcz7_2
 try clear hfz11_0
 try clear hfz11_1
 try clear hfz11_2
 try clear hfz12_0
 try clear hfz12_1
 try clear hfz12_2
 try clear hfz16_0
 try clear hfz16_1
 try clear hfz16_2
 try clear hfz17_0
 try clear hfz17_1
 try clear hfz17_2
 try clear hfz20_0
 try clear hfz20_1
 try clear hfz20_2
 try clear hfz7_0
 try clear hfz7_1
 try clear hfz7_2
 try clear hx214_0
 try clear hx214_1
 try clear hx214_2
 try clear p2
 try clear p214
 try clear q2
 try clear q21
 try clear q214
 obtain ⟨x5_3, x35_3, rfl, rfl, HA, HK3, BK215, HB⟩ := hrel
 cases gk with
 | zero => exact absurd HA.out (by simp [spec_GoodEvents.l1])
 | succ k3 => ?_
 have H := HA.out
 clear HA
 simp only [spec_GoodEvents.l1] at H
 by_cases c22 : x35_3 < (y218.length : Int)
 rotate_left
 ·rw [if_neg c22] at H
  have c22b0 : decide (x35_3 < (y218.length : Int)) = false := decide_eq_false c22
  clear c22
  replace H := Option.bind_eq_some_iff.mp H
  obtain ⟨t224, A490, H⟩ := H
  replace H : (if t224 = true then (if ((rd_T68 l0 x10_1).f0) = 3 then (if x5_3 = true then (spec_GoodEvents.l0 k3 l0 l0 (l0.length : Int) (wrap64 (x10_1 + 1))) else (some false)) else (spec_GoodEvents.l0 k3 l0 l0 (l0.length : Int) (wrap64 (x10_1 + 1)))) else (some false)) = some r := H
  have A49 := Aside0.mk A490
  clear A490
  by_cases c50 : t224 = true
  rotate_left
  ·replace c50 := Bool.eq_false_iff.mpr c50
   subst c50
   have H1 : (some false) = some r := by rw [if_neg (show ¬ (false = true) by decide)] at H; exact H
   clear H
   have H := H1
   clear H1
   obtain rfl := Option.some.inj H
   have hcz56_0 : wr.cell? ⟨gb215, 0, none⟩ = some (.int .i64 ((rd_T68 l0 x10_1).f0)) := bc_ BK215.out 0
   have hcz56_1 : wr.cell? ⟨gb215, 1, none⟩ = some (.int .i64 ((rd_T68 l0 x10_1).f1)) := bc_ BK215.out 1
   have hcz56_2 : wr.cell? ⟨gb215, 2, none⟩ = some (.int .i64 ((rd_T68 l0 x10_1).f2)) := bc_ BK215.out 2
   have hfz56_0 := blk_frozen BK215.out 0
   have hfz56_1 := blk_frozen BK215.out 1
   have hfz56_2 := blk_frozen BK215.out 2
   go_wp2_with (first | ((with_reducible refine gate_callee (f := 27) rfl ?_); refine goesL_ (some 67) rfl rfl Try.func27 (by kernel_rfl) rfl #[.int .i64 ((rd_T68 l0 x10_1).f2), .int .i64 1, .int .i64 1000] rfl nc_ ?_; (with_reducible refine (spec_l1In.calls ((rd_T68 l0 x10_1).f2) 1 1000 false _ A49.out).mono ?_); rintro e w' ⟨rfl, ⟨nd, rfl⟩⟩; refine ⟨_, rfl, ?_⟩))
   go_ret
   exact ⟨ng_, bl_⟩
  subst c50
  have H1 : (if ((rd_T68 l0 x10_1).f0) = 3 then (if x5_3 = true then (spec_GoodEvents.l0 k3 l0 l0 (l0.length : Int) (wrap64 (x10_1 + 1))) else (some false)) else (spec_GoodEvents.l0 k3 l0 l0 (l0.length : Int) (wrap64 (x10_1 + 1)))) = some r := by rw [if_pos rfl] at H; exact H
  clear H
  have H := H1
  clear H1
  by_cases c51 : ((rd_T68 l0 x10_1).f0) = 3
  rotate_left
  ·rw [if_neg c51] at H
   have c51b0 : (((rd_T68 l0 x10_1).f0) == 3) = false := beq_eq_false_iff_ne.mpr c51
   have c51b1 : (((rd_T68 l0 x10_1).f0) != 3) = true := bne_iff_ne.mpr c51
   have H' := Aside0.mk H
   clear H
   have hcz55_0 : wr.cell? ⟨gb215, 0, none⟩ = some (.int .i64 ((rd_T68 l0 x10_1).f0)) := bc_ BK215.out 0
   have hcz55_1 : wr.cell? ⟨gb215, 1, none⟩ = some (.int .i64 ((rd_T68 l0 x10_1).f1)) := bc_ BK215.out 1
   have hcz55_2 : wr.cell? ⟨gb215, 2, none⟩ = some (.int .i64 ((rd_T68 l0 x10_1).f2)) := bc_ BK215.out 2
   have hfz55_0 := blk_frozen BK215.out 0
   have hfz55_1 := blk_frozen BK215.out 1
   have hfz55_2 := blk_frozen BK215.out 2
   go_wp2_with (first | ((with_reducible refine gate_callee (f := 27) rfl ?_); refine goesL_ (some 67) rfl rfl Try.func27 (by kernel_rfl) rfl #[.int .i64 ((rd_T68 l0 x10_1).f2), .int .i64 1, .int .i64 1000] rfl nc_ ?_; (with_reducible refine (spec_l1In.calls ((rd_T68 l0 x10_1).f2) 1 1000 true _ A49.out).mono ?_); rintro e w' ⟨rfl, ⟨nd, rfl⟩⟩; refine ⟨_, rfl, ?_⟩))
   go_roundg k3
   case measure => have := HK1.out; have := HJ4.out; have := HK3.out; omega
   case rel => exact ⟨(wrap64 (x10_1 + 1)), (by first | rfl | (simp; done) | (simp [*]; done)), H', ⟨by have := HK1.out; have := HJ4.out; have := HK3.out; omega⟩, ⟨bl_⟩⟩
  rw [if_pos c51] at H
  have c51b0 : (((rd_T68 l0 x10_1).f0) == 3) = true := beq_iff_eq.mpr c51
  have c51b1 : (((rd_T68 l0 x10_1).f0) != 3) = false := bne_eq_false_iff_eq.mpr c51
  clear c51
  by_cases c52 : x5_3 = true
  rotate_left
  ·replace c52 := Bool.eq_false_iff.mpr c52
   subst c52
   have H1 : (some false) = some r := by rw [if_neg (show ¬ (false = true) by decide)] at H; exact H
   clear H
   have H := H1
   clear H1
   obtain rfl := Option.some.inj H
   have hcz54_0 : wr.cell? ⟨gb215, 0, none⟩ = some (.int .i64 ((rd_T68 l0 x10_1).f0)) := bc_ BK215.out 0
   have hcz54_1 : wr.cell? ⟨gb215, 1, none⟩ = some (.int .i64 ((rd_T68 l0 x10_1).f1)) := bc_ BK215.out 1
   have hcz54_2 : wr.cell? ⟨gb215, 2, none⟩ = some (.int .i64 ((rd_T68 l0 x10_1).f2)) := bc_ BK215.out 2
   have hfz54_0 := blk_frozen BK215.out 0
   have hfz54_1 := blk_frozen BK215.out 1
   have hfz54_2 := blk_frozen BK215.out 2
   go_wp2_with (first | ((with_reducible refine gate_callee (f := 27) rfl ?_); refine goesL_ (some 67) rfl rfl Try.func27 (by kernel_rfl) rfl #[.int .i64 ((rd_T68 l0 x10_1).f2), .int .i64 1, .int .i64 1000] rfl nc_ ?_; (with_reducible refine (spec_l1In.calls ((rd_T68 l0 x10_1).f2) 1 1000 true _ A49.out).mono ?_); rintro e w' ⟨rfl, ⟨nd, rfl⟩⟩; refine ⟨_, rfl, ?_⟩))
   go_ret
   exact ⟨ng_, bl_⟩
  subst c52
  have H1 : (spec_GoodEvents.l0 k3 l0 l0 (l0.length : Int) (wrap64 (x10_1 + 1))) = some r := by rw [if_pos rfl] at H; exact H
  clear H
  have H := H1
  clear H1
  have H' := Aside0.mk H
  clear H
  have hcz53_0 : wr.cell? ⟨gb215, 0, none⟩ = some (.int .i64 ((rd_T68 l0 x10_1).f0)) := bc_ BK215.out 0
  have hcz53_1 : wr.cell? ⟨gb215, 1, none⟩ = some (.int .i64 ((rd_T68 l0 x10_1).f1)) := bc_ BK215.out 1
  have hcz53_2 : wr.cell? ⟨gb215, 2, none⟩ = some (.int .i64 ((rd_T68 l0 x10_1).f2)) := bc_ BK215.out 2
  have hfz53_0 := blk_frozen BK215.out 0
  have hfz53_1 := blk_frozen BK215.out 1
  have hfz53_2 := blk_frozen BK215.out 2
  go_wp2_with (first | ((with_reducible refine gate_callee (f := 27) rfl ?_); refine goesL_ (some 67) rfl rfl Try.func27 (by kernel_rfl) rfl #[.int .i64 ((rd_T68 l0 x10_1).f2), .int .i64 1, .int .i64 1000] rfl nc_ ?_; (with_reducible refine (spec_l1In.calls ((rd_T68 l0 x10_1).f2) 1 1000 true _ A49.out).mono ?_); rintro e w' ⟨rfl, ⟨nd, rfl⟩⟩; refine ⟨_, rfl, ?_⟩))
  go_roundg k3
  case measure => have := HK1.out; have := HJ4.out; have := HK3.out; omega
  case rel => exact ⟨(wrap64 (x10_1 + 1)), (by first | rfl | (simp; done) | (simp [*]; done)), H', ⟨by have := HK1.out; have := HJ4.out; have := HK3.out; omega⟩, ⟨bl_⟩⟩
 rw [if_pos c22] at H
 have c22b0 : decide (x35_3 < (y218.length : Int)) = true := decide_eq_true c22
 clear c22
 by_cases c23 : 0 ≤ x35_3
 rotate_left
 ·rw [if_neg c23] at H
  exact absurd H (by simp)
 rw [if_pos c23] at H
 have c23b0 : decide (0 ≤ x35_3) = true := decide_eq_true c23
 clear c23
 by_cases c24 : x35_3 < (y218.length : Int)
 rotate_left
 ·rw [if_neg c24] at H
  exact absurd H (by simp)
 rw [if_pos c24] at H
 have c24b0 : decide (x35_3 < (y218.length : Int)) = true := decide_eq_true c24
 clear c24
 by_cases c25 : ((rd_T68 y218 x35_3).f2) = ((rd_T68 l0 x10_1).f2)
 rotate_left
 ·rw [if_neg c25] at H
  have c25b0 : (((rd_T68 y218 x35_3).f2) == ((rd_T68 l0 x10_1).f2)) = false := beq_eq_false_iff_ne.mpr c25
  have c25b1 : (((rd_T68 y218 x35_3).f2) != ((rd_T68 l0 x10_1).f2)) = true := bne_iff_ne.mpr c25
  by_cases c40 : x5_3 = true
  ·subst c40
   have H1 : (spec_GoodEvents.l1 k3 l0 true l0 (l0.length : Int) x10_1 y218 (y218.length : Int) (wrap64 (x35_3 + 1)) ((rd_T68 l0 x10_1).f0) ((rd_T68 l0 x10_1).f1) ((rd_T68 l0 x10_1).f2)) = some r := by rw [if_pos rfl] at H; exact H
   clear H
   have H := H1
   clear H1
   have H' := Aside0.mk H
   clear H
   have p222 : 0 ≤ (x35_3 : Int) := of_decide_eq_true (by first | (with_reducible assumption) | assumption)
   have q222 : x35_3 < (y218.length : Int) := of_decide_eq_true (by first | (with_reducible assumption) | assumption)
   obtain ⟨ad222, e222, hx222_0, hx222_1, hx222_2⟩ := at_T68 HR221.out x35_3 p222 q222
   obtain rfl : ad214 = ad222 := (by injection e222)
   replace hx222_0 := (HB.out.cell (World.block_lt_of_cell? w _ hx222_0)).trans hx222_0
   replace hx222_1 := (HB.out.cell (World.block_lt_of_cell? w _ hx222_1)).trans hx222_1
   replace hx222_2 := (HB.out.cell (World.block_lt_of_cell? w _ hx222_2)).trans hx222_2
   replace p222 := eq_true p222
   replace q222 := eq_true q222
   go_wp2_with (first | ((with_reducible refine gate_dst (N := 7) rfl ?_); refine box_event rfl (N := 7) rfl (cs := #[.int .i64 0, .int .i64 0, .int .i64 0]) (t := 68) gs_ ?_; intro gb223 hg w41 hbox hb; have BK223 := Aside0.mk (hbox); have GW223 := Aside0.mk ((by rw [hg]; exact bz_ : w.heap.size ≤ gb223)); have GE223 := GW223; replace HB := Aside0.mk (below_step bl_ hb); have NB215_223 := nl_ hg BK215; have NB223_215 := nm_ hg BK215; replace BK215 := bb_ BK215 hb; clear hb hbox hg; have hnb42 := NB223_215.out; have hnc42 := NB215_223.out; have hcz43_0 : w41.cell? ⟨gb223, 0, none⟩ = some (.int .i64 0) := bc_ BK223.out 0; have hcz43_1 : w41.cell? ⟨gb223, 1, none⟩ = some (.int .i64 0) := bc_ BK223.out 1; have hcz43_2 : w41.cell? ⟨gb223, 2, none⟩ = some (.int .i64 0) := bc_ BK223.out 2; have hfz43_0 := blk_frozen BK223.out 0; have hfz43_1 := blk_frozen BK223.out 1; have hfz43_2 := blk_frozen BK223.out 2; have hcz44_0 : w41.cell? ⟨gb215, 0, none⟩ = some (.int .i64 ((rd_T68 l0 x10_1).f0)) := bc_ BK215.out 0; have hcz44_1 : w41.cell? ⟨gb215, 1, none⟩ = some (.int .i64 ((rd_T68 l0 x10_1).f1)) := bc_ BK215.out 1; have hcz44_2 : w41.cell? ⟨gb215, 2, none⟩ = some (.int .i64 ((rd_T68 l0 x10_1).f2)) := bc_ BK215.out 2; have hfz44_0 := blk_frozen BK215.out 0; have hfz44_1 := blk_frozen BK215.out 1; have hfz44_2 := blk_frozen BK215.out 2))
   go_roundg k3
   case measure => have := HK1.out; have := HJ4.out; have := HK3.out; omega
   case rel => exact ⟨(true), (wrap64 (x35_3 + 1)), (by first | rfl | (simp; done) | (simp [*]; done)), (by first | rfl | (simp; done) | (simp [*]; done)), H', ⟨by have := HK1.out; have := HJ4.out; have := HK3.out; omega⟩, ⟨kz_⟩, ⟨bl_⟩⟩
  replace c40 := Bool.eq_false_iff.mpr c40
  subst c40
  have H1 : (spec_GoodEvents.l1 k3 l0 false l0 (l0.length : Int) x10_1 y218 (y218.length : Int) (wrap64 (x35_3 + 1)) ((rd_T68 l0 x10_1).f0) ((rd_T68 l0 x10_1).f1) ((rd_T68 l0 x10_1).f2)) = some r := by rw [if_neg (show ¬ (false = true) by decide)] at H; exact H
  clear H
  have H := H1
  clear H1
  have H' := Aside0.mk H
  clear H
  have p222 : 0 ≤ (x35_3 : Int) := of_decide_eq_true (by first | (with_reducible assumption) | assumption)
  have q222 : x35_3 < (y218.length : Int) := of_decide_eq_true (by first | (with_reducible assumption) | assumption)
  obtain ⟨ad222, e222, hx222_0, hx222_1, hx222_2⟩ := at_T68 HR221.out x35_3 p222 q222
  obtain rfl : ad214 = ad222 := (by injection e222)
  replace hx222_0 := (HB.out.cell (World.block_lt_of_cell? w _ hx222_0)).trans hx222_0
  replace hx222_1 := (HB.out.cell (World.block_lt_of_cell? w _ hx222_1)).trans hx222_1
  replace hx222_2 := (HB.out.cell (World.block_lt_of_cell? w _ hx222_2)).trans hx222_2
  replace p222 := eq_true p222
  replace q222 := eq_true q222
  go_wp2_with (first | ((with_reducible refine gate_dst (N := 7) rfl ?_); refine box_event rfl (N := 7) rfl (cs := #[.int .i64 0, .int .i64 0, .int .i64 0]) (t := 68) gs_ ?_; intro gb223 hg w45 hbox hb; have BK223 := Aside0.mk (hbox); have GW223 := Aside0.mk ((by rw [hg]; exact bz_ : w.heap.size ≤ gb223)); have GE223 := GW223; replace HB := Aside0.mk (below_step bl_ hb); have NB215_223 := nl_ hg BK215; have NB223_215 := nm_ hg BK215; replace BK215 := bb_ BK215 hb; clear hb hbox hg; have hnb46 := NB223_215.out; have hnc46 := NB215_223.out; have hcz47_0 : w45.cell? ⟨gb223, 0, none⟩ = some (.int .i64 0) := bc_ BK223.out 0; have hcz47_1 : w45.cell? ⟨gb223, 1, none⟩ = some (.int .i64 0) := bc_ BK223.out 1; have hcz47_2 : w45.cell? ⟨gb223, 2, none⟩ = some (.int .i64 0) := bc_ BK223.out 2; have hfz47_0 := blk_frozen BK223.out 0; have hfz47_1 := blk_frozen BK223.out 1; have hfz47_2 := blk_frozen BK223.out 2; have hcz48_0 : w45.cell? ⟨gb215, 0, none⟩ = some (.int .i64 ((rd_T68 l0 x10_1).f0)) := bc_ BK215.out 0; have hcz48_1 : w45.cell? ⟨gb215, 1, none⟩ = some (.int .i64 ((rd_T68 l0 x10_1).f1)) := bc_ BK215.out 1; have hcz48_2 : w45.cell? ⟨gb215, 2, none⟩ = some (.int .i64 ((rd_T68 l0 x10_1).f2)) := bc_ BK215.out 2; have hfz48_0 := blk_frozen BK215.out 0; have hfz48_1 := blk_frozen BK215.out 1; have hfz48_2 := blk_frozen BK215.out 2))
  go_roundg k3
  case measure => have := HK1.out; have := HJ4.out; have := HK3.out; omega
  case rel => exact ⟨(false), (wrap64 (x35_3 + 1)), (by first | rfl | (simp; done) | (simp [*]; done)), (by first | rfl | (simp; done) | (simp [*]; done)), H', ⟨by have := HK1.out; have := HJ4.out; have := HK3.out; omega⟩, ⟨kz_⟩, ⟨bl_⟩⟩
 rw [if_pos c25] at H
 have c25b0 : (((rd_T68 y218 x35_3).f2) == ((rd_T68 l0 x10_1).f2)) = true := beq_iff_eq.mpr c25
 have c25b1 : (((rd_T68 y218 x35_3).f2) != ((rd_T68 l0 x10_1).f2)) = false := bne_eq_false_iff_eq.mpr c25
 clear c25
 by_cases c26 : ((rd_T68 y218 x35_3).f0) = ((rd_T68 l0 x10_1).f0)
 ·rw [if_pos c26] at H
  have c26b0 : (((rd_T68 y218 x35_3).f0) == ((rd_T68 l0 x10_1).f0)) = true := beq_iff_eq.mpr c26
  have c26b1 : (((rd_T68 y218 x35_3).f0) != ((rd_T68 l0 x10_1).f0)) = false := bne_eq_false_iff_eq.mpr c26
  clear c26
  obtain rfl := Option.some.inj H
  have p222 : 0 ≤ (x35_3 : Int) := of_decide_eq_true (by first | (with_reducible assumption) | assumption)
  have q222 : x35_3 < (y218.length : Int) := of_decide_eq_true (by first | (with_reducible assumption) | assumption)
  obtain ⟨ad222, e222, hx222_0, hx222_1, hx222_2⟩ := at_T68 HR221.out x35_3 p222 q222
  obtain rfl : ad214 = ad222 := (by injection e222)
  replace hx222_0 := (HB.out.cell (World.block_lt_of_cell? w _ hx222_0)).trans hx222_0
  replace hx222_1 := (HB.out.cell (World.block_lt_of_cell? w _ hx222_1)).trans hx222_1
  replace hx222_2 := (HB.out.cell (World.block_lt_of_cell? w _ hx222_2)).trans hx222_2
  replace p222 := eq_true p222
  replace q222 := eq_true q222
  go_wp2_with (first | ((with_reducible refine gate_dst (N := 7) rfl ?_); refine box_event rfl (N := 7) rfl (cs := #[.int .i64 0, .int .i64 0, .int .i64 0]) (t := 68) gs_ ?_; intro gb223 hg w27 hbox hb; have BK223 := Aside0.mk (hbox); have GW223 := Aside0.mk ((by rw [hg]; exact bz_ : w.heap.size ≤ gb223)); have GE223 := GW223; replace HB := Aside0.mk (below_step bl_ hb); have NB215_223 := nl_ hg BK215; have NB223_215 := nm_ hg BK215; replace BK215 := bb_ BK215 hb; clear hb hbox hg; have hnb28 := NB223_215.out; have hnc28 := NB215_223.out; have hcz29_0 : w27.cell? ⟨gb223, 0, none⟩ = some (.int .i64 0) := bc_ BK223.out 0; have hcz29_1 : w27.cell? ⟨gb223, 1, none⟩ = some (.int .i64 0) := bc_ BK223.out 1; have hcz29_2 : w27.cell? ⟨gb223, 2, none⟩ = some (.int .i64 0) := bc_ BK223.out 2; have hfz29_0 := blk_frozen BK223.out 0; have hfz29_1 := blk_frozen BK223.out 1; have hfz29_2 := blk_frozen BK223.out 2; have hcz30_0 : w27.cell? ⟨gb215, 0, none⟩ = some (.int .i64 ((rd_T68 l0 x10_1).f0)) := bc_ BK215.out 0; have hcz30_1 : w27.cell? ⟨gb215, 1, none⟩ = some (.int .i64 ((rd_T68 l0 x10_1).f1)) := bc_ BK215.out 1; have hcz30_2 : w27.cell? ⟨gb215, 2, none⟩ = some (.int .i64 ((rd_T68 l0 x10_1).f2)) := bc_ BK215.out 2; have hfz30_0 := blk_frozen BK215.out 0; have hfz30_1 := blk_frozen BK215.out 1; have hfz30_2 := blk_frozen BK215.out 2))
  go_ret
  exact ⟨ng_, bl_⟩
 rw [if_neg c26] at H
 have c26b0 : (((rd_T68 y218 x35_3).f0) == ((rd_T68 l0 x10_1).f0)) = false := beq_eq_false_iff_ne.mpr c26
 have c26b1 : (((rd_T68 y218 x35_3).f0) != ((rd_T68 l0 x10_1).f0)) = true := bne_iff_ne.mpr c26
 by_cases c31 : x5_3 = true
 ·subst c31
  have H1 : (spec_GoodEvents.l1 k3 l0 true l0 (l0.length : Int) x10_1 y218 (y218.length : Int) (wrap64 (x35_3 + 1)) ((rd_T68 l0 x10_1).f0) ((rd_T68 l0 x10_1).f1) ((rd_T68 l0 x10_1).f2)) = some r := by rw [if_pos rfl] at H; exact H
  clear H
  have H := H1
  clear H1
  have H' := Aside0.mk H
  clear H
  have p222 : 0 ≤ (x35_3 : Int) := of_decide_eq_true (by first | (with_reducible assumption) | assumption)
  have q222 : x35_3 < (y218.length : Int) := of_decide_eq_true (by first | (with_reducible assumption) | assumption)
  obtain ⟨ad222, e222, hx222_0, hx222_1, hx222_2⟩ := at_T68 HR221.out x35_3 p222 q222
  obtain rfl : ad214 = ad222 := (by injection e222)
  replace hx222_0 := (HB.out.cell (World.block_lt_of_cell? w _ hx222_0)).trans hx222_0
  replace hx222_1 := (HB.out.cell (World.block_lt_of_cell? w _ hx222_1)).trans hx222_1
  replace hx222_2 := (HB.out.cell (World.block_lt_of_cell? w _ hx222_2)).trans hx222_2
  replace p222 := eq_true p222
  replace q222 := eq_true q222
  go_wp2_with (first | ((with_reducible refine gate_dst (N := 7) rfl ?_); refine box_event rfl (N := 7) rfl (cs := #[.int .i64 0, .int .i64 0, .int .i64 0]) (t := 68) gs_ ?_; intro gb223 hg w32 hbox hb; have BK223 := Aside0.mk (hbox); have GW223 := Aside0.mk ((by rw [hg]; exact bz_ : w.heap.size ≤ gb223)); have GE223 := GW223; replace HB := Aside0.mk (below_step bl_ hb); have NB215_223 := nl_ hg BK215; have NB223_215 := nm_ hg BK215; replace BK215 := bb_ BK215 hb; clear hb hbox hg; have hnb33 := NB223_215.out; have hnc33 := NB215_223.out; have hcz34_0 : w32.cell? ⟨gb223, 0, none⟩ = some (.int .i64 0) := bc_ BK223.out 0; have hcz34_1 : w32.cell? ⟨gb223, 1, none⟩ = some (.int .i64 0) := bc_ BK223.out 1; have hcz34_2 : w32.cell? ⟨gb223, 2, none⟩ = some (.int .i64 0) := bc_ BK223.out 2; have hfz34_0 := blk_frozen BK223.out 0; have hfz34_1 := blk_frozen BK223.out 1; have hfz34_2 := blk_frozen BK223.out 2; have hcz35_0 : w32.cell? ⟨gb215, 0, none⟩ = some (.int .i64 ((rd_T68 l0 x10_1).f0)) := bc_ BK215.out 0; have hcz35_1 : w32.cell? ⟨gb215, 1, none⟩ = some (.int .i64 ((rd_T68 l0 x10_1).f1)) := bc_ BK215.out 1; have hcz35_2 : w32.cell? ⟨gb215, 2, none⟩ = some (.int .i64 ((rd_T68 l0 x10_1).f2)) := bc_ BK215.out 2; have hfz35_0 := blk_frozen BK215.out 0; have hfz35_1 := blk_frozen BK215.out 1; have hfz35_2 := blk_frozen BK215.out 2))
  go_roundg k3
  case measure => have := HK1.out; have := HJ4.out; have := HK3.out; omega
  case rel => exact ⟨(true), (wrap64 (x35_3 + 1)), (by first | rfl | (simp; done) | (simp [*]; done)), (by first | rfl | (simp; done) | (simp [*]; done)), H', ⟨by have := HK1.out; have := HJ4.out; have := HK3.out; omega⟩, ⟨kz_⟩, ⟨bl_⟩⟩
 replace c31 := Bool.eq_false_iff.mpr c31
 subst c31
 have H1 : (spec_GoodEvents.l1 k3 l0 (((rd_T68 y218 x35_3).f0) == 2) l0 (l0.length : Int) x10_1 y218 (y218.length : Int) (wrap64 (x35_3 + 1)) ((rd_T68 l0 x10_1).f0) ((rd_T68 l0 x10_1).f1) ((rd_T68 l0 x10_1).f2)) = some r := by rw [if_neg (show ¬ (false = true) by decide)] at H; exact H
 clear H
 have H := H1
 clear H1
 have H' := Aside0.mk H
 clear H
 have p222 : 0 ≤ (x35_3 : Int) := of_decide_eq_true (by first | (with_reducible assumption) | assumption)
 have q222 : x35_3 < (y218.length : Int) := of_decide_eq_true (by first | (with_reducible assumption) | assumption)
 obtain ⟨ad222, e222, hx222_0, hx222_1, hx222_2⟩ := at_T68 HR221.out x35_3 p222 q222
 obtain rfl : ad214 = ad222 := (by injection e222)
 replace hx222_0 := (HB.out.cell (World.block_lt_of_cell? w _ hx222_0)).trans hx222_0
 replace hx222_1 := (HB.out.cell (World.block_lt_of_cell? w _ hx222_1)).trans hx222_1
 replace hx222_2 := (HB.out.cell (World.block_lt_of_cell? w _ hx222_2)).trans hx222_2
 replace p222 := eq_true p222
 replace q222 := eq_true q222
 go_wp2_with (first | ((with_reducible refine gate_dst (N := 7) rfl ?_); refine box_event rfl (N := 7) rfl (cs := #[.int .i64 0, .int .i64 0, .int .i64 0]) (t := 68) gs_ ?_; intro gb223 hg w36 hbox hb; have BK223 := Aside0.mk (hbox); have GW223 := Aside0.mk ((by rw [hg]; exact bz_ : w.heap.size ≤ gb223)); have GE223 := GW223; replace HB := Aside0.mk (below_step bl_ hb); have NB215_223 := nl_ hg BK215; have NB223_215 := nm_ hg BK215; replace BK215 := bb_ BK215 hb; clear hb hbox hg; have hnb37 := NB223_215.out; have hnc37 := NB215_223.out; have hcz38_0 : w36.cell? ⟨gb223, 0, none⟩ = some (.int .i64 0) := bc_ BK223.out 0; have hcz38_1 : w36.cell? ⟨gb223, 1, none⟩ = some (.int .i64 0) := bc_ BK223.out 1; have hcz38_2 : w36.cell? ⟨gb223, 2, none⟩ = some (.int .i64 0) := bc_ BK223.out 2; have hfz38_0 := blk_frozen BK223.out 0; have hfz38_1 := blk_frozen BK223.out 1; have hfz38_2 := blk_frozen BK223.out 2; have hcz39_0 : w36.cell? ⟨gb215, 0, none⟩ = some (.int .i64 ((rd_T68 l0 x10_1).f0)) := bc_ BK215.out 0; have hcz39_1 : w36.cell? ⟨gb215, 1, none⟩ = some (.int .i64 ((rd_T68 l0 x10_1).f1)) := bc_ BK215.out 1; have hcz39_2 : w36.cell? ⟨gb215, 2, none⟩ = some (.int .i64 ((rd_T68 l0 x10_1).f2)) := bc_ BK215.out 2; have hfz39_0 := blk_frozen BK215.out 0; have hfz39_1 := blk_frozen BK215.out 1; have hfz39_2 := blk_frozen BK215.out 2))
 go_roundg k3
 case measure => have := HK1.out; have := HJ4.out; have := HK3.out; omega
 case rel => exact ⟨((((rd_T68 y218 x35_3).f0) == 2)), (wrap64 (x35_3 + 1)), (by first | rfl | (simp; done) | (simp [*]; done)), (by first | rfl | (simp; done) | (simp [*]; done)), H', ⟨by have := HK1.out; have := HJ4.out; have := HK3.out; omega⟩, ⟨kz_⟩, ⟨bl_⟩⟩

end Go.Proofs.Ytgdcooiaeeajmaa.PLA
