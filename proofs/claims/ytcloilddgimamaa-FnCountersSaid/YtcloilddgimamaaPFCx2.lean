/- What this text proves: the machine calls of these functions return what the plain functions say. Conditions: as each theorem says. Printed by a program of this session out of the translation. -/
import Derived.Test.YtcloilddgimamaaPFCx0
import Derived.Test.YtcloilddgimamaaPFCx1
namespace Go.Proofs.Ytcloilddgimamaa.PFC
open Go.RowKit Go.Proofs.YtcloilddgimamaaW.PrintWords Go.Proofs.YtcloilddgimamaaW.PrintLast Go.Proofs.YtcloilddgimamaaW.PrintMore
attribute [local go_sem] max2_int min2_int max_two min_two max_three min_three max_four min_four   -- for this text's walks alone
set_option linter.unusedVariables false
set_option linter.unusedSimpArgs false

/-! ### spec_MergeCounter: function 23 -/
def spec_MergeCounter.j0 : Nat → Bool → List Int → List Int → List Int → List Int → Option (List Int × List Int × Bool)
 | 0, _, _, _, _, _ => none
 | k + 1, x13, x124000, x124001, x125000, x125001 => if x13 = true then (some (([] : List Int), ([] : List Int), false)) else ((spec_l2Merge.f k x124000 x125000).bind fun t128 => ((spec_l2Merge.f k x124001 x125001).bind fun t131 => (some (t128, t131, true))))
def spec_MergeCounter.f (k : Nat) (l0_0 : List Int) (l0_1 : List Int) (l1_0 : List Int) (l1_1 : List Int) : Option (List Int × List Int × Bool) := (spec_GoodCounter.f k l0_0 l0_1).bind fun t126 => (if t126 = true then ((spec_GoodCounter.f k l1_0 l1_1).bind fun t127 => (spec_MergeCounter.j0 k (!t127) l0_0 l0_1 l1_0 l1_1)) else (spec_MergeCounter.j0 k true l0_0 l0_1 l1_0 l1_1))
theorem spec_MergeCounter.mono_l : ∀ k, (∀ y0 y1 y2 y3 y4, LeO (spec_MergeCounter.j0 k y0 y1 y2 y3 y4) (spec_MergeCounter.j0 (k + 1) y0 y1 y2 y3 y4))
 | 0 => fun _ _ _ _ _ r h => by simp [spec_MergeCounter.j0] at h
 | k + 1 => by
  have ih0 := spec_MergeCounter.mono_l k
  ·intro y0 y1 y2 y3 y4
   unfold spec_MergeCounter.j0
   repeat' first
   | (with_reducible exact ih0 _ _ _ _ _)
   | (with_reducible exact spec_GoodCounter.mono _ _ _)
   | (with_reducible exact spec_l2Merge.mono _ _ _)
   | (with_reducible exact LeO.refl _)
   | (with_reducible exact LeO.none _)
   | (with_reducible refine LeO.ite ?_ ?_)
   | (with_reducible refine LeO.bind ?_ (fun _ => ?_))
   | exact ih0 _ _ _ _ _
   | exact spec_GoodCounter.mono _ _ _
   | exact spec_l2Merge.mono _ _ _
   | exact LeO.none _
   | refine LeO.ite ?_ ?_
   | refine LeO.bind ?_ (fun _ => ?_)
theorem spec_MergeCounter.mono : ∀ a0 a1 a2 a3 k, LeO (spec_MergeCounter.f k a0 a1 a2 a3) (spec_MergeCounter.f (k + 1) a0 a1 a2 a3) := by
 intro a0 a1 a2 a3 k
 have ih0 := spec_MergeCounter.mono_l k
 unfold spec_MergeCounter.f
 repeat' first
   | (with_reducible exact ih0 _ _ _ _ _)
   | (with_reducible exact spec_GoodCounter.mono _ _ _)
   | (with_reducible exact spec_l2Merge.mono _ _ _)
   | (with_reducible exact LeO.refl _)
   | (with_reducible exact LeO.none _)
   | (with_reducible refine LeO.ite ?_ ?_)
   | (with_reducible refine LeO.bind ?_ (fun _ => ?_))
   | exact ih0 _ _ _ _ _
   | exact spec_GoodCounter.mono _ _ _
   | exact spec_l2Merge.mono _ _ _
   | exact LeO.none _
   | refine LeO.ite ?_ ?_
   | refine LeO.bind ?_ (fun _ => ?_)
def spec_MergeCounter.T3 : Bool × List (List Nat × List Nat) := (true, [([], []), ([0], [0]), ([], []), ([2], [2]), ([1, 3], [1, 3]), ([], []), ([5], [5]), ([], []), ([7], [7]), ([6, 8, 4], [6, 8]), ([4, 9], [4, 9]), ([10, 9, 0, 1, 2, 3, 4, 5, 6, 7, 8, 9, 10], [10]), ([11, 0, 1, 2, 3, 4, 5, 6, 7, 8, 9, 10, 11], [])])
def spec_MergeCounter.B3 : List Nat := [0, 1, 0, 4, 15, 0, 32, 0, 128, 511, 1023, 2047, 4095]
theorem spec_MergeCounter.tab3 : rtab .any (opsOf Try.f23 3) = spec_MergeCounter.T3 := by kernel_rfl
theorem spec_MergeCounter.bits3 : waitsOk spec_MergeCounter.T3.2 spec_MergeCounter.B3 = true := by kernel_rfl
set_option maxHeartbeats 8000000 in
set_option maxRecDepth 100000 in
theorem spec_MergeCounter.calls (k : Nat) (A0_0 : Option Addr) (c0_0 : Nat) (l0_0 : List Int) (A0_1 : Option Addr) (c0_1 : Nat) (l0_1 : List Int) (A1_0 : Option Addr) (c1_0 : Nat) (l1_0 : List Int) (A1_1 : Option Addr) (c1_1 : Nat) (l1_1 : List Int) (r1 : List Int) (r2 : List Int) (r3 : Bool) (w : World) (hr0_0 : Kd.C (Kd.int .i64) w A0_0 l0_0.length l0_0) (hc0_0 : l0_0.length ≤ c0_0) (hr0_1 : Kd.C (Kd.int .i64) w A0_1 l0_1.length l0_1) (hc0_1 : l0_1.length ≤ c0_1) (hr1_0 : Kd.C (Kd.int .i64) w A1_0 l1_0.length l1_0) (hc1_0 : l1_0.length ≤ c1_0) (hr1_1 : Kd.C (Kd.int .i64) w A1_1 l1_1.length l1_1) (hc1_1 : l1_1.length ≤ c1_1) (h : spec_MergeCounter.f k l0_0 l0_1 l1_0 l1_1 = some (r1, r2, r3)) :
  Calls Try.prog 23 #[.agg #[.slice A0_0 l0_0.length c0_0, .slice A0_1 l0_1.length c0_1], .agg #[.slice A1_0 l1_0.length c1_0, .slice A1_1 l1_1.length c1_1]] w fun e w' => ∃ v0_ v1_ : Value, e = .returned (.tuple #[.agg #[v0_, v1_], .bool r3]) ∧ Kd.R (Kd.int .i64) 3 w' w.heap.size (fun k_ => some k_ ≠ (v1_ : Value).ownBlock) v0_ r1 ∧ Kd.R (Kd.int .i64) 3 w' w.heap.size (fun k_ => some k_ ≠ (v0_ : Value).ownBlock) v1_ r2 ∧ Below w.heap.size w w' := by
 have hu27 := Try.underlying27
 have HR0_0 := Aside0.mk hr0_0
 have HC0_0 := Aside0.mk hc0_0
 clear hr0_0 hc0_0
 have HR0_1 := Aside0.mk hr0_1
 have HC0_1 := Aside0.mk hc0_1
 clear hr0_1 hc0_1
 have HR1_0 := Aside0.mk hr1_0
 have HC1_0 := Aside0.mk hc1_0
 clear hr1_0 hc1_0
 have HR1_1 := Aside0.mk hr1_1
 have HC1_1 := Aside0.mk hc1_1
 clear hr1_1 hc1_1
 have HB := Aside0.mk (Below.refl w.heap.size w)
 have H : ((spec_GoodCounter.f k l0_0 l0_1).bind fun t126 => (if t126 = true then ((spec_GoodCounter.f k l1_0 l1_1).bind fun t127 => (spec_MergeCounter.j0 k (!t127) l0_0 l0_1 l1_0 l1_1)) else (spec_MergeCounter.j0 k true l0_0 l0_1 l1_0 l1_1))) = some (r1, r2, r3) := h
 clear h
 have HC3 := Aside0.mk H
 clear H
 go_enter Try.func23, Try.ntmps23
 go_upto_region 1 with (first | ((with_reducible refine gate_dst (N := 2) rfl ?_); refine box_event rfl (N := 2) rfl (cs := #[.slice A0_0 l0_0.length c0_0, .slice A0_1 l0_1.length c0_1]) (t := 27) gs_ ?_; intro gb123 hg w4 hbox hb; have BK123 := Aside0.mk (hbox); have GW123 := Aside0.mk ((by rw [hg]; exact bz_ : w.heap.size ≤ gb123)); have GE123 := GW123; replace HB := Aside0.mk (below_step bl_ hb); clear hb hbox hg) | ((with_reducible refine gate_dst (N := 3) rfl ?_); refine box_event rfl (N := 3) rfl (cs := #[.slice A1_0 l1_0.length c1_0, .slice A1_1 l1_1.length c1_1]) (t := 27) gs_ ?_; intro gb124 hg w5 hbox hb; have BK124 := Aside0.mk (hbox); have GW124 := Aside0.mk ((by rw [hg]; exact bz_ : w.heap.size ≤ gb124)); have GE124 := GW124; replace HB := Aside0.mk (below_step bl_ hb); have NB123_124 := nl_ hg BK123; have NB124_123 := nm_ hg BK123; replace BK123 := bb_ BK123 hb; clear hb hbox hg) | ((with_reducible refine gate_dst (N := 4) rfl ?_); refine box_event rfl (N := 4) rfl (cs := #[.slice none 0 0, .slice none 0 0]) (t := 27) gs_ ?_; intro gb125 hg w6 hbox hb; have BK125 := Aside0.mk (hbox); have GW125 := Aside0.mk ((by rw [hg]; exact bz_ : w.heap.size ≤ gb125)); have GE125 := GW125; replace HB := Aside0.mk (below_step bl_ hb); have NB123_125 := nl_ hg BK123; have NB125_123 := nm_ hg BK123; replace BK123 := bb_ BK123 hb; have NB124_125 := nl_ hg BK124; have NB125_124 := nm_ hg BK124; replace BK124 := bb_ BK124 hb; clear hb hbox hg))
 (try simp only [Act.put, List.setIfInBounds_toArray, List.set_cons_zero, List.set_cons_succ])
 go_cut [13] (fun v13 wc => ∃ (kq : Nat) (x13_2 : Bool), v13 = .bool x13_2 ∧ Aside0 (spec_MergeCounter.j0 kq x13_2 l0_0 l0_1 l1_0 l1_1 = some (r1, r2, r3)) ∧ Aside0 (kq ≤ k) ∧ Aside0 (wc.heap[gb123]? = some (.cells #[(.slice A0_0 l0_0.length c0_0), (.slice A0_1 l0_1.length c0_1)] 27 (0, 0))) ∧ Aside0 (wc.heap[gb124]? = some (.cells #[(.slice A1_0 l1_0.length c1_0), (.slice A1_1 l1_1.length c1_1)] 27 (0, 0))) ∧ Aside0 (wc.heap[gb125]? = some (.cells #[(.slice none 0 0), (.slice none 0 0)] 27 (0, 0))) ∧ Aside0 (Below w.heap.size w wc))
 case first =>
  have H := HC3.out
  clear HC3
  replace H := Option.bind_eq_some_iff.mp H
  obtain ⟨t126, A70, H⟩ := H
  replace H : (if t126 = true then ((spec_GoodCounter.f k l1_0 l1_1).bind fun t127 => (spec_MergeCounter.j0 k (!t127) l0_0 l0_1 l1_0 l1_1)) else (spec_MergeCounter.j0 k true l0_0 l0_1 l1_0 l1_1)) = some (r1, r2, r3) := H
  have A7 := Aside0.mk A70
  clear A70
  by_cases c8 : t126 = true
  rotate_left
  ·replace c8 := Bool.eq_false_iff.mpr c8
   subst c8
   have H1 : (spec_MergeCounter.j0 k true l0_0 l0_1 l1_0 l1_1) = some (r1, r2, r3) := by rw [if_neg (show ¬ (false = true) by decide)] at H; exact H
   clear H
   have H := H1
   clear H1
   have H' := Aside0.mk H
   clear H
   have hnb17 := NB123_124.out
   have hnc17 := NB124_123.out
   have hnb18 := NB123_125.out
   have hnc18 := NB125_123.out
   have hcz19_0 : w6.cell? ⟨gb123, 0, none⟩ = some (.slice A0_0 l0_0.length c0_0) := bc_ BK123.out 0
   have hcz19_1 : w6.cell? ⟨gb123, 1, none⟩ = some (.slice A0_1 l0_1.length c0_1) := bc_ BK123.out 1
   have hfz19_0 := blk_frozen BK123.out 0
   have hfz19_1 := blk_frozen BK123.out 1
   go_wp2_with (first | ((with_reducible refine gate_callee (f := 11) rfl ?_); refine goesL_ (some 7) rfl rfl Try.func11 (by kernel_rfl) rfl #[.agg #[.slice A0_0 l0_0.length c0_0, .slice A0_1 l0_1.length c0_1]] rfl nc_ ?_; (with_reducible refine (spec_GoodCounter.calls k _ _ l0_0 _ _ l0_1 false _ ?side1 ?side2 ?side3 ?side4 A7.out).mono ?_); (case side1 => exact kc_ (Kd.C_below HR0_0.out HB.out)); (case side2 => exact HC0_0.out); (case side3 => exact kc_ (Kd.C_below HR0_1.out HB.out)); (case side4 => exact HC0_1.out); rintro e w20 ⟨rfl, hb⟩; refine ⟨_, rfl, ?_⟩; replace BK123 := bb_ BK123 hb; replace BK124 := bb_ BK124 hb; replace BK125 := bb_ BK125 hb; replace HB := Aside0.mk (below_step bl_ hb); clear hb))
   go_meet
   case rel => exact ⟨_, (true), (by first | rfl | (simp; done) | (simp [*]; done)), H', ⟨by first | omega | exact Nat.le_refl _⟩, ⟨by exact kb_ BK123.out⟩, ⟨by exact kb_ BK124.out⟩, ⟨by exact kb_ BK125.out⟩, ⟨bl_⟩⟩
  subst c8
  have H1 : ((spec_GoodCounter.f k l1_0 l1_1).bind fun t127 => (spec_MergeCounter.j0 k (!t127) l0_0 l0_1 l1_0 l1_1)) = some (r1, r2, r3) := by rw [if_pos rfl] at H; exact H
  clear H
  have H := H1
  clear H1
  replace H := Option.bind_eq_some_iff.mp H
  obtain ⟨t127, A90, H⟩ := H
  replace H : (spec_MergeCounter.j0 k (!t127) l0_0 l0_1 l1_0 l1_1) = some (r1, r2, r3) := H
  have A9 := Aside0.mk A90
  clear A90
  have H' := Aside0.mk H
  clear H
  have hnb10 := NB123_124.out
  have hnc10 := NB124_123.out
  have hnb11 := NB123_125.out
  have hnc11 := NB125_123.out
  have hcz12_0 : w6.cell? ⟨gb123, 0, none⟩ = some (.slice A0_0 l0_0.length c0_0) := bc_ BK123.out 0
  have hcz12_1 : w6.cell? ⟨gb123, 1, none⟩ = some (.slice A0_1 l0_1.length c0_1) := bc_ BK123.out 1
  have hfz12_0 := blk_frozen BK123.out 0
  have hfz12_1 := blk_frozen BK123.out 1
  go_wp2_with (first | ((with_reducible refine gate_callee (f := 11) rfl ?_); refine goesL_ (some 7) rfl rfl Try.func11 (by kernel_rfl) rfl #[.agg #[.slice A0_0 l0_0.length c0_0, .slice A0_1 l0_1.length c0_1]] rfl nc_ ?_; (with_reducible refine (spec_GoodCounter.calls k _ _ l0_0 _ _ l0_1 true _ ?side1 ?side2 ?side3 ?side4 A7.out).mono ?_); (case side1 => exact kc_ (Kd.C_below HR0_0.out HB.out)); (case side2 => exact HC0_0.out); (case side3 => exact kc_ (Kd.C_below HR0_1.out HB.out)); (case side4 => exact HC0_1.out); rintro e w13 ⟨rfl, hb⟩; refine ⟨_, rfl, ?_⟩; replace BK123 := bb_ BK123 hb; replace BK124 := bb_ BK124 hb; replace BK125 := bb_ BK125 hb; replace HB := Aside0.mk (below_step bl_ hb); clear hb; have hnb14 := NB124_125.out; have hnc14 := NB125_124.out; have hcz15_0 : w13.cell? ⟨gb124, 0, none⟩ = some (.slice A1_0 l1_0.length c1_0) := bc_ BK124.out 0; have hcz15_1 : w13.cell? ⟨gb124, 1, none⟩ = some (.slice A1_1 l1_1.length c1_1) := bc_ BK124.out 1; have hfz15_0 := blk_frozen BK124.out 0; have hfz15_1 := blk_frozen BK124.out 1) | (go_at_call 11; (with_reducible refine (spec_GoodCounter.calls k _ _ l1_0 _ _ l1_1 t127 _ ?side1 ?side2 ?side3 ?side4 A9.out).mono ?_); (case side1 => exact kc_ (Kd.C_below HR1_0.out HB.out)); (case side2 => exact HC1_0.out); (case side3 => exact kc_ (Kd.C_below HR1_1.out HB.out)); (case side4 => exact HC1_1.out); rintro e w16 ⟨rfl, hb⟩; replace BK123 := bb_ BK123 hb; replace BK124 := bb_ BK124 hb; replace BK125 := bb_ BK125 hb; replace HB := Aside0.mk (below_step bl_ hb); clear hb))
  go_meet
  case rel => exact ⟨_, (!t127), (by first | rfl | (simp; done) | (simp [*]; done)), H', ⟨by first | omega | exact Nat.le_refl _⟩, ⟨by exact kb_ BK123.out⟩, ⟨by exact kb_ BK124.out⟩, ⟨by exact kb_ BK125.out⟩, ⟨bl_⟩⟩
 clear HC3
 try clear c1
 try clear c2
 try clear p2
 try clear c8
 try clear c10
 try clear c11
 try clear c14
 try clear c17
 try clear c18
 try clear hcz12_0
 try clear hcz12_1
 try clear hcz15_0
 try clear hcz15_1
 try clear hcz19_0
 try clear hcz19_1
 try clear hfz12_0
 try clear hfz12_1
 try clear hfz15_0
 try clear hfz15_1
 try clear hfz19_0
 try clear hfz19_1
 obtain ⟨kq, x13_2, rfl, HA, HJ2, BK123, BK124, BK125, HB⟩ := hcut
 cases kq with
 | zero => exact absurd HA.out (by simp [spec_MergeCounter.j0])
 | succ kj2 => ?_
 have H := HA.out
 clear HA
 simp only [spec_MergeCounter.j0] at H
 by_cases c21 : x13_2 = true
 ·subst c21
  have H1 : (some (([] : List Int), ([] : List Int), false)) = some (r1, r2, r3) := by rw [if_pos rfl] at H; exact H
  clear H
  have H := H1
  clear H1
  simp only [Option.some.injEq, Prod.mk.injEq] at H
  obtain ⟨rfl, rfl, rfl⟩ := H
  have hnb22 := NB125_123.out
  have hnc22 := NB123_125.out
  have hnb23 := NB125_124.out
  have hnc23 := NB124_125.out
  have hcz24_0 : wc.cell? ⟨gb125, 0, none⟩ = some (.slice none 0 0) := bc_ BK125.out 0
  have hcz24_1 : wc.cell? ⟨gb125, 1, none⟩ = some (.slice none 0 0) := bc_ BK125.out 1
  have hfz24_0 := blk_frozen BK125.out 0
  have hfz24_1 := blk_frozen BK125.out 1
  go_wp2
  refine bodyPost_ret (results_ct rfl _ _ gb125 27 #[.slice none 0 0, .slice none 0 0] (0, 0) _ rfl (by (with_reducible repeat (first | refine blk_drewN ?_ _ | refine blk_drew ?_ | refine blk_alloc ?_ _)); refine blk_put (cs := #[.slice none 0 0, .slice none 0 0]) ?_ 1 _ rfl; (with_reducible repeat (first | refine blk_drewN ?_ _ | refine blk_drew ?_ | refine blk_alloc ?_ _)); refine blk_put (cs := #[.slice none 0 0, .slice none 0 0]) ?_ 0 _ rfl; exact kb_ BK125.out) Try.underlying27 rfl (by kernel_rfl)) rfl ?_
  exact ⟨_, _, ng_, by first | exact Kd.R_nil _ _ _ _ _ | exact Kd.N_nil _ _ _ _ _ | exact Kd.V_nil _ _ _ _ _ | exact Kd.Q_nil _ _ _ _ _ | exact Kd.S_nil _ _ _ _ _, by first | exact Kd.R_nil _ _ _ _ _ | exact Kd.N_nil _ _ _ _ _ | exact Kd.V_nil _ _ _ _ _ | exact Kd.Q_nil _ _ _ _ _ | exact Kd.S_nil _ _ _ _ _, bl_⟩
 replace c21 := Bool.eq_false_iff.mpr c21
 subst c21
 have H1 : ((spec_l2Merge.f kj2 l0_0 l1_0).bind fun t128 => ((spec_l2Merge.f kj2 l0_1 l1_1).bind fun t131 => (some (t128, t131, true)))) = some (r1, r2, r3) := by rw [if_neg (show ¬ (false = true) by decide)] at H; exact H
 clear H
 have H := H1
 clear H1
 replace H := Option.bind_eq_some_iff.mp H
 obtain ⟨t128, A250, H⟩ := H
 replace H : ((spec_l2Merge.f kj2 l0_1 l1_1).bind fun t131 => (some (t128, t131, true))) = some (r1, r2, r3) := H
 have A25 := Aside0.mk A250
 clear A250
 replace H := Option.bind_eq_some_iff.mp H
 obtain ⟨t131, A260, H⟩ := H
 replace H : (some (t128, t131, true)) = some (r1, r2, r3) := H
 have A26 := Aside0.mk A260
 clear A260
 simp only [Option.some.injEq, Prod.mk.injEq] at H
 obtain ⟨rfl, rfl, rfl⟩ := H
 try go_wp2
 replace BK123 := Aside0.mk (blk_drew BK123.out)
 replace BK124 := Aside0.mk (blk_drew BK124.out)
 replace BK125 := Aside0.mk (blk_drew BK125.out)
 replace HB := Aside0.mk (below_drew1 HB.out)
 refine start_ (n := 13) (S := fun w' => w'.cell? ⟨gb123, 0, none⟩ = some (.slice A0_0 l0_0.length c0_0) ∧ w'.cell? ⟨gb123, 1, none⟩ = some (.slice A0_1 l0_1.length c0_1) ∧ w'.cell? ⟨gb124, 0, none⟩ = some (.slice A1_0 l1_0.length c1_0) ∧ w'.cell? ⟨gb124, 1, none⟩ = some (.slice A1_1 l1_1.length c1_1)) (ds := []) #[false, false, false, false, false, false, false, false, false, false, false, false, false] (by kernel_rfl) rfl rfl ⟨bc_ BK123.out 0, bc_ BK123.out 1, bc_ BK124.out 0, bc_ BK124.out 1⟩ (fun hHeld => ?_); refine with_tabW spec_MergeCounter.tab3 spec_MergeCounter.bits3 (fun HT_ HW_ => ?_)
 generalize wc.drew = w27 at BK123 BK124 BK125 HB hHeld ⊢
 refine pu_ 0 (some 15) (h := ?_)
 refine pu_ 2 (some 17) (h := ?_)
 refine pu_ 5 (some 20) (h := ?_)
 refine pu_ 7 (some 22) (h := ?_)
 refine tk4_ 1 (some 16) (h := ?_)
 refine tk4_ 3 (some 18) (h := ?_)
 refine tk4_ 6 (some 21) (h := ?_)
 refine tk4_ 8 (some 23) (h := ?_)
 refine on_ 4 (some 19) (h := fun K hK => ?_)
 refine goes_ Try.func43 (by kernel_rfl) rfl #[.slice A0_0 l0_0.length c0_0, .slice A1_0 l1_0.length c1_0] (by rfl) rfl rfl nc_ ?_
 with_reducible refine (spec_l2Merge.calls kj2 _ _ l0_0 _ _ l1_0 t128 _ ?side1 ?side2 ?side3 ?side4 A25.out).mono ?_
 (case side1 => exact kc_ (Kd.C_below HR0_0.out HB.out))
 (case side2 => exact HC0_0.out)
 (case side3 => exact kc_ (Kd.C_below HR1_0.out HB.out))
 (case side4 => exact HC1_0.out)
 rintro e w28 ⟨v129, rfl, ho0, hb⟩
 refine ⟨_, rfl, ?_⟩
 have HO130 := Aside0.mk (Kd.R_lower ho0 bz_)
 replace BK123 := bb_ BK123 hb
 replace BK124 := bb_ BK124 hb
 replace BK125 := bb_ BK125 hb
 replace HB := Aside0.mk (below_step bl_ hb)
 clear hb ho0
 refine hK.out _ _ ⟨bc_ BK123.out 0, bc_ BK123.out 1, bc_ BK124.out 0, bc_ BK124.out 1⟩ (fun hHeld => ?_)
 clear hK K
 refine norm_ nn_ ?_
 refine on_ 9 (some 24) (h := fun K hK => ?_)
 refine goes_ Try.func43 (by kernel_rfl) rfl #[.slice A0_1 l0_1.length c0_1, .slice A1_1 l1_1.length c1_1] (by rfl) rfl rfl nc_ ?_
 with_reducible refine (spec_l2Merge.calls kj2 _ _ l0_1 _ _ l1_1 t131 _ ?side1 ?side2 ?side3 ?side4 A26.out).mono ?_
 (case side1 => exact kc_ (Kd.C_below HR0_1.out HB.out))
 (case side2 => exact HC0_1.out)
 (case side3 => exact kc_ (Kd.C_below HR1_1.out HB.out))
 (case side4 => exact HC1_1.out)
 rintro e w29 ⟨v132, rfl, ho0, hb⟩
 refine ⟨_, rfl, ?_⟩
 have HO133 := Aside0.mk (Kd.R_lower (rn_ ho0 HO130.out) bz_)
 replace HO130 := Aside0.mk (Kd.R_elder' (kr_ HO130.out) (Kd.R_base ho0) hb)
 replace BK123 := bb_ BK123 hb
 replace BK124 := bb_ BK124 hb
 replace BK125 := bb_ BK125 hb
 replace HB := Aside0.mk (below_step bl_ hb)
 clear hb ho0
 obtain ⟨Ao30, co30, eo30⟩ := Kd.R_slice HO133.out
 (first | subst eo30 | (injection eo30 with f1_ f2_ f3_; have f4_ := f1_.symm; have f5_ := f3_.symm; clear f1_ f2_ f3_; subst f4_; subst f5_))
 obtain ⟨Ao31, co31, eo31⟩ := Kd.R_slice HO130.out
 (first | subst eo31 | (injection eo31 with f1_ f2_ f3_; have f4_ := f1_.symm; have f5_ := f3_.symm; clear f1_ f2_ f3_; subst f4_; subst f5_))
 refine hK.out _ _ ⟨bc_ BK123.out 0, bc_ BK123.out 1, bc_ BK124.out 0, bc_ BK124.out 1⟩ (fun hHeld => ?_)
 clear hK K
 refine norm_ nn_ ?_
 refine pu_ 10 (some 25) (h := ?_)
 refine on_ 11 none (h := fun K hK => ?_)
 have hs32 : w29.cell? ⟨gb125, 0, none⟩ = some (.slice none 0 0) := bc_ BK125.out 0
 have hfs32 := blk_frozen BK125.out 0
 have hns32_0 := NB123_125.out
 have hns32_1 := NB124_125.out
 have hms32_0 := NB125_123.out
 have hms32_1 := NB125_124.out
 have hs33 : w29.cell? ⟨gb125, 1, none⟩ = some (.slice none 0 0) := bc_ BK125.out 1
 have hfs33 := blk_frozen BK125.out 1
 have hns33_0 := NB123_125.out
 have hns33_1 := NB124_125.out
 have hms33_0 := NB125_123.out
 have hms33_1 := NB125_124.out
 refine skip_ (w1 := ?_) (by rfl) rfl ?_ ?_
 rotate_left
 ·go_simp
  rfl
 refine hK.out _ _ ⟨((cell_far (p := ⟨gb125, _, none⟩) NB123_125.out _).trans (((cell_far (p := ⟨gb125, _, none⟩) NB123_125.out _).trans (hHeld.1)))), ((cell_far (p := ⟨gb125, _, none⟩) NB123_125.out _).trans (((cell_far (p := ⟨gb125, _, none⟩) NB123_125.out _).trans (hHeld.2.1)))), ((cell_far (p := ⟨gb125, _, none⟩) NB124_125.out _).trans (((cell_far (p := ⟨gb125, _, none⟩) NB124_125.out _).trans (hHeld.2.2.1)))), ((cell_far (p := ⟨gb125, _, none⟩) NB124_125.out _).trans (((cell_far (p := ⟨gb125, _, none⟩) NB124_125.out _).trans (hHeld.2.2.2))))⟩ (fun hHeld => ?_)
 clear hK K
 refine pu_ 12 (some 5) (h := ?_)
 refine done_ (done_of HT_.out (by kernel_rfl)) ?_
 try go_wp2
 refine bodyPost_ret (results_ct rfl _ _ gb125 27 #[.slice Ao31 t128.length co31, .slice Ao30 t131.length co30] (0, 0) _ rfl (by (with_reducible repeat (first | refine blk_drewN ?_ _ | refine blk_drew ?_ | refine blk_alloc ?_ _)); refine blk_put (cs := #[.slice Ao31 t128.length co31, .slice none 0 0]) ?_ 1 _ rfl; (with_reducible repeat (first | refine blk_drewN ?_ _ | refine blk_drew ?_ | refine blk_alloc ?_ _)); refine blk_put (cs := #[.slice none 0 0, .slice none 0 0]) ?_ 0 _ rfl; exact kb_ BK125.out) Try.underlying27 rfl (by kernel_rfl)) rfl ?_
 exact ⟨_, _, ng_, by exact kr_ (Kd.R_mono (Kd.R_far (p := ⟨gb125, 1, none⟩) (Kd.R_far (p := ⟨gb125, 0, none⟩) (Kd.R_types HO130.out BK125.out (by decide)) (fun _ hk => hk.2) (.slice Ao31 t128.length co31)) (fun _ hk => hk.2) (.slice Ao30 t131.length co30)) (fun _ hk => hk.1.2)), by exact kr_ (Kd.R_mono (Kd.R_far (p := ⟨gb125, 1, none⟩) (Kd.R_far (p := ⟨gb125, 0, none⟩) (Kd.R_types HO133.out BK125.out (by decide)) (fun _ hk => hk.2) (.slice Ao31 t128.length co31)) (fun _ hk => hk.2) (.slice Ao30 t131.length co30)) (fun _ hk => hk.1.2)), bl_⟩

/-! ### impl_greater: function 44 -/
def impl_greater.l0 : Nat → List Int → List Int → List Int → Int → Int → Option (List Int)
 | 0, _, _, _, _, _ => none
 | k + 1, x1, x5, x9, x10, x11 => if x11 < x10 then (if 0 ≤ x11 then (if x11 < (x9.length : Int) then (if x11 < (x1.length : Int) then (if x5.length < 17592186044416 then (impl_greater.l0 k x1 (x5 ++ [mx (rd x9 x11) (rd x1 x11)]) x9 x10 (wrap64 (x11 + 1))) else (none)) else (none)) else (none)) else (none)) else (some x5)
def impl_greater.f (k : Nat) (l0 : List Int) (l1 : List Int) : Option (List Int) := impl_greater.l0 k l1 (([] : List Int)) l0 (l0.length : Int) 0
theorem impl_greater.mono_l : ∀ k, (∀ y0 y1 y2 y3 y4, LeO (impl_greater.l0 k y0 y1 y2 y3 y4) (impl_greater.l0 (k + 1) y0 y1 y2 y3 y4))
 | 0 => fun _ _ _ _ _ r h => by simp [impl_greater.l0] at h
 | k + 1 => by
  have ih0 := impl_greater.mono_l k
  ·intro y0 y1 y2 y3 y4
   unfold impl_greater.l0
   repeat' first
   | (with_reducible exact ih0 _ _ _ _ _)
   | (with_reducible exact LeO.refl _)
   | (with_reducible exact LeO.none _)
   | (with_reducible refine LeO.ite ?_ ?_)
   | (with_reducible refine LeO.bind ?_ (fun _ => ?_))
   | exact ih0 _ _ _ _ _
   | exact LeO.none _
   | refine LeO.ite ?_ ?_
   | refine LeO.bind ?_ (fun _ => ?_)
theorem impl_greater.mono : ∀ a0 a1 k, LeO (impl_greater.f k a0 a1) (impl_greater.f (k + 1) a0 a1) := by
 intro a0 a1 k
 have ih0 := impl_greater.mono_l k
 unfold impl_greater.f
 repeat' first
   | (with_reducible exact ih0 _ _ _ _ _)
   | (with_reducible exact LeO.refl _)
   | (with_reducible exact LeO.none _)
   | (with_reducible refine LeO.ite ?_ ?_)
   | (with_reducible refine LeO.bind ?_ (fun _ => ?_))
   | exact ih0 _ _ _ _ _
   | exact LeO.none _
   | refine LeO.ite ?_ ?_
   | refine LeO.bind ?_ (fun _ => ?_)
set_option maxHeartbeats 8000000 in
set_option maxRecDepth 100000 in
theorem impl_greater.calls (k : Nat) (A0 : Option Addr) (c0 : Nat) (l0 : List Int) (A1 : Option Addr) (c1 : Nat) (l1 : List Int) (r : List Int) (w : World) (hr0 : Kd.C (Kd.int .i64) w A0 l0.length l0) (hc0 : l0.length ≤ c0) (hr1 : Kd.C (Kd.int .i64) w A1 l1.length l1) (hc1 : l1.length ≤ c1) (h : impl_greater.f k l0 l1 = some r) :
  Calls Try.prog 44 #[.slice A0 l0.length c0, .slice A1 l1.length c1] w fun e w' => ∃ v0_ : Value, e = .returned (v0_) ∧ Kd.R (Kd.int .i64) 3 w' w.heap.size (fun _ => True) v0_ r ∧ Below w.heap.size w w' := by
 have HR0 := Aside0.mk hr0
 have HC0 := Aside0.mk hc0
 clear hr0 hc0
 have HR1 := Aside0.mk hr1
 have HC1 := Aside0.mk hc1
 clear hr1 hc1
 have HB := Aside0.mk (Below.refl w.heap.size w)
 have H : (impl_greater.l0 k l1 (([] : List Int)) l0 (l0.length : Int) 0) = some r := h
 clear h
 obtain ⟨y134, hy134⟩ : ∃ y_ : List Int, y_ = (([] : List Int)) := ⟨_, rfl⟩
 replace H : (impl_greater.l0 k l1 y134 l0 (l0.length : Int) 0) = some r := by first | (rw [hy134]; with_reducible exact H) | (have H2_ := (Option.bind_some _ _).symm.trans H; rw [hy134]; with_reducible exact H2_) | (have H2_ := (Option.bind_some _ _).symm.trans H; with_reducible exact H2_) | with_reducible exact H | (rw [hy134]; exact H) | exact H
 have Ny134 := Aside0.mk hy134
 clear hy134
 have H' := Aside0.mk H
 clear H
 go_enter Try.func44, Try.ntmps44
 go_wp2_with (first | ((with_reducible refine gate_dst (N := 8) rfl ?_); refine Kd.R_lit (Kd.int .i64) _ 3 rfl (N := 8) rfl (xs := ([] : List Int)) (inner := []) (ok := fun _ => True) (okp := fun _ => True) gs_ ?hp (fun _ hk => hk) trivial (Below.refl _ _) (Nat.le_refl _) (by simp) ?_; (case hp => exact (Reps.none _ _)); intro v135 w3 ho4 hb hg_ hnew_; clear hg_ hnew_; (first | rw [← Ny134.out] at ho4 | (simp only [Int.reduceToNat] at ho4; rw [← Ny134.out] at ho4)); have HO136 := Aside0.mk (Kd.R_lower ho4 bz_); replace HB := Aside0.mk (below_step bl_ hb); clear hb ho4))
 go_loopg [5, 11] k (fun kq v5 v11 w' => ∃ (x5_1 : List Int) (x11_1 : Int), v11 = .int .i64 x11_1 ∧ Aside0 (impl_greater.l0 kq l1 x5_1 l0 (l0.length : Int) x11_1 = some r) ∧ Aside0 (kq ≤ k) ∧ Aside0 (Kd.R (Kd.int .i64) 3 w' w.heap.size (fun _ => True) v5 x5_1) ∧ Aside0 (Below w.heap.size w w'))
 case atStart => exact ⟨(y134), (0), (by first | rfl | (simp; done) | (simp [*]; done)), H', ⟨Nat.le_refl _⟩, ⟨by exact kr_ HO136.out⟩, ⟨bl_⟩⟩
 clear H'
 try clear c1
 try clear p2
 try clear c4
 obtain ⟨x5_1, x11_1, rfl, HA, HK1, HO_5, HB⟩ := hrel
 cases gk with
 | zero => exact absurd HA.out (by simp [impl_greater.l0])
 | succ k1 => ?_
 have H := HA.out
 clear HA
 simp only [impl_greater.l0] at H
 by_cases c5 : x11_1 < (l0.length : Int)
 rotate_left
 ·rw [if_neg c5] at H
  have c5b0 : decide (x11_1 < (l0.length : Int)) = false := decide_eq_false c5
  clear c5
  obtain rfl := Option.some.inj H
  go_wp2
  go_ret
  exact ⟨_, ng_, by exact kr_ HO_5.out, bl_⟩
 rw [if_pos c5] at H
 have c5b0 : decide (x11_1 < (l0.length : Int)) = true := decide_eq_true c5
 clear c5
 by_cases c6 : 0 ≤ x11_1
 rotate_left
 ·rw [if_neg c6] at H
  exact absurd H (by simp)
 rw [if_pos c6] at H
 have c6b0 : decide (0 ≤ x11_1) = true := decide_eq_true c6
 clear c6
 by_cases c7 : x11_1 < (l0.length : Int)
 rotate_left
 ·rw [if_neg c7] at H
  exact absurd H (by simp)
 rw [if_pos c7] at H
 have c7b0 : decide (x11_1 < (l0.length : Int)) = true := decide_eq_true c7
 clear c7
 by_cases c8 : x11_1 < (l1.length : Int)
 rotate_left
 ·rw [if_neg c8] at H
  exact absurd H (by simp)
 rw [if_pos c8] at H
 have c8b0 : decide (x11_1 < (l1.length : Int)) = true := decide_eq_true c8
 clear c8
 obtain ⟨ji9, hji9⟩ : ∃ j_ : Int, (mx (rd l0 x11_1) (rd l1 x11_1)) = j_ := ⟨_, rfl⟩
 replace H : (if x5_1.length < 17592186044416 then (impl_greater.l0 k1 l1 (x5_1 ++ [ji9]) l0 (l0.length : Int) (wrap64 (x11_1 + 1))) else (none)) = some r := by first | (rw [hji9] at H; exact H) | (simp only [hji9] at H ⊢; exact H)
 have hji9_ : (if (rd l0 x11_1) < (rd l1 x11_1) then (rd l1 x11_1) else (rd l0 x11_1)) = ji9 := hji9
 by_cases c10 : x5_1.length < 17592186044416
 rotate_left
 ·rw [if_neg c10] at H
  exact absurd H (by simp)
 rw [if_pos c10] at H
 have LMc10 := Aside0.mk c10
 clear c10
 obtain ⟨y139, hy139⟩ : ∃ y_ : List Int, y_ = (x5_1 ++ [ji9]) := ⟨_, rfl⟩
 replace H : (impl_greater.l0 k1 l1 y139 l0 (l0.length : Int) (wrap64 (x11_1 + 1))) = some r := by first | (rw [hy139]; with_reducible exact H) | (have H2_ := (Option.bind_some _ _).symm.trans H; rw [hy139]; with_reducible exact H2_) | (have H2_ := (Option.bind_some _ _).symm.trans H; with_reducible exact H2_) | with_reducible exact H | (rw [hy139]; exact H) | exact H
 have Ny139 := Aside0.mk hy139
 clear hy139
 have H' := Aside0.mk H
 clear H
 have p137 : 0 ≤ (x11_1 : Int) := of_decide_eq_true (by first | (with_reducible assumption) | assumption)
 have q137 : x11_1 < (l0.length : Int) := of_decide_eq_true (by first | (with_reducible assumption) | assumption)
 obtain ⟨ad137, e137, hx137_0⟩ := Kd.at_int HR0.out x11_1 p137 q137
 cases e137
 replace hx137_0 := (HB.out.cell (World.block_lt_of_cell? w _ hx137_0)).trans hx137_0
 replace p137 := eq_true p137
 replace q137 := eq_true q137
 have p138 : 0 ≤ (x11_1 : Int) := of_decide_eq_true (by first | (with_reducible assumption) | assumption)
 have q138 : x11_1 < (l1.length : Int) := of_decide_eq_true (by first | (with_reducible assumption) | assumption)
 obtain ⟨ad138, e138, hx138_0⟩ := Kd.at_int HR1.out x11_1 p138 q138
 cases e138
 replace hx138_0 := (HB.out.cell (World.block_lt_of_cell? w _ hx138_0)).trans hx138_0
 replace p138 := eq_true p138
 replace q138 := eq_true q138
 go_wp2_with (first | ((with_reducible refine gate_builtin (b := .append) (xs := #[.tmp 16, .tmp 23]) rfl ?_); at_builtin; refine Kd.R_append (Kd.int .i64) (w0 := w) w.heap.size rfl (.tmp 16) (.tmp 23) 22 3 (.int .i64 0) 8 rfl Try.underlying22 info3 rfl (by decide) (by omega) u5 x5_1 ji9 [.int .i64 ji9] (fun _ => True) (fun _ => False) rfl rfl ?aP (fun _ hk => hk.elim) ?aF ?aO ?aB ?aS ?aL ?_; (case aP => exact rfl); (case aB => exact bl_); (case aF => exact (fun _ _ => trivial)); (case aO => exact (kr_ HO_5.out)); (case aS => exact bz_); (case aL => have := LMc10.out; omega); intro v140 w11 ho hb hg hat; rw [← Ny139.out] at ho; replace HB := Aside0.mk (hb); have HO141 := Aside0.mk (ho); clear HO_5 ho hb hg hat))
 go_roundg k1
 case measure => have := HK1.out; omega
 case rel => exact ⟨(y139), (wrap64 (x11_1 + 1)), (by first | rfl | (simp; done) | (simp [*]; done)), H', ⟨by have := HK1.out; omega⟩, ⟨by exact kr_ HO141.out⟩, ⟨bl_⟩⟩

end Go.Proofs.Ytcloilddgimamaa.PFC
