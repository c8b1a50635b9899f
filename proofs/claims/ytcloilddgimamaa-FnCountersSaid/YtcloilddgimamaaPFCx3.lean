/- What this text proves: the machine calls of these functions return what the plain functions say. Conditions: as each theorem says. Printed by a program of this session out of the translation. -/
import Derived.Test.YtcloilddgimamaaPFCx0
import Derived.Test.YtcloilddgimamaaPFCx1
import Derived.Test.YtcloilddgimamaaPFCx2
namespace Go.Proofs.Ytcloilddgimamaa.PFC
open Go.RowKit Go.Proofs.YtcloilddgimamaaW.PrintWords Go.Proofs.YtcloilddgimamaaW.PrintLast Go.Proofs.YtcloilddgimamaaW.PrintMore
attribute [local go_sem] max2_int min2_int max_two min_two max_three min_three max_four min_four   -- for this text's walks alone
set_option linter.unusedVariables false
set_option linter.unusedSimpArgs false

/-! ### impl_MergeCounter: function 24 -/
def impl_MergeCounter.j0 : Nat → Bool → List Int → List Int → List Int → List Int → Option (List Int × List Int × Bool)
 | 0, _, _, _, _, _ => none
 | k + 1, x13, x143000, x143001, x144000, x144001 => if x13 = true then (some (([] : List Int), ([] : List Int), false)) else ((impl_greater.f k x143000 x144000).bind fun t147 => ((impl_greater.f k x143001 x144001).bind fun t150 => (some (t147, t150, true))))
def impl_MergeCounter.f (k : Nat) (l0_0 : List Int) (l0_1 : List Int) (l1_0 : List Int) (l1_1 : List Int) : Option (List Int × List Int × Bool) := (impl_isCounter.f l0_0 l0_1).bind fun t145 => (if t145 = true then ((impl_isCounter.f l1_0 l1_1).bind fun t146 => (impl_MergeCounter.j0 k (!t146) l0_0 l0_1 l1_0 l1_1)) else (impl_MergeCounter.j0 k true l0_0 l0_1 l1_0 l1_1))
theorem impl_MergeCounter.mono_l : ∀ k, (∀ y0 y1 y2 y3 y4, LeO (impl_MergeCounter.j0 k y0 y1 y2 y3 y4) (impl_MergeCounter.j0 (k + 1) y0 y1 y2 y3 y4))
 | 0 => fun _ _ _ _ _ r h => by simp [impl_MergeCounter.j0] at h
 | k + 1 => by
  have ih0 := impl_MergeCounter.mono_l k
  ·intro y0 y1 y2 y3 y4
   unfold impl_MergeCounter.j0
   repeat' first
   | (with_reducible exact ih0 _ _ _ _ _)
   | (with_reducible exact impl_greater.mono _ _ _)
   | (with_reducible exact LeO.refl _)
   | (with_reducible exact LeO.none _)
   | (with_reducible refine LeO.ite ?_ ?_)
   | (with_reducible refine LeO.bind ?_ (fun _ => ?_))
   | exact ih0 _ _ _ _ _
   | exact impl_greater.mono _ _ _
   | exact LeO.none _
   | refine LeO.ite ?_ ?_
   | refine LeO.bind ?_ (fun _ => ?_)
theorem impl_MergeCounter.mono : ∀ a0 a1 a2 a3 k, LeO (impl_MergeCounter.f k a0 a1 a2 a3) (impl_MergeCounter.f (k + 1) a0 a1 a2 a3) := by
 intro a0 a1 a2 a3 k
 have ih0 := impl_MergeCounter.mono_l k
 unfold impl_MergeCounter.f
 repeat' first
   | (with_reducible exact ih0 _ _ _ _ _)
   | (with_reducible exact impl_greater.mono _ _ _)
   | (with_reducible exact LeO.refl _)
   | (with_reducible exact LeO.none _)
   | (with_reducible refine LeO.ite ?_ ?_)
   | (with_reducible refine LeO.bind ?_ (fun _ => ?_))
   | exact ih0 _ _ _ _ _
   | exact impl_greater.mono _ _ _
   | exact LeO.none _
   | refine LeO.ite ?_ ?_
   | refine LeO.bind ?_ (fun _ => ?_)
def impl_MergeCounter.T3 : Bool × List (List Nat × List Nat) := (true, [([], []), ([0], [0]), ([], []), ([2], [2]), ([1, 3], [1, 3]), ([], []), ([5], [5]), ([], []), ([7], [7]), ([6, 8, 4], [6, 8]), ([4, 9], [4, 9]), ([10, 9, 0, 1, 2, 3, 4, 5, 6, 7, 8, 9, 10], [10]), ([11, 0, 1, 2, 3, 4, 5, 6, 7, 8, 9, 10, 11], [])])
def impl_MergeCounter.B3 : List Nat := [0, 1, 0, 4, 15, 0, 32, 0, 128, 511, 1023, 2047, 4095]
theorem impl_MergeCounter.tab3 : rtab .any (opsOf Try.f24 3) = impl_MergeCounter.T3 := by kernel_rfl
theorem impl_MergeCounter.bits3 : waitsOk impl_MergeCounter.T3.2 impl_MergeCounter.B3 = true := by kernel_rfl
set_option maxHeartbeats 8000000 in
set_option maxRecDepth 100000 in
theorem impl_MergeCounter.calls (k : Nat) (A0_0 : Option Addr) (c0_0 : Nat) (l0_0 : List Int) (A0_1 : Option Addr) (c0_1 : Nat) (l0_1 : List Int) (A1_0 : Option Addr) (c1_0 : Nat) (l1_0 : List Int) (A1_1 : Option Addr) (c1_1 : Nat) (l1_1 : List Int) (r1 : List Int) (r2 : List Int) (r3 : Bool) (w : World) (hr0_0 : Kd.C (Kd.int .i64) w A0_0 l0_0.length l0_0) (hc0_0 : l0_0.length ≤ c0_0) (hr0_1 : Kd.C (Kd.int .i64) w A0_1 l0_1.length l0_1) (hc0_1 : l0_1.length ≤ c0_1) (hr1_0 : Kd.C (Kd.int .i64) w A1_0 l1_0.length l1_0) (hc1_0 : l1_0.length ≤ c1_0) (hr1_1 : Kd.C (Kd.int .i64) w A1_1 l1_1.length l1_1) (hc1_1 : l1_1.length ≤ c1_1) (h : impl_MergeCounter.f k l0_0 l0_1 l1_0 l1_1 = some (r1, r2, r3)) :
  Calls Try.prog 24 #[.agg #[.slice A0_0 l0_0.length c0_0, .slice A0_1 l0_1.length c0_1], .agg #[.slice A1_0 l1_0.length c1_0, .slice A1_1 l1_1.length c1_1]] w fun e w' => ∃ v0_ v1_ : Value, e = .returned (.tuple #[.agg #[v0_, v1_], .bool r3]) ∧ Kd.R (Kd.int .i64) 3 w' w.heap.size (fun k_ => some k_ ≠ (v1_ : Value).ownBlock) v0_ r1 ∧ Kd.R (Kd.int .i64) 3 w' w.heap.size (fun k_ => some k_ ≠ (v0_ : Value).ownBlock) v1_ r2 ∧ Below w.heap.size w w' := by
 have hu27 := Try.underlying27
 have HR0_0 := Aside0.mk hr0_0
 have HC0_0 := Aside0.mk hc0_0
 clear hr0_0 hc0_0
 have HR0_1 := Aside0.mk hr0_1
 have HC0_1 := Aside0.mk hc0_1
 clear hr0_1 hc0_1
 have HR1_0 := Aside0.mk hr1_0
 have HC1_0 := Aside0.mk hc1_0
 clear hr1_0 hc1_0
 have HR1_1 := Aside0.mk hr1_1
 have HC1_1 := Aside0.mk hc1_1
 clear hr1_1 hc1_1
 have HB := Aside0.mk (Below.refl w.heap.size w)
 have H : ((impl_isCounter.f l0_0 l0_1).bind fun t145 => (if t145 = true then ((impl_isCounter.f l1_0 l1_1).bind fun t146 => (impl_MergeCounter.j0 k (!t146) l0_0 l0_1 l1_0 l1_1)) else (impl_MergeCounter.j0 k true l0_0 l0_1 l1_0 l1_1))) = some (r1, r2, r3) := h
 clear h
 have HC3 := Aside0.mk H
 clear H
 go_enter Try.func24, Try.ntmps24
 go_upto_region 1 with (first | ((with_reducible refine gate_dst (N := 2) rfl ?_); refine box_event rfl (N := 2) rfl (cs := #[.slice A0_0 l0_0.length c0_0, .slice A0_1 l0_1.length c0_1]) (t := 27) gs_ ?_; intro gb142 hg w4 hbox hb; have BK142 := Aside0.mk (hbox); have GW142 := Aside0.mk ((by rw [hg]; exact bz_ : w.heap.size ≤ gb142)); have GE142 := GW142; replace HB := Aside0.mk (below_step bl_ hb); clear hb hbox hg) | ((with_reducible refine gate_dst (N := 3) rfl ?_); refine box_event rfl (N := 3) rfl (cs := #[.slice A1_0 l1_0.length c1_0, .slice A1_1 l1_1.length c1_1]) (t := 27) gs_ ?_; intro gb143 hg w5 hbox hb; have BK143 := Aside0.mk (hbox); have GW143 := Aside0.mk ((by rw [hg]; exact bz_ : w.heap.size ≤ gb143)); have GE143 := GW143; replace HB := Aside0.mk (below_step bl_ hb); have NB142_143 := nl_ hg BK142; have NB143_142 := nm_ hg BK142; replace BK142 := bb_ BK142 hb; clear hb hbox hg) | ((with_reducible refine gate_dst (N := 4) rfl ?_); refine box_event rfl (N := 4) rfl (cs := #[.slice none 0 0, .slice none 0 0]) (t := 27) gs_ ?_; intro gb144 hg w6 hbox hb; have BK144 := Aside0.mk (hbox); have GW144 := Aside0.mk ((by rw [hg]; exact bz_ : w.heap.size ≤ gb144)); have GE144 := GW144; replace HB := Aside0.mk (below_step bl_ hb); have NB142_144 := nl_ hg BK142; have NB144_142 := nm_ hg BK142; replace BK142 := bb_ BK142 hb; have NB143_144 := nl_ hg BK143; have NB144_143 := nm_ hg BK143; replace BK143 := bb_ BK143 hb; clear hb hbox hg))
 (try simp only [Act.put, List.setIfInBounds_toArray, List.set_cons_zero, List.set_cons_succ])
 go_cut [13] (fun v13 wc => ∃ (kq : Nat) (x13_2 : Bool), v13 = .bool x13_2 ∧ Aside0 (impl_MergeCounter.j0 kq x13_2 l0_0 l0_1 l1_0 l1_1 = some (r1, r2, r3)) ∧ Aside0 (kq ≤ k) ∧ Aside0 (wc.heap[gb142]? = some (.cells #[(.slice A0_0 l0_0.length c0_0), (.slice A0_1 l0_1.length c0_1)] 27 (0, 0))) ∧ Aside0 (wc.heap[gb143]? = some (.cells #[(.slice A1_0 l1_0.length c1_0), (.slice A1_1 l1_1.length c1_1)] 27 (0, 0))) ∧ Aside0 (wc.heap[gb144]? = some (.cells #[(.slice none 0 0), (.slice none 0 0)] 27 (0, 0))) ∧ Aside0 (Below w.heap.size w wc))
 case first =>
  have H := HC3.out
  clear HC3
  replace H := Option.bind_eq_some_iff.mp H
  obtain ⟨t145, A70, H⟩ := H
  replace H : (if t145 = true then ((impl_isCounter.f l1_0 l1_1).bind fun t146 => (impl_MergeCounter.j0 k (!t146) l0_0 l0_1 l1_0 l1_1)) else (impl_MergeCounter.j0 k true l0_0 l0_1 l1_0 l1_1)) = some (r1, r2, r3) := H
  have A7 := Aside0.mk A70
  clear A70
  by_cases c8 : t145 = true
  rotate_left
  ·replace c8 := Bool.eq_false_iff.mpr c8
   subst c8
   have H1 : (impl_MergeCounter.j0 k true l0_0 l0_1 l1_0 l1_1) = some (r1, r2, r3) := by rw [if_neg (show ¬ (false = true) by decide)] at H; exact H
   clear H
   have H := H1
   clear H1
   have H' := Aside0.mk H
   clear H
   have hnb17 := NB142_143.out
   have hnc17 := NB143_142.out
   have hnb18 := NB142_144.out
   have hnc18 := NB144_142.out
   have hcz19_0 : w6.cell? ⟨gb142, 0, none⟩ = some (.slice A0_0 l0_0.length c0_0) := bc_ BK142.out 0
   have hcz19_1 : w6.cell? ⟨gb142, 1, none⟩ = some (.slice A0_1 l0_1.length c0_1) := bc_ BK142.out 1
   have hfz19_0 := blk_frozen BK142.out 0
   have hfz19_1 := blk_frozen BK142.out 1
   go_wp2_with (first | ((with_reducible refine gate_callee (f := 35) rfl ?_); refine goesL_ (some 7) rfl rfl Try.func35 (by kernel_rfl) rfl #[.agg #[.slice A0_0 l0_0.length c0_0, .slice A0_1 l0_1.length c0_1]] rfl nc_ ?_; (with_reducible refine (impl_isCounter.calls _ _ l0_0 _ _ l0_1 false _ ?side1 ?side2 ?side3 ?side4 A7.out).mono ?_); (case side1 => exact kc_ (Kd.C_below HR0_0.out HB.out)); (case side2 => exact HC0_0.out); (case side3 => exact kc_ (Kd.C_below HR0_1.out HB.out)); (case side4 => exact HC0_1.out); rintro e w20 ⟨rfl, hb⟩; refine ⟨_, rfl, ?_⟩; replace BK142 := bb_ BK142 hb; replace BK143 := bb_ BK143 hb; replace BK144 := bb_ BK144 hb; replace HB := Aside0.mk (below_step bl_ hb); clear hb))
   go_meet
   case rel => exact ⟨_, (true), (by first | rfl | (simp; done) | (simp [*]; done)), H', ⟨by first | omega | exact Nat.le_refl _⟩, ⟨by exact kb_ BK142.out⟩, ⟨by exact kb_ BK143.out⟩, ⟨by exact kb_ BK144.out⟩, ⟨bl_⟩⟩
  subst c8
  have H1 : ((impl_isCounter.f l1_0 l1_1).bind fun t146 => (impl_MergeCounter.j0 k (!t146) l0_0 l0_1 l1_0 l1_1)) = some (r1, r2, r3) := by rw [if_pos rfl] at H; exact H
  clear H
  have H := H1
  clear H1
  replace H := Option.bind_eq_some_iff.mp H
  obtain ⟨t146, A90, H⟩ := H
  replace H : (impl_MergeCounter.j0 k (!t146) l0_0 l0_1 l1_0 l1_1) = some (r1, r2, r3) := H
  have A9 := Aside0.mk A90
  clear A90
  have H' := Aside0.mk H
  clear H
  have hnb10 := NB142_143.out
  have hnc10 := NB143_142.out
  have hnb11 := NB142_144.out
  have hnc11 := NB144_142.out
  have hcz12_0 : w6.cell? ⟨gb142, 0, none⟩ = some (.slice A0_0 l0_0.length c0_0) := bc_ BK142.out 0
  have hcz12_1 : w6.cell? ⟨gb142, 1, none⟩ = some (.slice A0_1 l0_1.length c0_1) := bc_ BK142.out 1
  have hfz12_0 := blk_frozen BK142.out 0
  have hfz12_1 := blk_frozen BK142.out 1
  go_wp2_with (first | ((with_reducible refine gate_callee (f := 35) rfl ?_); refine goesL_ (some 7) rfl rfl Try.func35 (by kernel_rfl) rfl #[.agg #[.slice A0_0 l0_0.length c0_0, .slice A0_1 l0_1.length c0_1]] rfl nc_ ?_; (with_reducible refine (impl_isCounter.calls _ _ l0_0 _ _ l0_1 true _ ?side1 ?side2 ?side3 ?side4 A7.out).mono ?_); (case side1 => exact kc_ (Kd.C_below HR0_0.out HB.out)); (case side2 => exact HC0_0.out); (case side3 => exact kc_ (Kd.C_below HR0_1.out HB.out)); (case side4 => exact HC0_1.out); rintro e w13 ⟨rfl, hb⟩; refine ⟨_, rfl, ?_⟩; replace BK142 := bb_ BK142 hb; replace BK143 := bb_ BK143 hb; replace BK144 := bb_ BK144 hb; replace HB := Aside0.mk (below_step bl_ hb); clear hb; have hnb14 := NB143_144.out; have hnc14 := NB144_143.out; have hcz15_0 : w13.cell? ⟨gb143, 0, none⟩ = some (.slice A1_0 l1_0.length c1_0) := bc_ BK143.out 0; have hcz15_1 : w13.cell? ⟨gb143, 1, none⟩ = some (.slice A1_1 l1_1.length c1_1) := bc_ BK143.out 1; have hfz15_0 := blk_frozen BK143.out 0; have hfz15_1 := blk_frozen BK143.out 1) | (go_at_call 35; (with_reducible refine (impl_isCounter.calls _ _ l1_0 _ _ l1_1 t146 _ ?side1 ?side2 ?side3 ?side4 A9.out).mono ?_); (case side1 => exact kc_ (Kd.C_below HR1_0.out HB.out)); (case side2 => exact HC1_0.out); (case side3 => exact kc_ (Kd.C_below HR1_1.out HB.out)); (case side4 => exact HC1_1.out); rintro e w16 ⟨rfl, hb⟩; replace BK142 := bb_ BK142 hb; replace BK143 := bb_ BK143 hb; replace BK144 := bb_ BK144 hb; replace HB := Aside0.mk (below_step bl_ hb); clear hb))
  go_meet
  case rel => exact ⟨_, (!t146), (by first | rfl | (simp; done) | (simp [*]; done)), H', ⟨by first | omega | exact Nat.le_refl _⟩, ⟨by exact kb_ BK142.out⟩, ⟨by exact kb_ BK143.out⟩, ⟨by exact kb_ BK144.out⟩, ⟨bl_⟩⟩
 clear HC3
 try clear c1
 try clear c2
 try clear p2
 try clear c3
 try clear c8
 try clear c10
 try clear c11
 try clear c14
 try clear c17
 try clear c18
 try clear hcz12_0
 try clear hcz12_1
 try clear hcz15_0
 try clear hcz15_1
 try clear hcz19_0
 try clear hcz19_1
 try clear hfz12_0
 try clear hfz12_1
 try clear hfz15_0
 try clear hfz15_1
 try clear hfz19_0
 try clear hfz19_1
 obtain ⟨kq, x13_2, rfl, HA, HJ2, BK142, BK143, BK144, HB⟩ := hcut
 cases kq with
 | zero => exact absurd HA.out (by simp [impl_MergeCounter.j0])
 | succ kj2 => ?_
 have H := HA.out
 clear HA
 simp only [impl_MergeCounter.j0] at H
 by_cases c21 : x13_2 = true
 ·subst c21
  have H1 : (some (([] : List Int), ([] : List Int), false)) = some (r1, r2, r3) := by rw [if_pos rfl] at H; exact H
  clear H
  have H := H1
  clear H1
  simp only [Option.some.injEq, Prod.mk.injEq] at H
  obtain ⟨rfl, rfl, rfl⟩ := H
  have hnb22 := NB144_142.out
  have hnc22 := NB142_144.out
  have hnb23 := NB144_143.out
  have hnc23 := NB143_144.out
  have hcz24_0 : wc.cell? ⟨gb144, 0, none⟩ = some (.slice none 0 0) := bc_ BK144.out 0
  have hcz24_1 : wc.cell? ⟨gb144, 1, none⟩ = some (.slice none 0 0) := bc_ BK144.out 1
  have hfz24_0 := blk_frozen BK144.out 0
  have hfz24_1 := blk_frozen BK144.out 1
  go_wp2
  refine bodyPost_ret (results_ct rfl _ _ gb144 27 #[.slice none 0 0, .slice none 0 0] (0, 0) _ rfl (by (with_reducible repeat (first | refine blk_drewN ?_ _ | refine blk_drew ?_ | refine blk_alloc ?_ _)); refine blk_put (cs := #[.slice none 0 0, .slice none 0 0]) ?_ 1 _ rfl; (with_reducible repeat (first | refine blk_drewN ?_ _ | refine blk_drew ?_ | refine blk_alloc ?_ _)); refine blk_put (cs := #[.slice none 0 0, .slice none 0 0]) ?_ 0 _ rfl; exact kb_ BK144.out) Try.underlying27 rfl (by kernel_rfl)) rfl ?_
  exact ⟨_, _, ng_, by first | exact Kd.R_nil _ _ _ _ _ | exact Kd.N_nil _ _ _ _ _ | exact Kd.V_nil _ _ _ _ _ | exact Kd.Q_nil _ _ _ _ _ | exact Kd.S_nil _ _ _ _ _, by first | exact Kd.R_nil _ _ _ _ _ | exact Kd.N_nil _ _ _ _ _ | exact Kd.V_nil _ _ _ _ _ | exact Kd.Q_nil _ _ _ _ _ | exact Kd.S_nil _ _ _ _ _, bl_⟩
 replace c21 := Bool.eq_false_iff.mpr c21
 subst c21
 have H1 : ((impl_greater.f kj2 l0_0 l1_0).bind fun t147 => ((impl_greater.f kj2 l0_1 l1_1).bind fun t150 => (some (t147, t150, true)))) = some (r1, r2, r3) := by rw [if_neg (show ¬ (false = true) by decide)] at H; exact H
 clear H
 have H := H1
 clear H1
 replace H := Option.bind_eq_some_iff.mp H
 obtain ⟨t147, A250, H⟩ := H
 replace H : ((impl_greater.f kj2 l0_1 l1_1).bind fun t150 => (some (t147, t150, true))) = some (r1, r2, r3) := H
 have A25 := Aside0.mk A250
 clear A250
 replace H := Option.bind_eq_some_iff.mp H
 obtain ⟨t150, A260, H⟩ := H
 replace H : (some (t147, t150, true)) = some (r1, r2, r3) := H
 have A26 := Aside0.mk A260
 clear A260
 simp only [Option.some.injEq, Prod.mk.injEq] at H
 obtain ⟨rfl, rfl, rfl⟩ := H
 try go_wp2
 replace BK142 := Aside0.mk (blk_drew BK142.out)
 replace BK143 := Aside0.mk (blk_drew BK143.out)
 replace BK144 := Aside0.mk (blk_drew BK144.out)
 replace HB := Aside0.mk (below_drew1 HB.out)
 refine start_ (n := 13) (S := fun w' => w'.cell? ⟨gb142, 0, none⟩ = some (.slice A0_0 l0_0.length c0_0) ∧ w'.cell? ⟨gb142, 1, none⟩ = some (.slice A0_1 l0_1.length c0_1) ∧ w'.cell? ⟨gb143, 0, none⟩ = some (.slice A1_0 l1_0.length c1_0) ∧ w'.cell? ⟨gb143, 1, none⟩ = some (.slice A1_1 l1_1.length c1_1)) (ds := []) #[false, false, false, false, false, false, false, false, false, false, false, false, false] (by kernel_rfl) rfl rfl ⟨bc_ BK142.out 0, bc_ BK142.out 1, bc_ BK143.out 0, bc_ BK143.out 1⟩ (fun hHeld => ?_); refine with_tabW impl_MergeCounter.tab3 impl_MergeCounter.bits3 (fun HT_ HW_ => ?_)
 generalize wc.drew = w27 at BK142 BK143 BK144 HB hHeld ⊢
 refine pu_ 0 (some 15) (h := ?_)
 refine pu_ 2 (some 17) (h := ?_)
 refine pu_ 5 (some 20) (h := ?_)
 refine pu_ 7 (some 22) (h := ?_)
 refine tk4_ 1 (some 16) (h := ?_)
 refine tk4_ 3 (some 18) (h := ?_)
 refine tk4_ 6 (some 21) (h := ?_)
 refine tk4_ 8 (some 23) (h := ?_)
 refine on_ 4 (some 19) (h := fun K hK => ?_)
 refine goes_ Try.func44 (by kernel_rfl) rfl #[.slice A0_0 l0_0.length c0_0, .slice A1_0 l1_0.length c1_0] (by rfl) rfl rfl nc_ ?_
 with_reducible refine (impl_greater.calls kj2 _ _ l0_0 _ _ l1_0 t147 _ ?side1 ?side2 ?side3 ?side4 A25.out).mono ?_
 (case side1 => exact kc_ (Kd.C_below HR0_0.out HB.out))
 (case side2 => exact HC0_0.out)
 (case side3 => exact kc_ (Kd.C_below HR1_0.out HB.out))
 (case side4 => exact HC1_0.out)
 rintro e w28 ⟨v148, rfl, ho0, hb⟩
 refine ⟨_, rfl, ?_⟩
 have HO149 := Aside0.mk (Kd.R_lower ho0 bz_)
 replace BK142 := bb_ BK142 hb
 replace BK143 := bb_ BK143 hb
 replace BK144 := bb_ BK144 hb
 replace HB := Aside0.mk (below_step bl_ hb)
 clear hb ho0
 refine hK.out _ _ ⟨bc_ BK142.out 0, bc_ BK142.out 1, bc_ BK143.out 0, bc_ BK143.out 1⟩ (fun hHeld => ?_)
 clear hK K
 refine norm_ nn_ ?_
 refine on_ 9 (some 24) (h := fun K hK => ?_)
 refine goes_ Try.func44 (by kernel_rfl) rfl #[.slice A0_1 l0_1.length c0_1, .slice A1_1 l1_1.length c1_1] (by rfl) rfl rfl nc_ ?_
 with_reducible refine (impl_greater.calls kj2 _ _ l0_1 _ _ l1_1 t150 _ ?side1 ?side2 ?side3 ?side4 A26.out).mono ?_
 (case side1 => exact kc_ (Kd.C_below HR0_1.out HB.out))
 (case side2 => exact HC0_1.out)
 (case side3 => exact kc_ (Kd.C_below HR1_1.out HB.out))
 (case side4 => exact HC1_1.out)
 rintro e w29 ⟨v151, rfl, ho0, hb⟩
 refine ⟨_, rfl, ?_⟩
 have HO152 := Aside0.mk (Kd.R_lower (rn_ ho0 HO149.out) bz_)
 replace HO149 := Aside0.mk (Kd.R_elder' (kr_ HO149.out) (Kd.R_base ho0) hb)
 replace BK142 := bb_ BK142 hb
 replace BK143 := bb_ BK143 hb
 replace BK144 := bb_ BK144 hb
 replace HB := Aside0.mk (below_step bl_ hb)
 clear hb ho0
 obtain ⟨Ao30, co30, eo30⟩ := Kd.R_slice HO152.out
 (first | subst eo30 | (injection eo30 with f1_ f2_ f3_; have f4_ := f1_.symm; have f5_ := f3_.symm; clear f1_ f2_ f3_; subst f4_; subst f5_))
 obtain ⟨Ao31, co31, eo31⟩ := Kd.R_slice HO149.out
 (first | subst eo31 | (injection eo31 with f1_ f2_ f3_; have f4_ := f1_.symm; have f5_ := f3_.symm; clear f1_ f2_ f3_; subst f4_; subst f5_))
 refine hK.out _ _ ⟨bc_ BK142.out 0, bc_ BK142.out 1, bc_ BK143.out 0, bc_ BK143.out 1⟩ (fun hHeld => ?_)
 clear hK K
 refine norm_ nn_ ?_
 refine pu_ 10 (some 25) (h := ?_)
 refine on_ 11 none (h := fun K hK => ?_)
 have hs32 : w29.cell? ⟨gb144, 0, none⟩ = some (.slice none 0 0) := bc_ BK144.out 0
 have hfs32 := blk_frozen BK144.out 0
 have hns32_0 := NB142_144.out
 have hns32_1 := NB143_144.out
 have hms32_0 := NB144_142.out
 have hms32_1 := NB144_143.out
 have hs33 : w29.cell? ⟨gb144, 1, none⟩ = some (.slice none 0 0) := bc_ BK144.out 1
 have hfs33 := blk_frozen BK144.out 1
 have hns33_0 := NB142_144.out
 have hns33_1 := NB143_144.out
 have hms33_0 := NB144_142.out
 have hms33_1 := NB144_143.out
 refine skip_ (w1 := ?_) (by rfl) rfl ?_ ?_
 rotate_left
 ·go_simp
  rfl
 refine hK.out _ _ ⟨((cell_far (p := ⟨gb144, _, none⟩) NB142_144.out _).trans (((cell_far (p := ⟨gb144, _, none⟩) NB142_144.out _).trans (hHeld.1)))), ((cell_far (p := ⟨gb144, _, none⟩) NB142_144.out _).trans (((cell_far (p := ⟨gb144, _, none⟩) NB142_144.out _).trans (hHeld.2.1)))), ((cell_far (p := ⟨gb144, _, none⟩) NB143_144.out _).trans (((cell_far (p := ⟨gb144, _, none⟩) NB143_144.out _).trans (hHeld.2.2.1)))), ((cell_far (p := ⟨gb144, _, none⟩) NB143_144.out _).trans (((cell_far (p := ⟨gb144, _, none⟩) NB143_144.out _).trans (hHeld.2.2.2))))⟩ (fun hHeld => ?_)
 clear hK K
 refine pu_ 12 (some 5) (h := ?_)
 refine done_ (done_of HT_.out (by kernel_rfl)) ?_
 try go_wp2
 refine bodyPost_ret (results_ct rfl _ _ gb144 27 #[.slice Ao31 t147.length co31, .slice Ao30 t150.length co30] (0, 0) _ rfl (by (with_reducible repeat (first | refine blk_drewN ?_ _ | refine blk_drew ?_ | refine blk_alloc ?_ _)); refine blk_put (cs := #[.slice Ao31 t147.length co31, .slice none 0 0]) ?_ 1 _ rfl; (with_reducible repeat (first | refine blk_drewN ?_ _ | refine blk_drew ?_ | refine blk_alloc ?_ _)); refine blk_put (cs := #[.slice none 0 0, .slice none 0 0]) ?_ 0 _ rfl; exact kb_ BK144.out) Try.underlying27 rfl (by kernel_rfl)) rfl ?_
 exact ⟨_, _, ng_, by exact kr_ (Kd.R_mono (Kd.R_far (p := ⟨gb144, 1, none⟩) (Kd.R_far (p := ⟨gb144, 0, none⟩) (Kd.R_types HO149.out BK144.out (by decide)) (fun _ hk => hk.2) (.slice Ao31 t147.length co31)) (fun _ hk => hk.2) (.slice Ao30 t150.length co30)) (fun _ hk => hk.1.2)), by exact kr_ (Kd.R_mono (Kd.R_far (p := ⟨gb144, 1, none⟩) (Kd.R_far (p := ⟨gb144, 0, none⟩) (Kd.R_types HO152.out BK144.out (by decide)) (fun _ hk => hk.2) (.slice Ao31 t147.length co31)) (fun _ hk => hk.2) (.slice Ao30 t150.length co30)) (fun _ hk => hk.1.2)), bl_⟩

end Go.Proofs.Ytcloilddgimamaa.PFC
