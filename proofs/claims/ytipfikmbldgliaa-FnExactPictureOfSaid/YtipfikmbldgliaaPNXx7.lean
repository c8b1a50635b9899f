/- What this text proves: the machine calls of these functions return what the plain functions say. Conditions: as each theorem says. Printed by a program of this session out of the translation. -/
import Derived.Test.YtipfikmbldgliaaPNXx0
import Derived.Test.YtipfikmbldgliaaPNXx6
namespace Go.Proofs.Ytipfikmbldgliaa.PNX
open Go.RowKit Go.Proofs.YtipfikmbldgliaaW.PrintWords Go.Proofs.YtipfikmbldgliaaW.PrintLast Go.Proofs.YtipfikmbldgliaaW.PrintMore
attribute [local go_sem] max2_int min2_int max_two min_two max_three min_three max_four min_four   -- for this text's walks alone
set_option linter.unusedVariables false
set_option linter.unusedSimpArgs false

/-! ### impl_newNet: function 64 -/
mutual
def impl_newNet.l0 : Nat → List Int → List Int → Int → Int → List (S92) → List (S95) → Option ((List (S92)) × (List (S95)) × Bool)
 | 0, _, _, _, _, _, _ => none
 | k + 1, x0, x14, x15, x16, x213000, x213001 => if x16 < x15 then (if 0 ≤ x16 then (if x16 < (x14.length : Int) then ((impl_in.f (rd x14 x16) 0 1000000).bind fun t214 => (if t214 = true then (if x213000.length < 5864062014805 then (impl_newNet.l1 k x0 x16 x14 x15 x16 (x0.length : Int) 0 (x213000 ++ [(⟨rd x14 x16, false, 0⟩ : S92)]) x213001) else (none)) else (some (([] : List (S92)), ([] : List (S95)), false)))) else (none)) else (none)) else (some (x213000, x213001, true))
def impl_newNet.l1 : Nat → List Int → Int → List Int → Int → Int → Int → Int → List (S92) → List (S95) → Option ((List (S92)) × (List (S95)) × Bool)
 | 0, _, _, _, _, _, _, _, _, _ => none
 | k + 1, x0, x5, x14, x15, x16, x33, x34, x213000, x213001 => if x34 < x33 then (if x34 = x5 then (impl_newNet.l1 k x0 x5 x14 x15 x16 x33 (wrap64 (x34 + 1)) x213000 x213001) else (if x213001.length < 1954687338268 then (impl_newNet.l1 k x0 x5 x14 x15 x16 x33 (wrap64 (x34 + 1)) x213000 (x213001 ++ [(⟨x5, x34, ([] : List (S103)), false, ([] : List Int)⟩ : S95)])) else (none))) else (impl_newNet.l0 k x0 x14 x15 (wrap64 (x16 + 1)) x213000 x213001)
end
def impl_newNet.f (k : Nat) (l0 : List Int) : Option ((List (S92)) × (List (S95)) × Bool) := (impl_in.f (l0.length : Int) 2 5).bind fun t211 => (if t211 = true then (impl_newNet.l0 k l0 l0 (l0.length : Int) 0 ([] : List (S92)) ([] : List (S95))) else (some (([] : List (S92)), ([] : List (S95)), false)))
theorem impl_newNet.mono_l : ∀ k, (∀ y0 y1 y2 y3 y4 y5, LeO (impl_newNet.l0 k y0 y1 y2 y3 y4 y5) (impl_newNet.l0 (k + 1) y0 y1 y2 y3 y4 y5)) ∧ (∀ y0 y1 y2 y3 y4 y5 y6 y7 y8, LeO (impl_newNet.l1 k y0 y1 y2 y3 y4 y5 y6 y7 y8) (impl_newNet.l1 (k + 1) y0 y1 y2 y3 y4 y5 y6 y7 y8))
 | 0 => ⟨fun _ _ _ _ _ _ r h => by simp [impl_newNet.l0] at h, fun _ _ _ _ _ _ _ _ _ r h => by simp [impl_newNet.l1] at h⟩
 | k + 1 => by
  obtain ⟨ih0, ih1⟩ := impl_newNet.mono_l k
  refine ⟨?_, ?_⟩
  ·intro y0 y1 y2 y3 y4 y5
   unfold impl_newNet.l0
   repeat' first
   | (with_reducible exact ih0 _ _ _ _ _ _)
   | (with_reducible exact ih1 _ _ _ _ _ _ _ _ _)
   | (with_reducible exact LeO.refl _)
   | (with_reducible exact LeO.none _)
   | (with_reducible refine LeO.ite ?_ ?_)
   | (with_reducible refine LeO.bind ?_ (fun _ => ?_))
   | exact ih0 _ _ _ _ _ _
   | exact ih1 _ _ _ _ _ _ _ _ _
   | exact LeO.none _
   | refine LeO.ite ?_ ?_
   | refine LeO.bind ?_ (fun _ => ?_)
  ·intro y0 y1 y2 y3 y4 y5 y6 y7 y8
   unfold impl_newNet.l1
   repeat' first
   | (with_reducible exact ih0 _ _ _ _ _ _)
   | (with_reducible exact ih1 _ _ _ _ _ _ _ _ _)
   | (with_reducible exact LeO.refl _)
   | (with_reducible exact LeO.none _)
   | (with_reducible refine LeO.ite ?_ ?_)
   | (with_reducible refine LeO.bind ?_ (fun _ => ?_))
   | exact ih0 _ _ _ _ _ _
   | exact ih1 _ _ _ _ _ _ _ _ _
   | exact LeO.none _
   | refine LeO.ite ?_ ?_
   | refine LeO.bind ?_ (fun _ => ?_)
theorem impl_newNet.mono : ∀ a0 k, LeO (impl_newNet.f k a0) (impl_newNet.f (k + 1) a0) := by
 intro a0 k
 obtain ⟨ih0, ih1⟩ := impl_newNet.mono_l k
 unfold impl_newNet.f
 repeat' first
   | (with_reducible exact ih0 _ _ _ _ _ _)
   | (with_reducible exact ih1 _ _ _ _ _ _ _ _ _)
   | (with_reducible exact LeO.refl _)
   | (with_reducible exact LeO.none _)
   | (with_reducible refine LeO.ite ?_ ?_)
   | (with_reducible refine LeO.bind ?_ (fun _ => ?_))
   | exact ih0 _ _ _ _ _ _
   | exact ih1 _ _ _ _ _ _ _ _ _
   | exact LeO.none _
   | refine LeO.ite ?_ ?_
   | refine LeO.bind ?_ (fun _ => ?_)
set_option maxHeartbeats 8000000 in
set_option maxRecDepth 100000 in
theorem impl_newNet.calls (k : Nat) (A0 : Option Addr) (c0 : Nat) (l0 : List Int) (r1 : List (S92)) (r2 : List (S95)) (r3 : Bool) (w : World) (hr0 : Kd.C (Kd.int .i64) w A0 l0.length l0) (hc0 : l0.length ≤ c0) (h : impl_newNet.f k l0 = some (r1, r2, r3)) :
  Calls Try.prog 64 #[.slice A0 l0.length c0] w fun e w' => ∃ v0_ v1_ : Value, e = .returned (.tuple #[.agg #[v0_, v1_], .bool r3]) ∧ Kd.R k92 92 w' w.heap.size (fun _ => True) v0_ r1 ∧ Kd.S k95 95 w' w.heap.size (fun _ => True) v1_ r2 ∧ Below w.heap.size w w' := by
 have hu53 := Try.underlying53
 have hu92 := Try.underlying92
 have hu95 := Try.underlying95
 have HR0 := Aside0.mk hr0
 have HC0 := Aside0.mk hc0
 clear hr0 hc0
 have HB := Aside0.mk (Below.refl w.heap.size w)
 have H : ((impl_in.f (l0.length : Int) 2 5).bind fun t211 => (if t211 = true then (impl_newNet.l0 k l0 l0 (l0.length : Int) 0 ([] : List (S92)) ([] : List (S95))) else (some (([] : List (S92)), ([] : List (S95)), false)))) = some (r1, r2, r3) := h
 clear h
 replace H := Option.bind_eq_some_iff.mp H
 obtain ⟨t211, A20, H⟩ := H
 replace H : (if t211 = true then (impl_newNet.l0 k l0 l0 (l0.length : Int) 0 ([] : List (S92)) ([] : List (S95))) else (some (([] : List (S92)), ([] : List (S95)), false))) = some (r1, r2, r3) := H
 have A2 := Aside0.mk A20
 clear A20
 by_cases c3 : t211 = true
 rotate_left
 ·replace c3 := Bool.eq_false_iff.mpr c3
  subst c3
  have H1 : (some (([] : List (S92)), ([] : List (S95)), false)) = some (r1, r2, r3) := by rw [if_neg (show ¬ (false = true) by decide)] at H; exact H
  clear H
  have H := H1
  clear H1
  simp only [Option.some.injEq, Prod.mk.injEq] at H
  obtain ⟨rfl, rfl, rfl⟩ := H
  go_enter Try.func64, Try.ntmps64
  go_wp2_with (first | ((with_reducible refine gate_dst (N := 2) rfl ?_); refine box_event rfl (N := 2) rfl (cs := #[.slice none 0 0, .slice none 0 0]) (t := 53) gs_ ?_; intro gb210 hg w34 hbox hb; have BK210 := Aside0.mk (hbox); have GW210 := Aside0.mk ((by rw [hg]; exact bz_ : w.heap.size ≤ gb210)); have GE210 := GW210; replace HB := Aside0.mk (below_step bl_ hb); clear hb hbox hg) | ((with_reducible refine gate_callee (f := 45) rfl ?_); refine goesL_ (some 10) rfl rfl Try.func45 (by kernel_rfl) rfl #[.int .i64 (l0.length : Int), .int .i64 2, .int .i64 5] rfl nc_ ?_; (with_reducible refine (impl_in.calls (l0.length : Int) 2 5 false _ A2.out).mono ?_); rintro e w' ⟨rfl, ⟨nd, rfl⟩⟩; refine ⟨_, rfl, ?_⟩; (try (rw [drewN_self w34]; generalize hq_ : World.drewN w34 _ = w34; have n0_ : Aside0 (w34.heap[gb210]? = some (.cells #[.slice none 0 0, .slice none 0 0] 53 (0, 0))) := ⟨by rw [← hq_]; exact (kb_ BK210.out)⟩; have n1_ : Aside0 (Below w.heap.size w w34) := ⟨by rw [← hq_]; exact bl_⟩; clear BK210 HB hq_; have BK210 := n0_; have HB := n1_; clear n0_ n1_)); have hcz35_0 : w34.cell? ⟨gb210, 0, none⟩ = some (.slice none 0 0) := bc_ BK210.out 0; have hcz35_1 : w34.cell? ⟨gb210, 1, none⟩ = some (.slice none 0 0) := bc_ BK210.out 1; have hfz35_0 := blk_frozen BK210.out 0; have hfz35_1 := blk_frozen BK210.out 1))
  refine bodyPost_ret (results_ct rfl _ _ gb210 53 #[.slice none 0 0, .slice none 0 0] (0, 0) _ rfl (by (with_reducible repeat (first | refine blk_drewN ?_ _ | refine blk_drew ?_ | refine blk_alloc ?_ _)); refine blk_put (cs := #[.slice none 0 0, .slice none 0 0]) ?_ 1 _ rfl; (with_reducible repeat (first | refine blk_drewN ?_ _ | refine blk_drew ?_ | refine blk_alloc ?_ _)); refine blk_put (cs := #[.slice none 0 0, .slice none 0 0]) ?_ 0 _ rfl; exact kb_ BK210.out) Try.underlying53 rfl (by kernel_rfl)) rfl ?_
  exact ⟨_, _, ng_, by first | exact Kd.R_nil _ _ _ _ _ | exact Kd.N_nil _ _ _ _ _ | exact Kd.V_nil _ _ _ _ _ | exact Kd.Q_nil _ _ _ _ _ | exact Kd.S_nil _ _ _ _ _, by first | exact Kd.S_nil _ _ _ _ _ | exact Kd.N_nil _ _ _ _ _ | exact Kd.V_nil _ _ _ _ _ | exact Kd.Q_nil _ _ _ _ _ | exact Kd.R_nil _ _ _ _ _, bl_⟩
 subst c3
 have H1 : (impl_newNet.l0 k l0 l0 (l0.length : Int) 0 ([] : List (S92)) ([] : List (S95))) = some (r1, r2, r3) := by rw [if_pos rfl] at H; exact H
 clear H
 have H := H1
 clear H1
 have H' := Aside0.mk H
 clear H
 go_enter Try.func64, Try.ntmps64
 go_wp2_with (first | ((with_reducible refine gate_dst (N := 2) rfl ?_); refine box_event rfl (N := 2) rfl (cs := #[.slice none 0 0, .slice none 0 0]) (t := 53) gs_ ?_; intro gb210 hg w4 hbox hb; have BK210 := Aside0.mk (hbox); have GW210 := Aside0.mk ((by rw [hg]; exact bz_ : w.heap.size ≤ gb210)); have GE210 := GW210; replace HB := Aside0.mk (below_step bl_ hb); clear hb hbox hg) | ((with_reducible refine gate_callee (f := 45) rfl ?_); refine goesL_ (some 10) rfl rfl Try.func45 (by kernel_rfl) rfl #[.int .i64 (l0.length : Int), .int .i64 2, .int .i64 5] rfl nc_ ?_; (with_reducible refine (impl_in.calls (l0.length : Int) 2 5 true _ A2.out).mono ?_); rintro e w' ⟨rfl, ⟨nd, rfl⟩⟩; refine ⟨_, rfl, ?_⟩; (try (rw [drewN_self w4]; generalize hq_ : World.drewN w4 _ = w4; have n0_ : Aside0 (w4.heap[gb210]? = some (.cells #[.slice none 0 0, .slice none 0 0] 53 (0, 0))) := ⟨by rw [← hq_]; exact (kb_ BK210.out)⟩; have n1_ : Aside0 (Below w.heap.size w w4) := ⟨by rw [← hq_]; exact bl_⟩; clear BK210 HB hq_; have BK210 := n0_; have HB := n1_; clear n0_ n1_))) | ((with_reducible refine gate_dst (N := 4) rfl ?_); refine box_event rfl (N := 4) rfl (cs := #[.slice none 0 0, .slice none 0 0]) (t := 53) gs_ ?_; intro gb212 hg w5 hbox hb; have BK212 := Aside0.mk (hbox); have GW212 := Aside0.mk ((by rw [hg]; exact bz_ : w.heap.size ≤ gb212)); have GE212 := GW212; replace HB := Aside0.mk (below_step bl_ hb); have NB210_212 := nl_ hg BK210; have NB212_210 := nm_ hg BK210; replace BK210 := bb_ BK210 hb; clear hb hbox hg; have hnb6 := NB212_210.out; have hnc6 := NB210_212.out; have hcz7_0 : w5.cell? ⟨gb212, 0, none⟩ = some (.slice none 0 0) := bc_ BK212.out 0; have hcz7_1 : w5.cell? ⟨gb212, 1, none⟩ = some (.slice none 0 0) := bc_ BK212.out 1; have hfz7_0 := blk_frozen BK212.out 0; have hfz7_1 := blk_frozen BK212.out 1))
 go_loopg [16] k (fun kq v16 w' => ∃ (x16_1 : Int) (x213000_1 : List (S92)) (x213001_1 : List (S95)) (u213000 : Value) (u213001 : Value), v16 = .int .i64 x16_1 ∧ Aside0 (impl_newNet.l0 kq l0 l0 (l0.length : Int) x16_1 x213000_1 x213001_1 = some (r1, r2, r3)) ∧ Aside0 (kq ≤ k) ∧ Aside0 (Kd.R k92 92 w' w.heap.size (fun _ => True) u213000 x213000_1) ∧ Aside0 (Kd.S k95 95 w' w.heap.size (fun _ => True) u213001 x213001_1) ∧ Aside0 (w'.heap[gb210]? = some (.cells #[(.slice none 0 0), (.slice none 0 0)] 53 (0, 0))) ∧ Aside0 (w'.heap[gb212]? = some (.cells #[u213000, u213001] 53 (0, 0))) ∧ Aside0 (Below w.heap.size w w'))
 case atStart => exact ⟨(0), (([] : List (S92))), (([] : List (S95))), (.slice none 0 0), (.slice none 0 0), (by first | rfl | (simp; done) | (simp [*]; done)), H', ⟨Nat.le_refl _⟩, ⟨by first | exact Kd.R_nil _ _ _ _ _ | exact Kd.N_nil _ _ _ _ _ | exact Kd.V_nil _ _ _ _ _ | exact Kd.Q_nil _ _ _ _ _ | exact Kd.S_nil _ _ _ _ _⟩, ⟨by first | exact Kd.S_nil _ _ _ _ _ | exact Kd.N_nil _ _ _ _ _ | exact Kd.V_nil _ _ _ _ _ | exact Kd.Q_nil _ _ _ _ _ | exact Kd.R_nil _ _ _ _ _⟩, ⟨kz_⟩, ⟨by (with_reducible repeat (first | refine blk_drewN ?_ _ | refine blk_drew ?_ | refine blk_alloc ?_ _)); refine blk_put (cs := #[.slice none 0 0, .slice none 0 0]) ?_ 1 _ rfl; (with_reducible repeat (first | refine blk_drewN ?_ _ | refine blk_drew ?_ | refine blk_alloc ?_ _)); refine blk_put (cs := #[.slice none 0 0, .slice none 0 0]) ?_ 0 _ rfl; exact kb_ BK212.out⟩, ⟨bl_⟩⟩
 clear H'
 try clear p2
 try clear c3
 try clear c4
 try clear c6
 try clear hcz7_0
 try clear hcz7_1
 try clear hfz7_0
 try clear hfz7_1
 obtain ⟨x16_1, x213000_1, x213001_1, u213000, u213001, rfl, HA, HK1, HO_213000, HO_213001, BK210, BK212, HB⟩ := hrel
 cases gk with
 | zero => exact absurd HA.out (by simp [impl_newNet.l0])
 | succ k1 => ?_
 have H := HA.out
 clear HA
 simp only [impl_newNet.l0] at H
 by_cases c8 : x16_1 < (l0.length : Int)
 rotate_left
 ·rw [if_neg c8] at H
  have c8b0 : decide (x16_1 < (l0.length : Int)) = false := decide_eq_false c8
  clear c8
  simp only [Option.some.injEq, Prod.mk.injEq] at H
  obtain ⟨rfl, rfl, rfl⟩ := H
  have hnb29 := NB212_210.out
  have hnc29 := NB210_212.out
  have hcz30_0 : wr.cell? ⟨gb212, 0, none⟩ = some (u213000) := bc_ BK212.out 0
  have hcz30_1 : wr.cell? ⟨gb212, 1, none⟩ = some (u213001) := bc_ BK212.out 1
  have hfz30_0 := blk_frozen BK212.out 0
  have hfz30_1 := blk_frozen BK212.out 1
  obtain ⟨Ao31, co31, eo31⟩ := Kd.R_slice HO_213000.out
  subst eo31
  have hcz32_0 : wr.cell? ⟨gb210, 0, none⟩ = some (.slice none 0 0) := bc_ BK210.out 0
  have hcz32_1 : wr.cell? ⟨gb210, 1, none⟩ = some (.slice none 0 0) := bc_ BK210.out 1
  have hfz32_0 := blk_frozen BK210.out 0
  have hfz32_1 := blk_frozen BK210.out 1
  obtain ⟨Ao33, co33, eo33⟩ := Kd.S_slice HO_213001.out
  subst eo33
  go_wp2
  refine bodyPost_ret (results_ct rfl _ _ gb210 53 #[.slice Ao31 x213000_1.length co31, .slice Ao33 x213001_1.length co33] (0, 0) _ rfl (by (with_reducible repeat (first | refine blk_drewN ?_ _ | refine blk_drew ?_ | refine blk_alloc ?_ _)); refine blk_put (cs := #[.slice Ao31 x213000_1.length co31, .slice none 0 0]) ?_ 1 _ rfl; (with_reducible repeat (first | refine blk_drewN ?_ _ | refine blk_drew ?_ | refine blk_alloc ?_ _)); refine blk_put (cs := #[.slice none 0 0, .slice none 0 0]) ?_ 0 _ rfl; exact kb_ BK210.out) Try.underlying53 rfl (by kernel_rfl)) rfl ?_
  exact ⟨_, _, ng_, by exact kr_ (Kd.R_mono (Kd.R_far (p := ⟨gb210, 1, none⟩) (Kd.R_far (p := ⟨gb210, 0, none⟩) (Kd.R_types HO_213000.out BK210.out (by decide)) (fun _ hk => hk.2) (.slice Ao31 x213000_1.length co31)) (fun _ hk => hk.2) (.slice Ao33 x213001_1.length co33)) (fun _ hk => trivial)), by (with_reducible repeat (first | apply Kd.S_alloc | apply Kd.S_drewN | apply Kd.S_drew)); exact Kd.S_mono (Kd.S_far (p := ⟨gb210, 1, none⟩) (Kd.S_far (p := ⟨gb210, 0, none⟩) (Kd.S_types HO_213001.out BK210.out (by decide)) (fun _ hk => hk.2) (.slice Ao31 x213000_1.length co31)) (fun _ hk => hk.2) (.slice Ao33 x213001_1.length co33)) (fun _ hk => trivial), bl_⟩
 rw [if_pos c8] at H
 have c8b0 : decide (x16_1 < (l0.length : Int)) = true := decide_eq_true c8
 clear c8
 by_cases c9 : 0 ≤ x16_1
 rotate_left
 ·rw [if_neg c9] at H
  exact absurd H (by simp)
 rw [if_pos c9] at H
 have c9b0 : decide (0 ≤ x16_1) = true := decide_eq_true c9
 clear c9
 by_cases c10 : x16_1 < (l0.length : Int)
 rotate_left
 ·rw [if_neg c10] at H
  exact absurd H (by simp)
 rw [if_pos c10] at H
 have c10b0 : decide (x16_1 < (l0.length : Int)) = true := decide_eq_true c10
 clear c10
 replace H := Option.bind_eq_some_iff.mp H
 obtain ⟨t214, A110, H⟩ := H
 replace H : (if t214 = true then (if x213000_1.length < 5864062014805 then (impl_newNet.l1 k1 l0 x16_1 l0 (l0.length : Int) x16_1 (l0.length : Int) 0 (x213000_1 ++ [(⟨rd l0 x16_1, false, 0⟩ : S92)]) x213001_1) else (none)) else (some (([] : List (S92)), ([] : List (S95)), false))) = some (r1, r2, r3) := H
 have A11 := Aside0.mk A110
 clear A110
 by_cases c12 : t214 = true
 rotate_left
 ·replace c12 := Bool.eq_false_iff.mpr c12
  subst c12
  have H1 : (some (([] : List (S92)), ([] : List (S95)), false)) = some (r1, r2, r3) := by rw [if_neg (show ¬ (false = true) by decide)] at H; exact H
  clear H
  have H := H1
  clear H1
  simp only [Option.some.injEq, Prod.mk.injEq] at H
  obtain ⟨rfl, rfl, rfl⟩ := H
  have p213 : 0 ≤ (x16_1 : Int) := of_decide_eq_true (by first | (with_reducible assumption) | assumption)
  have q213 : x16_1 < (l0.length : Int) := of_decide_eq_true (by first | (with_reducible assumption) | assumption)
  obtain ⟨ad213, e213, hx213_0⟩ := Kd.at_int HR0.out x16_1 p213 q213
  cases e213
  replace hx213_0 := (HB.out.cell (World.block_lt_of_cell? w _ hx213_0)).trans hx213_0
  replace p213 := eq_true p213
  replace q213 := eq_true q213
  go_wp2_with (first | ((with_reducible refine gate_callee (f := 45) rfl ?_); refine goesL_ (some 22) rfl rfl Try.func45 (by kernel_rfl) rfl #[.int .i64 (rd l0 x16_1), .int .i64 0, .int .i64 1000000] rfl nc_ ?_; (with_reducible refine (impl_in.calls (rd l0 x16_1) 0 1000000 false _ A11.out).mono ?_); rintro e w' ⟨rfl, ⟨nd, rfl⟩⟩; refine ⟨_, rfl, ?_⟩; (try (rw [drewN_self wr]; generalize hq_ : World.drewN wr _ = wr; have n0_ : Aside0 (Kd.R k92 92 wr w.heap.size (fun _ => True) u213000 x213000_1) := ⟨by rw [← hq_]; exact (kr_ HO_213000.out)⟩; have n1_ : Aside0 (Kd.S k95 95 wr w.heap.size (fun _ => True) u213001 x213001_1) := ⟨by rw [← hq_]; exact (by (with_reducible repeat (first | apply Kd.S_alloc | apply Kd.S_drewN | apply Kd.S_drew)); exact HO_213001.out)⟩; have n2_ : Aside0 (wr.heap[gb210]? = some (.cells #[.slice none 0 0, .slice none 0 0] 53 (0, 0))) := ⟨by rw [← hq_]; exact (kb_ BK210.out)⟩; have n3_ : Aside0 (wr.heap[gb212]? = some (.cells #[u213000, u213001] 53 (0, 0))) := ⟨by rw [← hq_]; exact (kb_ BK212.out)⟩; have n4_ : Aside0 (Below w.heap.size w wr) := ⟨by rw [← hq_]; exact bl_⟩; clear HO_213000 HO_213001 BK210 BK212 HB hq_; have HO_213000 := n0_; have HO_213001 := n1_; have BK210 := n2_; have BK212 := n3_; have HB := n4_; clear n0_ n1_ n2_ n3_ n4_)); have hnb27 := NB210_212.out; have hnc27 := NB212_210.out; have hcz28_0 : wr.cell? ⟨gb210, 0, none⟩ = some (.slice none 0 0) := bc_ BK210.out 0; have hcz28_1 : wr.cell? ⟨gb210, 1, none⟩ = some (.slice none 0 0) := bc_ BK210.out 1; have hfz28_0 := blk_frozen BK210.out 0; have hfz28_1 := blk_frozen BK210.out 1))
  refine bodyPost_ret (results_ct rfl _ _ gb210 53 #[.slice none 0 0, .slice none 0 0] (0, 0) _ rfl (by (with_reducible repeat (first | refine blk_drewN ?_ _ | refine blk_drew ?_ | refine blk_alloc ?_ _)); refine blk_put (cs := #[.slice none 0 0, .slice none 0 0]) ?_ 1 _ rfl; (with_reducible repeat (first | refine blk_drewN ?_ _ | refine blk_drew ?_ | refine blk_alloc ?_ _)); refine blk_put (cs := #[.slice none 0 0, .slice none 0 0]) ?_ 0 _ rfl; exact kb_ BK210.out) Try.underlying53 rfl (by kernel_rfl)) rfl ?_
  exact ⟨_, _, ng_, by first | exact Kd.R_nil _ _ _ _ _ | exact Kd.N_nil _ _ _ _ _ | exact Kd.V_nil _ _ _ _ _ | exact Kd.Q_nil _ _ _ _ _ | exact Kd.S_nil _ _ _ _ _, by first | exact Kd.S_nil _ _ _ _ _ | exact Kd.N_nil _ _ _ _ _ | exact Kd.V_nil _ _ _ _ _ | exact Kd.Q_nil _ _ _ _ _ | exact Kd.R_nil _ _ _ _ _, bl_⟩
 subst c12
 have H1 : (if x213000_1.length < 5864062014805 then (impl_newNet.l1 k1 l0 x16_1 l0 (l0.length : Int) x16_1 (l0.length : Int) 0 (x213000_1 ++ [(⟨rd l0 x16_1, false, 0⟩ : S92)]) x213001_1) else (none)) = some (r1, r2, r3) := by rw [if_pos rfl] at H; exact H
 clear H
 have H := H1
 clear H1
 by_cases c13 : x213000_1.length < 5864062014805
 rotate_left
 ·rw [if_neg c13] at H
  exact absurd H (by simp)
 rw [if_pos c13] at H
 have LMc13 := Aside0.mk c13
 clear c13
 obtain ⟨y215, hy215⟩ : ∃ y_ : List (S92), y_ = (x213000_1 ++ [(⟨rd l0 x16_1, false, 0⟩ : S92)]) := ⟨_, rfl⟩
 replace H : (impl_newNet.l1 k1 l0 x16_1 l0 (l0.length : Int) x16_1 (l0.length : Int) 0 y215 x213001_1) = some (r1, r2, r3) := by first | (rw [hy215]; with_reducible exact H) | (have H2_ := (Option.bind_some _ _).symm.trans H; rw [hy215]; with_reducible exact H2_) | (have H2_ := (Option.bind_some _ _).symm.trans H; with_reducible exact H2_) | with_reducible exact H | (rw [hy215]; exact H) | exact H
 have Ny215 := Aside0.mk hy215
 clear hy215
 have H' := Aside0.mk H
 clear H
 have p213 : 0 ≤ (x16_1 : Int) := of_decide_eq_true (by first | (with_reducible assumption) | assumption)
 have q213 : x16_1 < (l0.length : Int) := of_decide_eq_true (by first | (with_reducible assumption) | assumption)
 obtain ⟨ad213, e213, hx213_0⟩ := Kd.at_int HR0.out x16_1 p213 q213
 cases e213
 replace hx213_0 := (HB.out.cell (World.block_lt_of_cell? w _ hx213_0)).trans hx213_0
 replace p213 := eq_true p213
 replace q213 := eq_true q213
 go_wp2_with (first | ((with_reducible refine gate_callee (f := 45) rfl ?_); refine goesL_ (some 22) rfl rfl Try.func45 (by kernel_rfl) rfl #[.int .i64 (rd l0 x16_1), .int .i64 0, .int .i64 1000000] rfl nc_ ?_; (with_reducible refine (impl_in.calls (rd l0 x16_1) 0 1000000 true _ A11.out).mono ?_); rintro e w' ⟨rfl, ⟨nd, rfl⟩⟩; refine ⟨_, rfl, ?_⟩; (try (rw [drewN_self wr]; generalize hq_ : World.drewN wr _ = wr; have n0_ : Aside0 (Kd.R k92 92 wr w.heap.size (fun _ => True) u213000 x213000_1) := ⟨by rw [← hq_]; exact (kr_ HO_213000.out)⟩; have n1_ : Aside0 (Kd.S k95 95 wr w.heap.size (fun _ => True) u213001 x213001_1) := ⟨by rw [← hq_]; exact (by (with_reducible repeat (first | apply Kd.S_alloc | apply Kd.S_drewN | apply Kd.S_drew)); exact HO_213001.out)⟩; have n2_ : Aside0 (wr.heap[gb210]? = some (.cells #[.slice none 0 0, .slice none 0 0] 53 (0, 0))) := ⟨by rw [← hq_]; exact (kb_ BK210.out)⟩; have n3_ : Aside0 (wr.heap[gb212]? = some (.cells #[u213000, u213001] 53 (0, 0))) := ⟨by rw [← hq_]; exact (kb_ BK212.out)⟩; have n4_ : Aside0 (Below w.heap.size w wr) := ⟨by rw [← hq_]; exact bl_⟩; clear HO_213000 HO_213001 BK210 BK212 HB hq_; have HO_213000 := n0_; have HO_213001 := n1_; have BK210 := n2_; have BK212 := n3_; have HB := n4_; clear n0_ n1_ n2_ n3_ n4_)); have hnb14 := NB212_210.out; have hnc14 := NB210_212.out; have hcz15_0 : wr.cell? ⟨gb212, 0, none⟩ = some (u213000) := bc_ BK212.out 0; have hcz15_1 : wr.cell? ⟨gb212, 1, none⟩ = some (u213001) := bc_ BK212.out 1; have hfz15_0 := blk_frozen BK212.out 0; have hfz15_1 := blk_frozen BK212.out 1) | ((with_reducible refine gate_builtin (b := .append) (xs := #[.tmp 26, .tmp 29]) rfl ?_); at_builtin; refine Kd.R_append k92 (w0 := w) w.heap.size rfl (.tmp 26) (.tmp 29) 50 92 (.agg #[(.int .i64 0), (.bool false), (.int .i64 0)]) 24 rfl Try.underlying50 info92 rfl (by decide) (by omega) u213000 x213000_1 (⟨rd l0 x16_1, false, 0⟩ : S92) [.int .i64 (rd l0 x16_1), .bool false, .int .i64 0] (fun _ => True) (fun _ => False) rfl rfl ?aP (fun _ hk => hk.elim) ?aF ?aO ?aB ?aS ?aL ?_; (case aP => exact k92_mkM _ _ _ (⟨rd l0 x16_1, false, 0⟩ : S92)); (case aB => exact bl_); (case aF => exact (fun _ _ => trivial)); (case aO => exact (kr_ HO_213000.out)); (case aS => exact bz_); (case aL => have := LMc13.out; omega); intro v216 w16 ho hb hg hat; rw [← Ny215.out] at ho; replace HO_213001 := Aside0.mk (Kd.S_over' (by (with_reducible repeat (first | apply Kd.S_alloc | apply Kd.S_drewN | apply Kd.S_drew)); exact HO_213001.out) (Kd.R_typed (kr_ HO_213000.out)) (by decide) hg); replace BK210 := bgr_ BK210 hg HO_213000 BK210; replace BK212 := bgr_ BK212 hg HO_213000 BK212; replace HB := Aside0.mk (hb); have HO217 := Aside0.mk (ho); clear HO_213000 ho hb hg hat; obtain ⟨Ao17, co17, eo17⟩ := Kd.R_slice HO217.out; subst eo17; have hcz18_0 : w16.cell? ⟨gb212, 0, none⟩ = some (u213000) := bc_ BK212.out 0; have hcz18_1 : w16.cell? ⟨gb212, 1, none⟩ = some (u213001) := bc_ BK212.out 1; have hfz18_0 := blk_frozen BK212.out 0; have hfz18_1 := blk_frozen BK212.out 1))
 go_loopg [34] k1 (fun kq v34 w' => ∃ (x34_2 : Int) (x213001_2 : List (S95)) (u213001 : Value), v34 = .int .i64 x34_2 ∧ Aside0 (impl_newNet.l1 kq l0 x16_1 l0 (l0.length : Int) x16_1 (l0.length : Int) x34_2 y215 x213001_2 = some (r1, r2, r3)) ∧ Aside0 (kq ≤ k1) ∧ Aside0 (Kd.R k92 92 w' w.heap.size (fun _ => True) (.slice Ao17 y215.length co17) y215) ∧ Aside0 (Kd.S k95 95 w' w.heap.size (fun _ => True) u213001 x213001_2) ∧ Aside0 (w'.heap[gb210]? = some (.cells #[(.slice none 0 0), (.slice none 0 0)] 53 (0, 0))) ∧ Aside0 (w'.heap[gb212]? = some (.cells #[(.slice Ao17 y215.length co17), u213001] 53 (0, 0))) ∧ Aside0 (Below w.heap.size w w'))
 case atStart => exact ⟨(0), (x213001_1), (u213001), (by first | rfl | (simp; done) | (simp [*]; done)), H', ⟨Nat.le_refl _⟩, ⟨by exact kr_ (Kd.R_mono (Kd.R_far (p := ⟨gb212, 0, none⟩) (Kd.R_types HO217.out BK212.out (by decide)) (fun _ hk => hk.2) (.slice Ao17 y215.length co17)) (fun _ hk => trivial))⟩, ⟨by (with_reducible repeat (first | apply Kd.S_alloc | apply Kd.S_drewN | apply Kd.S_drew)); exact Kd.S_mono (Kd.S_far (p := ⟨gb212, 0, none⟩) (Kd.S_types HO_213001.out BK212.out (by decide)) (fun _ hk => hk.2) (.slice Ao17 y215.length co17)) (fun _ hk => trivial)⟩, ⟨kz_⟩, ⟨by (with_reducible repeat (first | refine blk_drewN ?_ _ | refine blk_drew ?_ | refine blk_alloc ?_ _)); refine blk_put (cs := #[u213000, u213001]) ?_ 0 _ rfl; exact kb_ BK212.out⟩, ⟨bl_⟩⟩
 clear H'
 try clear c1
 try clear p2
 try clear q2
 try clear hx2
 try clear c3
 try clear c4
 try clear c6
 try clear c8
 try clear c8b0
 try clear c9
 try clear c9b0
 try clear c10
 try clear c10b0
 try clear c12
 try clear c13
 try clear c14
 try clear hcz15_0
 try clear hcz15_1
 try clear hcz18_0
 try clear hcz18_1
 try clear hcz7_0
 try clear hcz7_1
 try clear hfz15_0
 try clear hfz15_1
 try clear hfz18_0
 try clear hfz18_1
 try clear hfz7_0
 try clear hfz7_1
 try clear hx213_0
 try clear p2
 try clear p213
 try clear q213
 obtain ⟨x34_2, x213001_2, u213001, rfl, HA, HK2, HO_213000, HO_213001, BK210, BK212, HB⟩ := hrel
 cases gk with
 | zero => exact absurd HA.out (by simp [impl_newNet.l1])
 | succ k2 => ?_
 have H := HA.out
 clear HA
 simp only [impl_newNet.l1] at H
 by_cases c19 : x34_2 < (l0.length : Int)
 rotate_left
 ·rw [if_neg c19] at H
  have c19b0 : decide (x34_2 < (l0.length : Int)) = false := decide_eq_false c19
  clear c19
  have H' := Aside0.mk H
  clear H
  go_wp2
  go_roundg k2
  case measure => have := HK1.out; have := HK2.out; omega
  case rel => exact ⟨(wrap64 (x16_1 + 1)), (y215), (x213001_2), (.slice Ao17 y215.length co17), (u213001), (by first | rfl | (simp; done) | (simp [*]; done)), H', ⟨by have := HK1.out; have := HK2.out; omega⟩, ⟨by exact kr_ HO_213000.out⟩, ⟨by (with_reducible repeat (first | apply Kd.S_alloc | apply Kd.S_drewN | apply Kd.S_drew)); exact HO_213001.out⟩, ⟨by exact kb_ BK210.out⟩, ⟨by exact kb_ BK212.out⟩, ⟨bl_⟩⟩
 rw [if_pos c19] at H
 have c19b0 : decide (x34_2 < (l0.length : Int)) = true := decide_eq_true c19
 clear c19
 by_cases c20 : x34_2 = x16_1
 ·rw [if_pos c20] at H
  have c20b0 : (x34_2 == x16_1) = true := beq_iff_eq.mpr c20
  have c20b1 : (x34_2 != x16_1) = false := bne_eq_false_iff_eq.mpr c20
  clear c20
  have H' := Aside0.mk H
  clear H
  go_wp2
  go_roundg k2
  case measure => have := HK1.out; have := HK2.out; omega
  case rel => exact ⟨(wrap64 (x34_2 + 1)), (x213001_2), (u213001), (by first | rfl | (simp; done) | (simp [*]; done)), H', ⟨by have := HK1.out; have := HK2.out; omega⟩, ⟨by exact kr_ HO_213000.out⟩, ⟨by (with_reducible repeat (first | apply Kd.S_alloc | apply Kd.S_drewN | apply Kd.S_drew)); exact HO_213001.out⟩, ⟨by exact kb_ BK210.out⟩, ⟨by exact kb_ BK212.out⟩, ⟨bl_⟩⟩
 rw [if_neg c20] at H
 have c20b0 : (x34_2 == x16_1) = false := beq_eq_false_iff_ne.mpr c20
 have c20b1 : (x34_2 != x16_1) = true := bne_iff_ne.mpr c20
 by_cases c21 : x213001_2.length < 1954687338268
 rotate_left
 ·rw [if_neg c21] at H
  exact absurd H (by simp)
 rw [if_pos c21] at H
 have LMc21 := Aside0.mk c21
 clear c21
 obtain ⟨y218, hy218⟩ : ∃ y_ : List (S95), y_ = (x213001_2 ++ [(⟨x16_1, x34_2, ([] : List (S103)), false, ([] : List Int)⟩ : S95)]) := ⟨_, rfl⟩
 replace H : (impl_newNet.l1 k2 l0 x16_1 l0 (l0.length : Int) x16_1 (l0.length : Int) (wrap64 (x34_2 + 1)) y215 y218) = some (r1, r2, r3) := by first | (rw [hy218]; with_reducible exact H) | (have H2_ := (Option.bind_some _ _).symm.trans H; rw [hy218]; with_reducible exact H2_) | (have H2_ := (Option.bind_some _ _).symm.trans H; with_reducible exact H2_) | with_reducible exact H | (rw [hy218]; exact H) | exact H
 have Ny218 := Aside0.mk hy218
 clear hy218
 have H' := Aside0.mk H
 clear H
 have hnb22 := NB212_210.out
 have hnc22 := NB210_212.out
 have hcz23_0 : wr.cell? ⟨gb212, 0, none⟩ = some (.slice Ao17 y215.length co17) := bc_ BK212.out 0
 have hcz23_1 : wr.cell? ⟨gb212, 1, none⟩ = some (u213001) := bc_ BK212.out 1
 have hfz23_0 := blk_frozen BK212.out 0
 have hfz23_1 := blk_frozen BK212.out 1
 go_wp2_with (first | ((with_reducible refine gate_builtin (b := .append) (xs := #[.tmp 41, .tmp 45]) rfl ?_); at_builtin; refine Kd.S_append k95 (w0 := w) w.heap.size rfl (.tmp 41) (.tmp 45) 51 95 (.agg #[(.int .i64 0), (.int .i64 0), (.slice none 0 0), (.bool false), (.slice none 0 0)]) 72 rfl Try.underlying51 info95 rfl (by decide) (by omega) u213001 x213001_2 (⟨x16_1, x34_2, ([] : List (S103)), false, ([] : List Int)⟩ : S95) [.int .i64 x16_1, .int .i64 x34_2, .slice none 0 0, .bool false, .slice none 0 0] (fun _ => True) (fun _ => False) rfl rfl ?aP (fun k_ hk_ => hk_.elim) ?aF ?aO ?aB ?aS ?aL ?_; (case aP => exact k95_mkM _ _ _ (⟨x16_1, x34_2, ([] : List (S103)), false, ([] : List Int)⟩ : S95) (Kd.R_nil _ _ _ _ _) (Kd.R_nil _ _ _ _ _)); (case aB => exact bl_); (case aF => exact (fun _ _ => trivial)); (case aO => exact (by (with_reducible repeat (first | apply Kd.S_alloc | apply Kd.S_drewN | apply Kd.S_drew)); exact Kd.S_mono HO_213001.out (fun k_ hk => ⟨trivial, fun e_ => e_⟩))); (case aS => exact bz_); (case aL => have := LMc21.out; omega); intro v219 w24 ho hb hg hat; rw [← Ny218.out] at ho; replace HO_213000 := Aside0.mk (Kd.R_over' (kr_ HO_213000.out) (Kd.S_typed (by (with_reducible repeat (first | apply Kd.S_alloc | apply Kd.S_drewN | apply Kd.S_drew)); exact HO_213001.out)) (by decide) hg); replace BK210 := Aside0.mk (blk_grown (kb_ BK210.out) hg (Kd.S_ne HO_213001.out BK210.out (by decide))); replace BK212 := Aside0.mk (blk_grown (kb_ BK212.out) hg (Kd.S_ne HO_213001.out BK212.out (by decide))); replace HB := Aside0.mk (hb); have HO220 := Aside0.mk (ho); clear HO_213001 ho hb hg hat; obtain ⟨Ao25, co25, eo25⟩ := Kd.S_slice HO220.out; subst eo25; have hcz26_0 : w24.cell? ⟨gb212, 0, none⟩ = some (.slice Ao17 y215.length co17) := bc_ BK212.out 0; have hcz26_1 : w24.cell? ⟨gb212, 1, none⟩ = some (u213001) := bc_ BK212.out 1; have hfz26_0 := blk_frozen BK212.out 0; have hfz26_1 := blk_frozen BK212.out 1))
 go_roundg k2
 case measure => have := HK1.out; have := HK2.out; omega
 case rel => exact ⟨(wrap64 (x34_2 + 1)), (y218), (.slice Ao25 y218.length co25), (by first | rfl | (simp; done) | (simp [*]; done)), H', ⟨by have := HK1.out; have := HK2.out; omega⟩, ⟨by exact kr_ (Kd.R_mono (Kd.R_far (p := ⟨gb212, 1, none⟩) (Kd.R_types HO_213000.out BK212.out (by decide)) (fun _ hk => hk.2) (.slice Ao25 y218.length co25)) (fun _ hk => trivial))⟩, ⟨by (with_reducible repeat (first | apply Kd.S_alloc | apply Kd.S_drewN | apply Kd.S_drew)); exact Kd.S_mono (Kd.S_far (p := ⟨gb212, 1, none⟩) (Kd.S_types HO220.out BK212.out (by decide)) (fun _ hk => hk.2) (.slice Ao25 y218.length co25)) (fun _ hk => trivial)⟩, ⟨kz_⟩, ⟨by (with_reducible repeat (first | refine blk_drewN ?_ _ | refine blk_drew ?_ | refine blk_alloc ?_ _)); refine blk_put (cs := #[.slice Ao17 y215.length co17, u213001]) ?_ 1 _ rfl; exact kb_ BK212.out⟩, ⟨bl_⟩⟩

/-- The place of the first element (counted from i) at which F says yes, -1 for none. -/
def idxO {α : Type} (F : α → Option Bool) : List α → Nat → Option Int
 | [], _ => some (-1)
 | x :: r, i => (F x).bind fun b => if b = true then some (i : Int) else idxO F r (i + 1)
theorem idxO_le {α : Type} {F G : α → Option Bool} (h : ∀ x, LeO (F x) (G x)) : ∀ (l : List α) (i : Nat), LeO (idxO F l i) (idxO G l i)
 | [], _ => LeO.refl _
 | x :: r, i => LeO.bind (h x) (fun b => LeO.ite (LeO.refl _) (idxO_le h r (i + 1)))
theorem idxO_drop {α : Type} {F : α → Option Bool} {xs : List α} {i : Nat} (hi : i < xs.length) {res : Int} (h : idxO F (xs.drop i) i = some res) :
  ∃ b, F xs[i] = some b ∧ (b = true → res = (i : Int)) ∧ (b = false → idxO F (xs.drop (i + 1)) (i + 1) = some res) := by
 rw [List.drop_eq_getElem_cons hi] at h
 simp only [idxO, Option.bind_eq_some_iff] at h
 obtain ⟨b, hb, h⟩ := h
 refine ⟨b, hb, fun e => ?_, fun e => ?_⟩
 ·rw [e, if_pos rfl] at h; exact (Option.some.inj h).symm
 ·rw [e, if_neg (by simp)] at h; exact h
theorem idxO_end {α : Type} {F : α → Option Bool} {xs : List α} {res : Int} (h : idxO F (xs.drop xs.length) xs.length = some res) : res = -1 := by
 rw [List.drop_of_length_le (Nat.le_refl _)] at h
 exact (Option.some.inj h).symm
theorem rd_nth {xs : List Int} {i : Nat} (h : i < xs.length) : rd xs (i : Int) = xs[i] := by simp [rd, h]
theorem drawn_then {a b c : World} (h : Drawn0 a b) (k : Drawn0 b c) : Drawn0 a c := by
 obtain ⟨n, rfl⟩ := k.out
 exact h.step n
/-! ### slices.IndexFunc at type 3: function 113 -/
set_option maxHeartbeats 2000000 in
theorem idxT3.any (g : Nat) (lb : Array Value) (eg : ∀ args w, (callFunc g args).run Try.prog w = .ok (.enter g args) w) (p : Int → Option Bool) (A : Option Addr) (c : Nat) (xs : List Int) (res : Int) (w : World)
  (hp : ∀ (x : Int) (b : Bool) (W : World), p x = some b → Below w.heap.size w W → Calls Try.prog g (#[.int .i64 x] ++ lb) W fun e w' => e = .returned (.bool b) ∧ Drawn0 W w') (hr : Kd.C (Kd.int .i64) w A xs.length xs) (h : idxO p xs 0 = some res) :
  Calls Try.prog 113 #[.slice A xs.length c, .func (.func g) #[] lb] w fun e w' => e = .returned (.int .i64 res) ∧ Drawn0 w w' := by
 have hbig : xs.length ≤ 9223372036854775807 := hr.2.1
 have HR := Aside0.mk hr
 have HP := Aside0.mk hp
 have HS := Aside0.mk (show idxO p (xs.drop 0) 0 = some res from h)
 clear hr hp h
 go_enter Try.func113, Try.ntmps113
 go_wp2
 go_loopg [5, 8] xs.length (fun gg _ s8 wr => ∃ kk : Nat, kk ≤ xs.length ∧ xs.length - kk ≤ gg ∧ s8 = .int .i64 kk ∧ Aside0 (Drawn0 w wr) ∧ Aside0 (idxO p (xs.drop kk) kk = some res))
 case atStart => exact ⟨0, Nat.zero_le _, by omega, rfl, ⟨Drawn0.refl w⟩, HS⟩
 case round =>
  obtain ⟨kk, hkk, hg, rfl, HD, HA⟩ := hrel
  clear HS
  by_cases hlt : kk < xs.length
  ·have hltz : (kk : Int) < (xs.length : Int) := by omega
   obtain ⟨bb, hbb, hyes, hno⟩ := idxO_drop hlt HA.out
   clear HA
   obtain ⟨ad, e1, hx⟩ := Kd.at_int HR.out (kk : Int) (by omega) (by omega)
   cases e1
   replace hx := (HD.out.below.cell (World.block_lt_of_cell? w _ hx)).trans hx
   simp only [Int.toNat_natCast] at hx
   have hcall := HP.out (rd xs (kk : Int)) bb wr (by rw [rd_nth hlt]; exact hbb) HD.out.below
   clear hbb
   generalize hy : rd xs (kk : Int) = y at hx hcall
   have HY := Aside0.mk hy
   clear hy
   cases bb with
   | true =>
    have HQ := Aside0.mk (hyes rfl)
    clear hyes hno
    go_wp2_with (go_at_fn g; refine hcall.mono ?_; rintro e w' ⟨rfl, hd⟩)
    go_ret
    exact ⟨by rw [HQ.out]; rfl, drawn_then HD.out hd⟩
   | false =>
    have HQ := Aside0.mk (hno rfl)
    clear hyes hno
    go_wp2_with (go_at_fn g; refine hcall.mono ?_; rintro e w' ⟨rfl, hd⟩)
    go_roundg (xs.length - (kk + 1))
    case measure => omega
    case rel => exact ⟨kk + 1, by omega, by omega, by go_num, ⟨drawn_then HD.out hd⟩, HQ⟩
  ·have : kk = xs.length := by omega
   subst this
   have HE := Aside0.mk (idxO_end HA.out)
   go_wp2
   go_ret
   exact ⟨by rw [HE.out]; rfl, HD.out⟩

/-! ### slices.ContainsFunc at type 3: function 107 -/
theorem conT3.any (g : Nat) (lb : Array Value) (eg : ∀ args w, (callFunc g args).run Try.prog w = .ok (.enter g args) w) (p : Int → Option Bool) (A : Option Addr) (c : Nat) (xs : List Int) (res : Int) (w : World)
  (hp : ∀ (x : Int) (b : Bool) (W : World), p x = some b → Below w.heap.size w W → Calls Try.prog g (#[.int .i64 x] ++ lb) W fun e w' => e = .returned (.bool b) ∧ Drawn0 W w') (hr : Kd.C (Kd.int .i64) w A xs.length xs) (h : idxO p xs 0 = some res) :
  Calls Try.prog 107 #[.slice A xs.length c, .func (.func g) #[] lb] w fun e w' => e = .returned (.bool (decide (res ≥ 0))) ∧ Drawn0 w w' := by
 have hc := idxT3.any g lb eg p A c xs res w hp hr h
 clear hr hp eg h
 go_enter Try.func107, Try.ntmps107
 go_wp2_with (go_at_call 113; refine hc.mono ?_; rintro e w' ⟨rfl, hd⟩)
 go_ret
 exact ⟨rfl, hd⟩

/-! ### impl_isWay_1: function 108 -/
def impl_isWay_1.f (a0 : Int) : Option (Bool) := (impl_in.f a0 1 1000000).bind fun t221 => (some (!t221))
set_option maxHeartbeats 8000000 in
set_option maxRecDepth 100000 in
theorem impl_isWay_1.calls (a0 : Int) (r : Bool) (w : World) (h : impl_isWay_1.f a0 = some r) :
  Calls Try.prog 108 #[.int .i64 a0] w fun e w' => e = .returned (.bool r) ∧ Drawn0 w w' := by
 have H : ((impl_in.f a0 1 1000000).bind fun t221 => (some (!t221))) = some r := h
 clear h
 replace H := Option.bind_eq_some_iff.mp H
 obtain ⟨t221, A20, H⟩ := H
 replace H : (some (!t221)) = some r := H
 have A2 := Aside0.mk A20
 clear A20
 obtain rfl := Option.some.inj H
 go_enter Try.func108, Try.ntmps108
 go_wp2_with (first | ((with_reducible refine gate_callee (f := 45) rfl ?_); refine goesL_ (some 4) rfl rfl Try.func45 (by kernel_rfl) rfl #[.int .i64 a0, .int .i64 1, .int .i64 1000000] rfl nc_ ?_; (with_reducible refine (impl_in.calls a0 1 1000000 t221 _ A2.out).mono ?_); rintro e w' ⟨rfl, ⟨nd, rfl⟩⟩; refine ⟨_, rfl, ?_⟩))
 go_ret
 exact ⟨by first | rfl | (simp; done) | (simp [*]; done), by repeat (first | exact Drawn0.refl _ | apply Drawn0.step)⟩

/-! ### has_impl_isWay_1: slices.ContainsFunc[[]int,int] with function 108 -/
def has_impl_isWay_1.f (l0 : List Int) : Option (Bool) := (idxO (fun x : Int => impl_isWay_1.f x) l0 0).bind fun i => some (decide (i ≥ 0))
theorem has_impl_isWay_1.calls (A0 : Option Addr) (c0 : Nat) (l0 : List Int) (r : Bool) (w : World) (hr0 : Kd.C (Kd.int .i64) w A0 l0.length l0) (hc0 : l0.length ≤ c0) (h : has_impl_isWay_1.f l0 = some r) :
  Calls Try.prog 107 #[.slice A0 l0.length c0, .func (.func 108) #[] #[]] w fun e w' => e = .returned (.bool r) ∧ Drawn0 w w' := by
 have eg : ∀ args w, (callFunc 108 args).run Try.prog w = .ok (.enter 108 args) w := Go.Proofs.enters_of Try.func108 (by kernel_rfl) rfl
 unfold has_impl_isWay_1.f at h
 rw [Option.bind_eq_some_iff] at h
 obtain ⟨i, hi, he⟩ := h
 obtain rfl := Option.some.inj he
 exact conT3.any 108 #[] eg (fun x : Int => impl_isWay_1.f x) A0 c0 l0 i w (fun x b W hx _ => (impl_isWay_1.calls x b W hx).mono fun _ _ h_ => ⟨h_.1, h_.2⟩) hr0 hi

end Go.Proofs.Ytipfikmbldgliaa.PNX
