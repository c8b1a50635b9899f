/- What this text proves: the machine calls of these functions return what the plain functions say. Conditions: as each theorem says. Printed by a program of this session out of the translation. -/
import Derived.Test.YtgdcooiaeeajmaaPLAx0
import Derived.Test.YtgdcooiaeeajmaaPLAx2
import Derived.Test.YtgdcooiaeeajmaaPLAx3
import Derived.Test.YtgdcooiaeeajmaaPLAx5
import Derived.Test.YtgdcooiaeeajmaaPLAx21
namespace Go.Proofs.Ytgdcooiaeeajmaa.PLA
open Go.RowKit Go.Proofs.YtgdcooiaeeajmaaW.PrintWords Go.Proofs.YtgdcooiaeeajmaaW.PrintLast Go.Proofs.YtgdcooiaeeajmaaW.PrintMore
attribute [local go_sem] max2_int min2_int max_two min_two max_three min_three max_four min_four   -- for this text's walks alone
set_option linter.unusedVariables false
set_option linter.unusedSimpArgs false

/-! ### impl_vectors: function 40 -/
mutual
def impl_vectors.l0 : Nat → List (S68) → List (S70) → List (S68) → Int → Int → Option ((List (S70)))
 | 0, _, _, _, _, _ => none
 | k + 1, x0, x3, x10, x11, x12 => if x12 < x11 then (if 0 ≤ x12 then (if x12 < (x10.length : Int) then (if 6 ≤ 35184372088832 then ((impl_causes.f k x0 x12).bind fun t266 => (impl_vectors.l1 k x0 x3 (List.replicate 6 0) x10 x11 x12 t266 (t266.length : Int) 0 ((rd_T68 x10 x12).f0) ((rd_T68 x10 x12).f1) ((rd_T68 x10 x12).f2))) else (none)) else (none)) else (none)) else (some x3)
def impl_vectors.l1 : Nat → List (S68) → List (S70) → List Int → List (S68) → Int → Int → List Int → Int → Int → Int → Int → Int → Option ((List (S70)))
 | 0, _, _, _, _, _, _, _, _, _, _, _, _ => none
 | k + 1, x0, x3, x6, x10, x11, x12, x20, x21, x22, x263000, x263001, x263002 => if x22 < x21 then (if 0 ≤ x22 then (if x22 < (x20.length : Int) then (if 0 ≤ (rd x20 x22) then (if (rd x20 x22) < (x3.length : Int) then ((impl_greater.f k x6 ((rd_T70 x3 (rd x20 x22)).f0)).bind fun t271 => (impl_vectors.l1 k x0 x3 t271 x10 x11 x12 x20 x21 (wrap64 (x22 + 1)) x263000 x263001 x263002)) else (none)) else (none)) else (none)) else (none)) else (if 0 ≤ x263001 then (if x263001 < (x6.length : Int) then (if x3.length < 5864062014805 then (impl_vectors.l0 k x0 (x3 ++ [(⟨(x6.set (x263001 : Int).toNat (wrap64 ((rd x6 x263001) + 1)))⟩ : S70)]) x10 x11 (wrap64 (x12 + 1))) else (none)) else (none)) else (none))
end
def impl_vectors.f (k : Nat) (l0 : List (S68)) : Option ((List (S70))) := impl_vectors.l0 k l0 (([] : List (S70))) l0 (l0.length : Int) 0
theorem impl_vectors.mono_l : ∀ k, (∀ y0 y1 y2 y3 y4, LeO (impl_vectors.l0 k y0 y1 y2 y3 y4) (impl_vectors.l0 (k + 1) y0 y1 y2 y3 y4)) ∧ (∀ y0 y1 y2 y3 y4 y5 y6 y7 y8 y9 y10 y11, LeO (impl_vectors.l1 k y0 y1 y2 y3 y4 y5 y6 y7 y8 y9 y10 y11) (impl_vectors.l1 (k + 1) y0 y1 y2 y3 y4 y5 y6 y7 y8 y9 y10 y11))
 | 0 => ⟨fun _ _ _ _ _ r h => by simp [impl_vectors.l0] at h, fun _ _ _ _ _ _ _ _ _ _ _ _ r h => by simp [impl_vectors.l1] at h⟩
 | k + 1 => by
  obtain ⟨ih0, ih1⟩ := impl_vectors.mono_l k
  refine ⟨?_, ?_⟩
  ·intro y0 y1 y2 y3 y4
   unfold impl_vectors.l0
   repeat' first
   | (with_reducible exact ih0 _ _ _ _ _)
   | (with_reducible exact ih1 _ _ _ _ _ _ _ _ _ _ _ _)
   | (with_reducible exact impl_causes.mono _ _ _)
   | (with_reducible exact impl_greater.mono _ _ _)
   | (with_reducible exact LeO.refl _)
   | (with_reducible exact LeO.none _)
   | (with_reducible refine LeO.ite ?_ ?_)
   | (with_reducible refine LeO.bind ?_ (fun _ => ?_))
   | exact ih0 _ _ _ _ _
   | exact ih1 _ _ _ _ _ _ _ _ _ _ _ _
   | exact impl_causes.mono _ _ _
   | exact impl_greater.mono _ _ _
   | exact LeO.none _
   | refine LeO.ite ?_ ?_
   | refine LeO.bind ?_ (fun _ => ?_)
  ·intro y0 y1 y2 y3 y4 y5 y6 y7 y8 y9 y10 y11
   unfold impl_vectors.l1
   repeat' first
   | (with_reducible exact ih0 _ _ _ _ _)
   | (with_reducible exact ih1 _ _ _ _ _ _ _ _ _ _ _ _)
   | (with_reducible exact impl_causes.mono _ _ _)
   | (with_reducible exact impl_greater.mono _ _ _)
   | (with_reducible exact LeO.refl _)
   | (with_reducible exact LeO.none _)
   | (with_reducible refine LeO.ite ?_ ?_)
   | (with_reducible refine LeO.bind ?_ (fun _ => ?_))
   | exact ih0 _ _ _ _ _
   | exact ih1 _ _ _ _ _ _ _ _ _ _ _ _
   | exact impl_causes.mono _ _ _
   | exact impl_greater.mono _ _ _
   | exact LeO.none _
   | refine LeO.ite ?_ ?_
   | refine LeO.bind ?_ (fun _ => ?_)
theorem impl_vectors.mono : ∀ a0 k, LeO (impl_vectors.f k a0) (impl_vectors.f (k + 1) a0) := by
 intro a0 k
 obtain ⟨ih0, ih1⟩ := impl_vectors.mono_l k
 unfold impl_vectors.f
 repeat' first
   | (with_reducible exact ih0 _ _ _ _ _)
   | (with_reducible exact ih1 _ _ _ _ _ _ _ _ _ _ _ _)
   | (with_reducible exact impl_causes.mono _ _ _)
   | (with_reducible exact impl_greater.mono _ _ _)
   | (with_reducible exact LeO.refl _)
   | (with_reducible exact LeO.none _)
   | (with_reducible refine LeO.ite ?_ ?_)
   | (with_reducible refine LeO.bind ?_ (fun _ => ?_))
   | exact ih0 _ _ _ _ _
   | exact ih1 _ _ _ _ _ _ _ _ _ _ _ _
   | exact impl_causes.mono _ _ _
   | exact impl_greater.mono _ _ _
   | exact LeO.none _
   | refine LeO.ite ?_ ?_
   | refine LeO.bind ?_ (fun _ => ?_)
set_option maxHeartbeats 8000000 in
set_option maxRecDepth 100000 in
theorem impl_vectors.calls (k : Nat) (A0 : Option Addr) (c0 : Nat) (l0 : List (S68)) (r : List (S70)) (w : World) (hr0 : Kd.C k68 w A0 l0.length l0) (hc0 : l0.length ≤ c0) (h : impl_vectors.f k l0 = some r) :
  Calls Try.prog 40 #[.slice A0 l0.length c0] w fun e w' => ∃ v0_ : Value, e = .returned (v0_) ∧ Kd.S k70 70 w' w.heap.size (fun _ => True) v0_ r ∧ Below w.heap.size w w' := by
 have hu68 := Try.underlying68
 have hu70 := Try.underlying70
 have HR0 := Aside0.mk hr0
 have HC0 := Aside0.mk hc0
 clear hr0 hc0
 have HB := Aside0.mk (Below.refl w.heap.size w)
 have H : (impl_vectors.l0 k l0 (([] : List (S70))) l0 (l0.length : Int) 0) = some r := h
 clear h
 obtain ⟨y258, hy258⟩ : ∃ y_ : List (S70), y_ = (([] : List (S70))) := ⟨_, rfl⟩
 replace H : (impl_vectors.l0 k l0 y258 l0 (l0.length : Int) 0) = some r := by first | (rw [hy258]; with_reducible exact H) | (have H2_ := (Option.bind_some _ _).symm.trans H; rw [hy258]; with_reducible exact H2_) | (have H2_ := (Option.bind_some _ _).symm.trans H; with_reducible exact H2_) | with_reducible exact H | (rw [hy258]; exact H) | exact H
 have Ny258 := Aside0.mk hy258
 clear hy258
 have H' := Aside0.mk H
 clear H
 go_enter Try.func40, Try.ntmps40
 go_wp2_with (first | ((with_reducible refine gate_dst (N := 9) rfl ?_); refine Kd.S_lit k70 _ 70 rfl (N := 9) rfl (xs := ([] : List (S70))) (inner := []) (ok := fun _ => True) (okp := fun _ => True) gs_ ?hp (fun _ hk => hk) trivial (Below.refl _ _) (Nat.le_refl _) (by simp) ?_; (case hp => exact (Reps.none _ _)); intro v259 w2 ho3 hb hg_ hnew_; clear hg_ hnew_; (first | rw [← Ny258.out] at ho3 | (simp only [Int.reduceToNat] at ho3; rw [← Ny258.out] at ho3)); have HO260 := Aside0.mk (Kd.S_lower ho3 bz_); replace HB := Aside0.mk (below_step bl_ hb); clear hb ho3))
 go_loopg [3, 12] k (fun kq v3 v12 w' => ∃ (x3_1 : List (S70)) (x12_1 : Int), v12 = .int .i64 x12_1 ∧ Aside0 (impl_vectors.l0 kq l0 x3_1 l0 (l0.length : Int) x12_1 = some r) ∧ Aside0 (kq ≤ k) ∧ Aside0 (Kd.S k70 70 w' w.heap.size (fun _ => True) v3 x3_1) ∧ Aside0 (Below w.heap.size w w'))
 case atStart => exact ⟨(y258), (0), (by first | rfl | (simp; done) | (simp [*]; done)), H', ⟨Nat.le_refl _⟩, ⟨by (with_reducible repeat (first | apply Kd.S_alloc | apply Kd.S_drewN | apply Kd.S_drew)); exact HO260.out⟩, ⟨bl_⟩⟩
 clear H'
 try clear p2
 obtain ⟨x3_1, x12_1, rfl, HA, HK1, HO_3, HB⟩ := hrel
 cases gk with
 | zero => exact absurd HA.out (by simp [impl_vectors.l0])
 | succ k1 => ?_
 have H := HA.out
 clear HA
 simp only [impl_vectors.l0] at H
 by_cases c4 : x12_1 < (l0.length : Int)
 rotate_left
 ·rw [if_neg c4] at H
  have c4b0 : decide (x12_1 < (l0.length : Int)) = false := decide_eq_false c4
  clear c4
  obtain rfl := Option.some.inj H
  go_wp2
  go_ret
  exact ⟨_, ng_, by (with_reducible repeat (first | apply Kd.S_alloc | apply Kd.S_drewN | apply Kd.S_drew)); exact HO_3.out, bl_⟩
 rw [if_pos c4] at H
 have c4b0 : decide (x12_1 < (l0.length : Int)) = true := decide_eq_true c4
 clear c4
 by_cases c5 : 0 ≤ x12_1
 rotate_left
 ·rw [if_neg c5] at H
  exact absurd H (by simp)
 rw [if_pos c5] at H
 have c5b0 : decide (0 ≤ x12_1) = true := decide_eq_true c5
 clear c5
 by_cases c6 : x12_1 < (l0.length : Int)
 rotate_left
 ·rw [if_neg c6] at H
  exact absurd H (by simp)
 rw [if_pos c6] at H
 have c6b0 : decide (x12_1 < (l0.length : Int)) = true := decide_eq_true c6
 clear c6
 by_cases c7 : 6 ≤ 35184372088832
 rotate_left
 ·rw [if_neg c7] at H
  exact absurd H (by simp)
 rw [if_pos c7] at H
 have c7b0 := eq_true c7
 have c7b1 : decide (6 ≤ 35184372088832) = true := decide_eq_true c7
 clear c7
 obtain ⟨y263, hy263⟩ : ∃ y_ : List Int, y_ = (List.replicate 6 0) := ⟨_, rfl⟩
 replace H : ((impl_causes.f k1 l0 x12_1).bind fun t266 => (impl_vectors.l1 k1 l0 x3_1 y263 l0 (l0.length : Int) x12_1 t266 (t266.length : Int) 0 ((rd_T68 l0 x12_1).f0) ((rd_T68 l0 x12_1).f1) ((rd_T68 l0 x12_1).f2))) = some r := by first | (rw [hy263]; with_reducible exact H) | (have H2_ := (Option.bind_some _ _).symm.trans H; rw [hy263]; with_reducible exact H2_) | (have H2_ := (Option.bind_some _ _).symm.trans H; with_reducible exact H2_) | with_reducible exact H | (rw [hy263]; exact H) | exact H
 have Ny263 := Aside0.mk hy263
 clear hy263
 replace H := Option.bind_eq_some_iff.mp H
 obtain ⟨t266, A80, H⟩ := H
 replace H : (impl_vectors.l1 k1 l0 x3_1 y263 l0 (l0.length : Int) x12_1 t266 (t266.length : Int) 0 ((rd_T68 l0 x12_1).f0) ((rd_T68 l0 x12_1).f1) ((rd_T68 l0 x12_1).f2)) = some r := H
 have A8 := Aside0.mk A80
 clear A80
 have H' := Aside0.mk H
 clear H
 have p261 : 0 ≤ (x12_1 : Int) := of_decide_eq_true (by first | (with_reducible assumption) | assumption)
 have q261 : x12_1 < (l0.length : Int) := of_decide_eq_true (by first | (with_reducible assumption) | assumption)
 obtain ⟨ad261, e261, hx261_0, hx261_1, hx261_2⟩ := at_T68 HR0.out x12_1 p261 q261
 cases e261
 replace hx261_0 := (HB.out.cell (World.block_lt_of_cell? w _ hx261_0)).trans hx261_0
 replace hx261_1 := (HB.out.cell (World.block_lt_of_cell? w _ hx261_1)).trans hx261_1
 replace hx261_2 := (HB.out.cell (World.block_lt_of_cell? w _ hx261_2)).trans hx261_2
 replace p261 := eq_true p261
 replace q261 := eq_true q261
 go_wp2_with (first | ((with_reducible refine gate_dst (N := 5) rfl ?_); refine box_event rfl (N := 5) rfl (cs := #[.int .i64 0, .int .i64 0, .int .i64 0]) (t := 68) gs_ ?_; intro gb262 hg w9 hbox hb; replace HO_3 := Aside0.mk (Kd.S_below (by (with_reducible repeat (first | apply Kd.S_alloc | apply Kd.S_drewN | apply Kd.S_drew)); exact HO_3.out) hb); have BK262 := Aside0.mk (hbox); have GW262 := Aside0.mk ((by rw [hg]; exact bz_ : w.heap.size ≤ gb262)); have GE262 := GW262; replace HB := Aside0.mk (below_step bl_ hb); clear hb hbox hg; have hcz10_0 : w9.cell? ⟨gb262, 0, none⟩ = some (.int .i64 0) := bc_ BK262.out 0; have hcz10_1 : w9.cell? ⟨gb262, 1, none⟩ = some (.int .i64 0) := bc_ BK262.out 1; have hcz10_2 : w9.cell? ⟨gb262, 2, none⟩ = some (.int .i64 0) := bc_ BK262.out 2; have hfz10_0 := blk_frozen BK262.out 0; have hfz10_1 := blk_frozen BK262.out 1; have hfz10_2 := blk_frozen BK262.out 2) | ((with_reducible refine gate_dst (N := 17) rfl ?_); refine Kd.R_make (Kd.int .i64) _ 3 rfl (N := 17) rfl 44 _ _ rfl 6 rfl rfl Try.underlying44 (.int .i64 0) 8 info3 rfl (by decide) (by omega) 0 (ok := fun _ => True) (okp := fun _ => True) rfl (fun _ hk => hk) trivial (by omega) (by omega) (Below.refl _ _) (Nat.le_refl _) ?_; intro v264 w11 ho12 hb hg_ hnew_; clear hg_ hnew_; (first | rw [← Ny263.out] at ho12 | (simp only [Int.reduceToNat] at ho12; rw [← Ny263.out] at ho12)); replace HO_3 := Aside0.mk (Kd.S_elder' (by (with_reducible repeat (first | apply Kd.S_alloc | apply Kd.S_drewN | apply Kd.S_drew)); exact (Kd.S_mono (Kd.S_far (p := ⟨gb262, 2, none⟩) (Kd.S_far (p := ⟨gb262, 1, none⟩) (Kd.S_far (p := ⟨gb262, 0, none⟩) (Kd.S_types HO_3.out BK262.out (by decide)) (fun _ hk => hk.2) (.int .i64 ((rd_T68 l0 x12_1).f0))) (fun _ hk => hk.2) (.int .i64 ((rd_T68 l0 x12_1).f1))) (fun _ hk => hk.2) (.int .i64 ((rd_T68 l0 x12_1).f2))) (fun _ h_ => h_.1))) (Kd.R_base ho12) hb); have HO265 := Aside0.mk (Kd.R_lower ho12 bz_); replace BK262 := Aside0.mk (blk_below (g := gb262) (o := .cells #[.int .i64 ((rd_T68 l0 x12_1).f0), .int .i64 ((rd_T68 l0 x12_1).f1), .int .i64 ((rd_T68 l0 x12_1).f2)] 68 (0, 0)) (by (with_reducible repeat (first | refine blk_drewN ?_ _ | refine blk_drew ?_ | refine blk_alloc ?_ _)); refine blk_put (cs := #[.int .i64 ((rd_T68 l0 x12_1).f0), .int .i64 ((rd_T68 l0 x12_1).f1), .int .i64 0]) ?_ 2 _ rfl; (with_reducible repeat (first | refine blk_drewN ?_ _ | refine blk_drew ?_ | refine blk_alloc ?_ _)); refine blk_put (cs := #[.int .i64 ((rd_T68 l0 x12_1).f0), .int .i64 0, .int .i64 0]) ?_ 1 _ rfl; (with_reducible repeat (first | refine blk_drewN ?_ _ | refine blk_drew ?_ | refine blk_alloc ?_ _)); refine blk_put (cs := #[.int .i64 0, .int .i64 0, .int .i64 0]) ?_ 0 _ rfl; exact kb_ BK262.out) hb); replace HB := Aside0.mk (below_step bl_ hb); clear hb ho12) | ((with_reducible refine gate_callee (f := 37) rfl ?_); refine goesL_ (some 20) rfl rfl Try.func37 (by kernel_rfl) rfl #[.slice (some ad261) l0.length c0, .int .i64 x12_1] rfl nc_ ?_; (with_reducible refine (impl_causes.calls k1 _ _ l0 x12_1 t266 _ ?side1 ?side2 A8.out).mono ?_); (case side1 => exact kc_ (Kd.C_below HR0.out HB.out)); (case side2 => exact HC0.out); rintro e w13 ⟨v267, rfl, ho0, hb⟩; refine ⟨_, rfl, ?_⟩; replace HO_3 := Aside0.mk (Kd.S_elder' (by (with_reducible repeat (first | apply Kd.S_alloc | apply Kd.S_drewN | apply Kd.S_drew)); exact HO_3.out) (Kd.R_base ho0) hb); have HO268 := Aside0.mk (Kd.R_lower (rn_ ho0 HO265.out) bz_); replace HO265 := Aside0.mk (Kd.R_elder' (kr_ HO265.out) (Kd.R_base ho0) hb); replace BK262 := bb_ BK262 hb; replace HB := Aside0.mk (below_step bl_ hb); clear hb ho0; obtain ⟨Ao14, co14, eo14⟩ := Kd.R_slice HO268.out; subst eo14))
 go_loopg [6, 22] k1 (fun kq v6 v22 w' => ∃ (x6_2 : List Int) (x22_2 : Int), v22 = .int .i64 x22_2 ∧ Aside0 (impl_vectors.l1 kq l0 x3_1 x6_2 l0 (l0.length : Int) x12_1 t266 (t266.length : Int) x22_2 ((rd_T68 l0 x12_1).f0) ((rd_T68 l0 x12_1).f1) ((rd_T68 l0 x12_1).f2) = some r) ∧ Aside0 (kq ≤ k1) ∧ Aside0 (Kd.S k70 70 w' w.heap.size (fun k_ => some k_ ≠ (v6 : Value).ownBlock ∧ some k_ ≠ ((.slice Ao14 t266.length co14) : Value).ownBlock) u3 x3_1) ∧ Aside0 (Kd.R (Kd.int .i64) 3 w' w.heap.size (fun k_ => some k_ ≠ ((.slice Ao14 t266.length co14) : Value).ownBlock) v6 x6_2) ∧ Aside0 (Kd.R (Kd.int .i64) 3 w' w.heap.size (fun k_ => some k_ ≠ (v6 : Value).ownBlock) (.slice Ao14 t266.length co14) t266) ∧ Aside0 (w'.heap[gb262]? = some (.cells #[.int .i64 ((rd_T68 l0 x12_1).f0), .int .i64 ((rd_T68 l0 x12_1).f1), .int .i64 ((rd_T68 l0 x12_1).f2)] 68 (0, 0))) ∧ Aside0 (Below w.heap.size w w'))
 case atStart => exact ⟨(y263), (0), (by first | rfl | (simp; done) | (simp [*]; done)), H', ⟨Nat.le_refl _⟩, ⟨by (with_reducible repeat (first | apply Kd.S_alloc | apply Kd.S_drewN | apply Kd.S_drew)); exact Kd.S_mono HO_3.out (fun _ hk => ⟨hk.1.2, hk.2⟩)⟩, ⟨kp_ HO265.out⟩, ⟨kp_ HO268.out⟩, ⟨by exact kb_ BK262.out⟩, ⟨bl_⟩⟩
 clear H'
 try clear p2
 try clear q2
 try clear hx2
 try clear c3
 try clear c4
 try clear c4b0
 try clear c5
 try clear c5b0
 try clear c6
 try clear c6b0
 try clear c7
 try clear c7b0
 try clear c7b1
 try clear hcz10_0
 try clear hcz10_1
 try clear hcz10_2
 try clear hfz10_0
 try clear hfz10_1
 try clear hfz10_2
 try clear hx261_0
 try clear hx261_1
 try clear hx261_2
 try clear p2
 try clear p261
 try clear q261
 obtain ⟨x6_2, x22_2, rfl, HA, HK2, HO_3, HO_6, HO_20, BK262, HB⟩ := hrel
 cases gk with
 | zero => exact absurd HA.out (by simp [impl_vectors.l1])
 | succ k2 => ?_
 have H := HA.out
 clear HA
 simp only [impl_vectors.l1] at H
 by_cases c15 : x22_2 < (t266.length : Int)
 ·rw [if_pos c15] at H
  have c15b0 : decide (x22_2 < (t266.length : Int)) = true := decide_eq_true c15
  clear c15
  by_cases c16 : 0 ≤ x22_2
  rotate_left
  ·rw [if_neg c16] at H
   exact absurd H (by simp)
  rw [if_pos c16] at H
  have c16b0 : decide (0 ≤ x22_2) = true := decide_eq_true c16
  clear c16
  by_cases c17 : x22_2 < (t266.length : Int)
  rotate_left
  ·rw [if_neg c17] at H
   exact absurd H (by simp)
  rw [if_pos c17] at H
  have c17b0 : decide (x22_2 < (t266.length : Int)) = true := decide_eq_true c17
  clear c17
  by_cases c18 : 0 ≤ (rd t266 x22_2)
  rotate_left
  ·rw [if_neg c18] at H
   exact absurd H (by simp)
  rw [if_pos c18] at H
  have c18b0 : decide (0 ≤ (rd t266 x22_2)) = true := decide_eq_true c18
  clear c18
  by_cases c19 : (rd t266 x22_2) < (x3_1.length : Int)
  rotate_left
  ·rw [if_neg c19] at H
   exact absurd H (by simp)
  rw [if_pos c19] at H
  have c19b0 : decide ((rd t266 x22_2) < (x3_1.length : Int)) = true := decide_eq_true c19
  clear c19
  replace H := Option.bind_eq_some_iff.mp H
  obtain ⟨t271, A200, H⟩ := H
  replace H : (impl_vectors.l1 k2 l0 x3_1 t271 l0 (l0.length : Int) x12_1 t266 (t266.length : Int) (wrap64 (x22_2 + 1)) ((rd_T68 l0 x12_1).f0) ((rd_T68 l0 x12_1).f1) ((rd_T68 l0 x12_1).f2)) = some r := H
  have A20 := Aside0.mk A200
  clear A200
  have H' := Aside0.mk H
  clear H
  have p269 : 0 ≤ (x22_2 : Int) := of_decide_eq_true (by first | (with_reducible assumption) | assumption)
  have q269 : x22_2 < (t266.length : Int) := of_decide_eq_true (by first | (with_reducible assumption) | assumption)
  obtain ⟨ad269, e269, hx269_0⟩ := Kd.at_int (Kd.R_reads' HO_20.out).2.2 x22_2 p269 q269
  cases e269
  replace p269 := eq_true p269
  replace q269 := eq_true q269
  obtain ⟨Ao21, co21, eo21⟩ := Kd.S_slice HO_3.out
  subst eo21
  have p270 : 0 ≤ ((rd t266 x22_2) : Int) := of_decide_eq_true (by first | (with_reducible assumption) | assumption)
  have q270 : (rd t266 x22_2) < (x3_1.length : Int) := of_decide_eq_true (by first | (with_reducible assumption) | assumption)
  obtain ⟨ad270, A270_0, c270_0, e270, hx270_0, hl270_0, hi270_0⟩ := at_T70 (Kd.S_reads' HO_3.out).2.2 (rd t266 x22_2) p270 q270
  cases e270
  obtain ⟨ce270, hce270, hMe270, hcc270⟩ := Kd.S_get HO_3.out z70 (rd t266 x22_2) p270 (by first | exact q270 | exact of_decide_eq_true (by first | (with_reducible assumption) | assumption) | (have e_ := (Kd.S_reads' HO_3.out).1; omega))
  obtain ⟨ve270_0, rfl, ge270_0⟩ := k70_openM hMe270
  have hv270_0 := hcc270 0 _ rfl
  rw [Nat.add_zero, show (k70).sz = 1 from rfl, Nat.mul_one] at hv270_0
  replace hv270_0 := Option.some.inj (hv270_0.symm.trans hx270_0)
  rw [hv270_0] at ge270_0
  have HL270_0 := Aside0.mk (show Kd.R (Kd.int .i64) 3 _ _ _ _ ((rd_T70 x3_1 (rd t266 x22_2)).f0) from ge270_0)
  clear hv270_0 ge270_0 hcc270 hce270
  have HR270_0 := Aside0.mk hi270_0
  have HC270_0 := Aside0.mk hl270_0
  clear hi270_0 hl270_0
  replace p270 := eq_true p270
  replace q270 := eq_true q270
  obtain ⟨Ao22, co22, eo22⟩ := Kd.R_slice HO_6.out
  subst eo22
  go_wp2_with (first | ((with_reducible refine gate_callee (f := 48) rfl ?_); refine goesL_ (some 32) rfl rfl Try.func48 (by kernel_rfl) rfl #[.slice Ao22 x6_2.length co22, .slice A270_0 ((rd_T70 x3_1 (rd t266 x22_2)).f0).length c270_0] rfl nc_ ?_; (with_reducible refine (impl_greater.calls k2 _ _ x6_2 _ _ ((rd_T70 x3_1 (rd t266 x22_2)).f0) t271 _ ?side1 ?side2 ?side3 ?side4 A20.out).mono ?_); (case side1 => exact kc_ (Kd.R_reads' HO_6.out).2.2); (case side2 => exact (Kd.R_reads' HO_6.out).2.1); (case side3 => repeat (first | exact (by repeat (first | (with_reducible exact HR270_0.out) | (with_reducible refine Kd.C_alloc ?_ _) | (with_reducible refine Kd.C_drewN ?_ _) | (with_reducible refine Kd.C_drew ?_) | exact HR270_0.out)) | (with_reducible refine Kd.C_alloc ?_ _) | (with_reducible refine Kd.C_drewN ?_ _) | (with_reducible refine Kd.C_drew ?_))); (case side4 => exact HC270_0.out); rintro e w23 ⟨v272, rfl, ho0, hb⟩; refine ⟨_, rfl, ?_⟩; replace HO_3 := Aside0.mk (Kd.S_elder' (by (with_reducible repeat (first | apply Kd.S_alloc | apply Kd.S_drewN | apply Kd.S_drew)); exact HO_3.out) (Kd.R_base ho0) hb); have HO273 := Aside0.mk (Kd.R_lower (rn_ (rn_ (rn_ ho0 HO_6.out) HO_20.out) HL270_0.out) bz_); replace HO_6 := Aside0.mk (Kd.R_elder' (kr_ HO_6.out) (Kd.R_base ho0) hb); replace HO_20 := Aside0.mk (Kd.R_elder' (kr_ HO_20.out) (Kd.R_base ho0) hb); replace HL270_0 := Aside0.mk (Kd.R_elder' (kr_ HL270_0.out) (Kd.R_base ho0) hb); replace BK262 := bb_ BK262 hb; replace HR270_0 := Aside0.mk (Kd.C_below (by repeat (first | (with_reducible exact HR270_0.out) | (with_reducible refine Kd.C_alloc ?_ _) | (with_reducible refine Kd.C_drewN ?_ _) | (with_reducible refine Kd.C_drew ?_) | exact HR270_0.out)) hb); replace HB := Aside0.mk (below_step bl_ hb); clear hb ho0))
  go_roundg k2
  case measure => have := HK1.out; have := HK2.out; omega
  case rel => exact ⟨(t271), (wrap64 (x22_2 + 1)), (by first | rfl | (simp; done) | (simp [*]; done)), H', ⟨by have := HK1.out; have := HK2.out; omega⟩, ⟨by (with_reducible repeat (first | apply Kd.S_alloc | apply Kd.S_drewN | apply Kd.S_drew)); exact Kd.S_mono HO_3.out (fun _ hk => ⟨hk.2, hk.1.2⟩)⟩, ⟨kp_ HO273.out⟩, ⟨kp_ HO_20.out⟩, ⟨by exact kb_ BK262.out⟩, ⟨bl_⟩⟩
 rw [if_neg c15] at H
 have c15b0 : decide (x22_2 < (t266.length : Int)) = false := decide_eq_false c15
 clear c15
 by_cases c24 : 0 ≤ ((rd_T68 l0 x12_1).f1)
 rotate_left
 ·rw [if_neg c24] at H
  exact absurd H (by simp)
 rw [if_pos c24] at H
 have c24b0 : decide (0 ≤ ((rd_T68 l0 x12_1).f1)) = true := decide_eq_true c24
 clear c24
 by_cases c25 : ((rd_T68 l0 x12_1).f1) < (x6_2.length : Int)
 rotate_left
 ·rw [if_neg c25] at H
  exact absurd H (by simp)
 rw [if_pos c25] at H
 have c25b0 : decide (((rd_T68 l0 x12_1).f1) < (x6_2.length : Int)) = true := decide_eq_true c25
 clear c25
 obtain ⟨y275, hy275⟩ : ∃ y_ : List Int, y_ = (x6_2.set (((rd_T68 l0 x12_1).f1) : Int).toNat (wrap64 ((rd x6_2 ((rd_T68 l0 x12_1).f1)) + 1))) := ⟨_, rfl⟩
 replace H : (if x3_1.length < 5864062014805 then (impl_vectors.l0 k2 l0 (x3_1 ++ [(⟨y275⟩ : S70)]) l0 (l0.length : Int) (wrap64 (x12_1 + 1))) else (none)) = some r := by first | (rw [hy275]; with_reducible exact H) | (have H2_ := (Option.bind_some _ _).symm.trans H; rw [hy275]; with_reducible exact H2_) | (have H2_ := (Option.bind_some _ _).symm.trans H; with_reducible exact H2_) | with_reducible exact H | (rw [hy275]; exact H) | exact H
 have Ny275 := Aside0.mk hy275
 clear hy275
 by_cases c27 : x3_1.length < 5864062014805
 rotate_left
 ·rw [if_neg c27] at H
  exact absurd H (by simp)
 rw [if_pos c27] at H
 have LMc27 := Aside0.mk c27
 clear c27
 obtain ⟨y276, hy276⟩ : ∃ y_ : List (S70), y_ = (x3_1 ++ [(⟨y275⟩ : S70)]) := ⟨_, rfl⟩
 replace H : (impl_vectors.l0 k2 l0 y276 l0 (l0.length : Int) (wrap64 (x12_1 + 1))) = some r := by first | (rw [hy276]; with_reducible exact H) | (have H2_ := (Option.bind_some _ _).symm.trans H; rw [hy276]; with_reducible exact H2_) | (have H2_ := (Option.bind_some _ _).symm.trans H; with_reducible exact H2_) | with_reducible exact H | (rw [hy276]; exact H) | exact H
 have Ny276 := Aside0.mk hy276
 clear hy276
 have H' := Aside0.mk H
 clear H
 have hcz28_0 : wr.cell? ⟨gb262, 0, none⟩ = some (.int .i64 ((rd_T68 l0 x12_1).f0)) := bc_ BK262.out 0
 have hcz28_1 : wr.cell? ⟨gb262, 1, none⟩ = some (.int .i64 ((rd_T68 l0 x12_1).f1)) := bc_ BK262.out 1
 have hcz28_2 : wr.cell? ⟨gb262, 2, none⟩ = some (.int .i64 ((rd_T68 l0 x12_1).f2)) := bc_ BK262.out 2
 have hfz28_0 := blk_frozen BK262.out 0
 have hfz28_1 := blk_frozen BK262.out 1
 have hfz28_2 := blk_frozen BK262.out 2
 obtain ⟨Ao29, co29, eo29⟩ := Kd.R_slice HO_6.out
 subst eo29
 have p274 : 0 ≤ (((rd_T68 l0 x12_1).f1) : Int) := of_decide_eq_true (by first | (with_reducible assumption) | assumption)
 have q274 : ((rd_T68 l0 x12_1).f1) < (x6_2.length : Int) := of_decide_eq_true (by first | (with_reducible assumption) | assumption)
 obtain ⟨ad274, e274, hx274_0⟩ := Kd.at_int (Kd.R_reads' HO_6.out).2.2 ((rd_T68 l0 x12_1).f1) p274 q274
 cases e274
 replace p274 := eq_true p274
 replace q274 := eq_true q274
 have p26 : 0 ≤ (((rd_T68 l0 x12_1).f1) : Int) := of_decide_eq_true (by first | (with_reducible assumption) | assumption)
 have q26 : (((rd_T68 l0 x12_1).f1) : Int) < ((x6_2.length : Int) : Int) := of_decide_eq_true (by first | (with_reducible assumption) | assumption)
 obtain ⟨go26, co26, eo26, gb26, gl26, cl26, HG26⟩ := Kd.R_form HO_6.out (by omega)
 (first | cases eo26 | (injection eo26 with ea_ en_ ec_; (first | subst ea_ | (injection ea_ with ea_; subst ea_)); subst ec_; clear en_))
 have GB26 := Aside0.mk gb26
 have GG26 := Aside0.mk HG26
 clear gb26 gl26 HG26
 (first | simp only [add_plain] at hx274_0 | skip)
 obtain ⟨hx26_0, hf26_0⟩ := Kd.R_celln 0 HO_6.out (((rd_T68 l0 x12_1).f1) : Int) p26 q26
 replace p26 := eq_true p26
 replace q26 := eq_true q26
 have HP30 := Kd.R_putg HO_6.out (((rd_T68 l0 x12_1).f1) : Int) (wrap64 ((rd x6_2 ((rd_T68 l0 x12_1).f1)) + 1))
 go_wp2_with (first | ((with_reducible refine gate_store (t := 3) (p := 40) rfl ?_); refine store_event (t := 3) (p := 40) (v := ?vo_w31) (w1 := (wr.setCell ⟨go26, (((rd_T68 l0 x12_1).f1) : Int).toNat, none⟩ (.int .i64 (wrap64 ((rd x6_2 ((rd_T68 l0 x12_1).f1)) + 1))))) ?hg ?ho ?hn ?hr ?_; (case ho => rfl); (case hg => rfl); (case hn => rfl); (case hr => first | (go_simp; done) | (go_simp; rfl)); intro w31 hw; have hg : wr.grownBy w31 (some go26) := (by rw [hw]; exact HP30.2); have hp_ : Kd.R (Kd.int .i64) 3 w31 w.heap.size (fun k_ => some k_ ≠ (.slice Ao14 t266.length co14 : Value).ownBlock) (.slice (some ⟨go26, 0, none⟩) x6_2.length co29) y275 := (by rw [hw, Ny275.out]; exact HP30.1); clear HP30; replace HO_3 := Aside0.mk (Kd.S_after (v := (.slice (some ⟨go26, 0, none⟩) x6_2.length co29)) (v1 := (.slice (some ⟨go26, 0, none⟩) x6_2.length co29)) (ok := (fun k_ => some k_ ≠ (.slice Ao14 t266.length co14 : Value).ownBlock)) (by (with_reducible repeat (first | apply Kd.S_alloc | apply Kd.S_drewN | apply Kd.S_drew)); exact Kd.S_mono HO_3.out (fun _ hk => ⟨hk.2, hk.1⟩)) hg (.inl rfl)); replace HO_20 := Aside0.mk (Kd.R_after (v := (.slice (some ⟨go26, 0, none⟩) x6_2.length co29)) (v1 := (.slice (some ⟨go26, 0, none⟩) x6_2.length co29)) (ok := (fun _ => True)) (by exact kr_ (Kd.R_mono HO_20.out (fun _ hk => ⟨trivial, hk⟩))) hg (.inl rfl)); replace BK262 := bgr_ BK262 hg HO_6 BK262; replace HO_6 := Aside0.mk (hp_); replace HB := Aside0.mk ((by rw [hw]; exact below_set (HB.out) GB26.out : Below w.heap.size w w31)); clear hg hw hp_) | ((with_reducible refine gate_builtin (b := .append) (xs := #[.tmp 41, .tmp 44]) rfl ?_); at_builtin; refine Kd.S_append k70 (w0 := w) w.heap.size rfl (.tmp 41) (.tmp 44) 65 70 (.agg #[(.slice none 0 0)]) 24 rfl Try.underlying65 info70 rfl (by decide) (by omega) u3 x3_1 (⟨y275⟩ : S70) [.slice (some ⟨go26, 0, none⟩) x6_2.length co29] (fun k_ => some k_ ≠ (.slice Ao14 t266.length co14 : Value).ownBlock) (fun k_ => some k_ = (.slice (some ⟨go26, 0, none⟩) x6_2.length co29 : Value).ownBlock) rfl rfl ?aP (fun k_ hk_ => ((Kd.R_mono (ok' := fun k_ => ((fun k_ => some k_ ≠ (.slice Ao14 t266.length co14 : Value).ownBlock)) k_ ∧ some k_ ≠ (u3 : Value).ownBlock) (Kd.R_apart' (HO_6.out) (Kd.S_typed HO_3.out) (by decide)) (fun k_ hk => ⟨hk.1, hk.2⟩))).1 k_ hk_.symm) ?aF ?aO ?aB ?aS ?aL ?_; (case aP => exact k70_mkM _ _ _ (⟨y275⟩ : S70) (Kd.R_mono (Kd.R_tight rfl (Kd.R_mono (ok' := fun k_ => ((fun k_ => some k_ ≠ (.slice Ao14 t266.length co14 : Value).ownBlock)) k_ ∧ some k_ ≠ (u3 : Value).ownBlock) (Kd.R_apart' (HO_6.out) (Kd.S_typed HO_3.out) (by decide)) (fun k_ hk => ⟨hk.1, hk.2⟩))) (fun _ h_ => h_))); (case aB => exact bl_); (case aF => exact (fun k_ hk => Kd.fresh' (Kd.R_lt (kr_ HO_20.out)) k_ hk)); (case aO => exact (by (with_reducible repeat (first | apply Kd.S_alloc | apply Kd.S_drewN | apply Kd.S_drew)); exact Kd.S_mono HO_3.out (fun k_ hk => ⟨hk.1, fun e_ => hk.2 e_⟩))); (case aS => exact bz_); (case aL => have := LMc27.out; omega); intro v277 w32 ho hb hg hat; rw [← Ny276.out] at ho; replace HO_20 := Aside0.mk (Kd.R_over' (kr_ HO_20.out) (Kd.S_typed (by (with_reducible repeat (first | apply Kd.S_alloc | apply Kd.S_drewN | apply Kd.S_drew)); exact HO_3.out)) (by decide) hg); replace BK262 := Aside0.mk (blk_grown (kb_ BK262.out) hg (Kd.S_ne HO_3.out BK262.out (by decide))); replace HB := Aside0.mk (hb); have HO278 := Aside0.mk (ho); clear HO_3 HO_6 ho hb hg hat))
 go_roundg k2
 case measure => have := HK1.out; have := HK2.out; omega
 case rel => exact ⟨(y276), (wrap64 (x12_1 + 1)), (by first | rfl | (simp; done) | (simp [*]; done)), H', ⟨by have := HK1.out; have := HK2.out; omega⟩, ⟨by (with_reducible repeat (first | apply Kd.S_alloc | apply Kd.S_drewN | apply Kd.S_drew)); exact Kd.S_mono HO278.out (fun _ hk => trivial)⟩, ⟨bl_⟩⟩

/-! ### impl_AheadOf: function 20 -/
def impl_AheadOf.f (k : Nat) (l0 : List (S68)) (a1 : Int) (a2 : Int) : Option (Bool × Bool) := (impl_areEvents.f k l0).bind fun t279 => (if t279 = true then ((impl_in.f a1 0 (wrap64 ((l0.length : Int) - 1))).bind fun t280 => (if t280 = true then ((impl_in.f a2 0 (wrap64 ((l0.length : Int) - 1))).bind fun t281 => (if t281 = true then ((impl_vectors.f k l0).bind fun t282 => (if 0 ≤ a1 then (if a1 < (l0.length : Int) then (if a1 = a2 then (some (false, true)) else (if 0 ≤ a2 then (if a2 < (t282.length : Int) then (if 0 ≤ ((rd_T68 l0 a1).f1) then (if ((rd_T68 l0 a1).f1) < (((rd_T70 t282 a2).f0).length : Int) then (if a1 < (t282.length : Int) then (if ((rd_T68 l0 a1).f1) < (((rd_T70 t282 a1).f0).length : Int) then (some (decide ((rd ((rd_T70 t282 a2).f0) ((rd_T68 l0 a1).f1)) ≥ (rd ((rd_T70 t282 a1).f0) ((rd_T68 l0 a1).f1))), true)) else (none)) else (none)) else (none)) else (none)) else (none)) else (none))) else (none)) else (none))) else (some (false, false)))) else (some (false, false)))) else (some (false, false)))
theorem impl_AheadOf.mono : ∀ a0 a1 a2 k, LeO (impl_AheadOf.f k a0 a1 a2) (impl_AheadOf.f (k + 1) a0 a1 a2) := by
 intro a0 a1 a2 k
 unfold impl_AheadOf.f
 repeat' first
   | (with_reducible exact impl_areEvents.mono _ _)
   | (with_reducible exact impl_vectors.mono _ _)
   | (with_reducible exact LeO.refl _)
   | (with_reducible exact LeO.none _)
   | (with_reducible refine LeO.ite ?_ ?_)
   | (with_reducible refine LeO.bind ?_ (fun _ => ?_))
   | exact impl_areEvents.mono _ _
   | exact impl_vectors.mono _ _
   | exact LeO.none _
   | refine LeO.ite ?_ ?_
   | refine LeO.bind ?_ (fun _ => ?_)
set_option maxHeartbeats 8000000 in
set_option maxRecDepth 100000 in
theorem impl_AheadOf.calls (k : Nat) (A0 : Option Addr) (c0 : Nat) (l0 : List (S68)) (a1 : Int) (a2 : Int) (r1 : Bool) (r2 : Bool) (w : World) (hr0 : Kd.C k68 w A0 l0.length l0) (hc0 : l0.length ≤ c0) (h : impl_AheadOf.f k l0 a1 a2 = some (r1, r2)) :
  Calls Try.prog 20 #[.slice A0 l0.length c0, .int .i64 a1, .int .i64 a2] w fun e w' => e = .returned (.tuple #[.bool r1, .bool r2]) ∧ Below w.heap.size w w' := by
 have HR0 := Aside0.mk hr0
 have HC0 := Aside0.mk hc0
 clear hr0 hc0
 have HB := Aside0.mk (Below.refl w.heap.size w)
 have H : ((impl_areEvents.f k l0).bind fun t279 => (if t279 = true then ((impl_in.f a1 0 (wrap64 ((l0.length : Int) - 1))).bind fun t280 => (if t280 = true then ((impl_in.f a2 0 (wrap64 ((l0.length : Int) - 1))).bind fun t281 => (if t281 = true then ((impl_vectors.f k l0).bind fun t282 => (if 0 ≤ a1 then (if a1 < (l0.length : Int) then (if a1 = a2 then (some (false, true)) else (if 0 ≤ a2 then (if a2 < (t282.length : Int) then (if 0 ≤ ((rd_T68 l0 a1).f1) then (if ((rd_T68 l0 a1).f1) < (((rd_T70 t282 a2).f0).length : Int) then (if a1 < (t282.length : Int) then (if ((rd_T68 l0 a1).f1) < (((rd_T70 t282 a1).f0).length : Int) then (some (decide ((rd ((rd_T70 t282 a2).f0) ((rd_T68 l0 a1).f1)) ≥ (rd ((rd_T70 t282 a1).f0) ((rd_T68 l0 a1).f1))), true)) else (none)) else (none)) else (none)) else (none)) else (none)) else (none))) else (none)) else (none))) else (some (false, false)))) else (some (false, false)))) else (some (false, false)))) = some (r1, r2) := h
 clear h
 replace H := Option.bind_eq_some_iff.mp H
 obtain ⟨t279, A40, H⟩ := H
 replace H : (if t279 = true then ((impl_in.f a1 0 (wrap64 ((l0.length : Int) - 1))).bind fun t280 => (if t280 = true then ((impl_in.f a2 0 (wrap64 ((l0.length : Int) - 1))).bind fun t281 => (if t281 = true then ((impl_vectors.f k l0).bind fun t282 => (if 0 ≤ a1 then (if a1 < (l0.length : Int) then (if a1 = a2 then (some (false, true)) else (if 0 ≤ a2 then (if a2 < (t282.length : Int) then (if 0 ≤ ((rd_T68 l0 a1).f1) then (if ((rd_T68 l0 a1).f1) < (((rd_T70 t282 a2).f0).length : Int) then (if a1 < (t282.length : Int) then (if ((rd_T68 l0 a1).f1) < (((rd_T70 t282 a1).f0).length : Int) then (some (decide ((rd ((rd_T70 t282 a2).f0) ((rd_T68 l0 a1).f1)) ≥ (rd ((rd_T70 t282 a1).f0) ((rd_T68 l0 a1).f1))), true)) else (none)) else (none)) else (none)) else (none)) else (none)) else (none))) else (none)) else (none))) else (some (false, false)))) else (some (false, false)))) else (some (false, false))) = some (r1, r2) := H
 have A4 := Aside0.mk A40
 clear A40
 by_cases c5 : t279 = true
 rotate_left
 ·replace c5 := Bool.eq_false_iff.mpr c5
  subst c5
  have H1 : (some (false, false)) = some (r1, r2) := by rw [if_neg (show ¬ (false = true) by decide)] at H; exact H
  clear H
  have H := H1
  clear H1
  simp only [Option.some.injEq, Prod.mk.injEq] at H
  obtain ⟨rfl, rfl⟩ := H
  go_enter Try.func20, Try.ntmps20
  go_wp2_with (first | (go_at_call 36; (with_reducible refine (impl_areEvents.calls k _ _ l0 false _ ?side1 ?side2 A4.out).mono ?_); (case side1 => exact kc_ HR0.out); (case side2 => exact HC0.out); rintro e w27 ⟨rfl, hb⟩; replace HB := Aside0.mk (below_step bl_ hb); clear hb))
  repeat (go_quiet (first | (go_at_call 36; (with_reducible refine (impl_areEvents.calls k _ _ l0 false _ ?side1 ?side2 A4.out).mono ?_); (case side1 => exact kc_ HR0.out); (case side2 => exact HC0.out); rintro e w27 ⟨rfl, hb⟩; replace HB := Aside0.mk (below_step bl_ hb); clear hb)); try go_wp2_with (first | (go_at_call 36; (with_reducible refine (impl_areEvents.calls k _ _ l0 false _ ?side1 ?side2 A4.out).mono ?_); (case side1 => exact kc_ HR0.out); (case side2 => exact HC0.out); rintro e w27 ⟨rfl, hb⟩; replace HB := Aside0.mk (below_step bl_ hb); clear hb)))
  go_ret2
  exact ⟨ng_, bl_⟩
 subst c5
 have H1 : ((impl_in.f a1 0 (wrap64 ((l0.length : Int) - 1))).bind fun t280 => (if t280 = true then ((impl_in.f a2 0 (wrap64 ((l0.length : Int) - 1))).bind fun t281 => (if t281 = true then ((impl_vectors.f k l0).bind fun t282 => (if 0 ≤ a1 then (if a1 < (l0.length : Int) then (if a1 = a2 then (some (false, true)) else (if 0 ≤ a2 then (if a2 < (t282.length : Int) then (if 0 ≤ ((rd_T68 l0 a1).f1) then (if ((rd_T68 l0 a1).f1) < (((rd_T70 t282 a2).f0).length : Int) then (if a1 < (t282.length : Int) then (if ((rd_T68 l0 a1).f1) < (((rd_T70 t282 a1).f0).length : Int) then (some (decide ((rd ((rd_T70 t282 a2).f0) ((rd_T68 l0 a1).f1)) ≥ (rd ((rd_T70 t282 a1).f0) ((rd_T68 l0 a1).f1))), true)) else (none)) else (none)) else (none)) else (none)) else (none)) else (none))) else (none)) else (none))) else (some (false, false)))) else (some (false, false)))) = some (r1, r2) := by rw [if_pos rfl] at H; exact H
 clear H
 have H := H1
 clear H1
 replace H := Option.bind_eq_some_iff.mp H
 obtain ⟨t280, A60, H⟩ := H
 replace H : (if t280 = true then ((impl_in.f a2 0 (wrap64 ((l0.length : Int) - 1))).bind fun t281 => (if t281 = true then ((impl_vectors.f k l0).bind fun t282 => (if 0 ≤ a1 then (if a1 < (l0.length : Int) then (if a1 = a2 then (some (false, true)) else (if 0 ≤ a2 then (if a2 < (t282.length : Int) then (if 0 ≤ ((rd_T68 l0 a1).f1) then (if ((rd_T68 l0 a1).f1) < (((rd_T70 t282 a2).f0).length : Int) then (if a1 < (t282.length : Int) then (if ((rd_T68 l0 a1).f1) < (((rd_T70 t282 a1).f0).length : Int) then (some (decide ((rd ((rd_T70 t282 a2).f0) ((rd_T68 l0 a1).f1)) ≥ (rd ((rd_T70 t282 a1).f0) ((rd_T68 l0 a1).f1))), true)) else (none)) else (none)) else (none)) else (none)) else (none)) else (none))) else (none)) else (none))) else (some (false, false)))) else (some (false, false))) = some (r1, r2) := H
 have A6 := Aside0.mk A60
 clear A60
 by_cases c7 : t280 = true
 rotate_left
 ·replace c7 := Bool.eq_false_iff.mpr c7
  subst c7
  have H1 : (some (false, false)) = some (r1, r2) := by rw [if_neg (show ¬ (false = true) by decide)] at H; exact H
  clear H
  have H := H1
  clear H1
  simp only [Option.some.injEq, Prod.mk.injEq] at H
  obtain ⟨rfl, rfl⟩ := H
  go_enter Try.func20, Try.ntmps20
  go_wp2_with (first | (go_at_call 36; (with_reducible refine (impl_areEvents.calls k _ _ l0 true _ ?side1 ?side2 A4.out).mono ?_); (case side1 => exact kc_ HR0.out); (case side2 => exact HC0.out); rintro e w26 ⟨rfl, hb⟩; replace HB := Aside0.mk (below_step bl_ hb); clear hb) | (go_at_call 25; (with_reducible refine (impl_in.calls a1 0 (wrap64 ((l0.length : Int) - 1)) false _ A6.out).mono ?_); rintro e w' ⟨rfl, ⟨nd, rfl⟩⟩; (try first | exact ⟨rfl, _, World.drewN_drewN _ _ _⟩ | exact ⟨rfl, _, Eq.trans (World.drewN_drewN _ _ _) (congrArg (World.drewN _) (Nat.add_assoc _ _ _))⟩)))
  repeat (go_quiet (first | (go_at_call 36; (with_reducible refine (impl_areEvents.calls k _ _ l0 true _ ?side1 ?side2 A4.out).mono ?_); (case side1 => exact kc_ HR0.out); (case side2 => exact HC0.out); rintro e w26 ⟨rfl, hb⟩; replace HB := Aside0.mk (below_step bl_ hb); clear hb) | (go_at_call 25; (with_reducible refine (impl_in.calls a1 0 (wrap64 ((l0.length : Int) - 1)) false _ A6.out).mono ?_); rintro e w' ⟨rfl, ⟨nd, rfl⟩⟩; (try first | exact ⟨rfl, _, World.drewN_drewN _ _ _⟩ | exact ⟨rfl, _, Eq.trans (World.drewN_drewN _ _ _) (congrArg (World.drewN _) (Nat.add_assoc _ _ _))⟩))); try go_wp2_with (first | (go_at_call 36; (with_reducible refine (impl_areEvents.calls k _ _ l0 true _ ?side1 ?side2 A4.out).mono ?_); (case side1 => exact kc_ HR0.out); (case side2 => exact HC0.out); rintro e w26 ⟨rfl, hb⟩; replace HB := Aside0.mk (below_step bl_ hb); clear hb) | (go_at_call 25; (with_reducible refine (impl_in.calls a1 0 (wrap64 ((l0.length : Int) - 1)) false _ A6.out).mono ?_); rintro e w' ⟨rfl, ⟨nd, rfl⟩⟩; (try first | exact ⟨rfl, _, World.drewN_drewN _ _ _⟩ | exact ⟨rfl, _, Eq.trans (World.drewN_drewN _ _ _) (congrArg (World.drewN _) (Nat.add_assoc _ _ _))⟩))))
  go_ret2
  exact ⟨ng_, bl_⟩
 subst c7
 have H1 : ((impl_in.f a2 0 (wrap64 ((l0.length : Int) - 1))).bind fun t281 => (if t281 = true then ((impl_vectors.f k l0).bind fun t282 => (if 0 ≤ a1 then (if a1 < (l0.length : Int) then (if a1 = a2 then (some (false, true)) else (if 0 ≤ a2 then (if a2 < (t282.length : Int) then (if 0 ≤ ((rd_T68 l0 a1).f1) then (if ((rd_T68 l0 a1).f1) < (((rd_T70 t282 a2).f0).length : Int) then (if a1 < (t282.length : Int) then (if ((rd_T68 l0 a1).f1) < (((rd_T70 t282 a1).f0).length : Int) then (some (decide ((rd ((rd_T70 t282 a2).f0) ((rd_T68 l0 a1).f1)) ≥ (rd ((rd_T70 t282 a1).f0) ((rd_T68 l0 a1).f1))), true)) else (none)) else (none)) else (none)) else (none)) else (none)) else (none))) else (none)) else (none))) else (some (false, false)))) = some (r1, r2) := by rw [if_pos rfl] at H; exact H
 clear H
 have H := H1
 clear H1
 replace H := Option.bind_eq_some_iff.mp H
 obtain ⟨t281, A80, H⟩ := H
 replace H : (if t281 = true then ((impl_vectors.f k l0).bind fun t282 => (if 0 ≤ a1 then (if a1 < (l0.length : Int) then (if a1 = a2 then (some (false, true)) else (if 0 ≤ a2 then (if a2 < (t282.length : Int) then (if 0 ≤ ((rd_T68 l0 a1).f1) then (if ((rd_T68 l0 a1).f1) < (((rd_T70 t282 a2).f0).length : Int) then (if a1 < (t282.length : Int) then (if ((rd_T68 l0 a1).f1) < (((rd_T70 t282 a1).f0).length : Int) then (some (decide ((rd ((rd_T70 t282 a2).f0) ((rd_T68 l0 a1).f1)) ≥ (rd ((rd_T70 t282 a1).f0) ((rd_T68 l0 a1).f1))), true)) else (none)) else (none)) else (none)) else (none)) else (none)) else (none))) else (none)) else (none))) else (some (false, false))) = some (r1, r2) := H
 have A8 := Aside0.mk A80
 clear A80
 by_cases c9 : t281 = true
 rotate_left
 ·replace c9 := Bool.eq_false_iff.mpr c9
  subst c9
  have H1 : (some (false, false)) = some (r1, r2) := by rw [if_neg (show ¬ (false = true) by decide)] at H; exact H
  clear H
  have H := H1
  clear H1
  simp only [Option.some.injEq, Prod.mk.injEq] at H
  obtain ⟨rfl, rfl⟩ := H
  go_enter Try.func20, Try.ntmps20
  go_wp2_with (first | (go_at_call 36; (with_reducible refine (impl_areEvents.calls k _ _ l0 true _ ?side1 ?side2 A4.out).mono ?_); (case side1 => exact kc_ HR0.out); (case side2 => exact HC0.out); rintro e w25 ⟨rfl, hb⟩; replace HB := Aside0.mk (below_step bl_ hb); clear hb) | (go_at_call 25; (with_reducible refine (impl_in.calls a1 0 (wrap64 ((l0.length : Int) - 1)) true _ A6.out).mono ?_); rintro e w' ⟨rfl, ⟨nd, rfl⟩⟩; (try first | exact ⟨rfl, _, World.drewN_drewN _ _ _⟩ | exact ⟨rfl, _, Eq.trans (World.drewN_drewN _ _ _) (congrArg (World.drewN _) (Nat.add_assoc _ _ _))⟩)) | (go_at_call 25; (with_reducible refine (impl_in.calls a2 0 (wrap64 ((l0.length : Int) - 1)) false _ A8.out).mono ?_); rintro e w' ⟨rfl, ⟨nd, rfl⟩⟩; (try first | exact ⟨rfl, _, World.drewN_drewN _ _ _⟩ | exact ⟨rfl, _, Eq.trans (World.drewN_drewN _ _ _) (congrArg (World.drewN _) (Nat.add_assoc _ _ _))⟩)))
  repeat (go_quiet (first | (go_at_call 36; (with_reducible refine (impl_areEvents.calls k _ _ l0 true _ ?side1 ?side2 A4.out).mono ?_); (case side1 => exact kc_ HR0.out); (case side2 => exact HC0.out); rintro e w25 ⟨rfl, hb⟩; replace HB := Aside0.mk (below_step bl_ hb); clear hb) | (go_at_call 25; (with_reducible refine (impl_in.calls a1 0 (wrap64 ((l0.length : Int) - 1)) true _ A6.out).mono ?_); rintro e w' ⟨rfl, ⟨nd, rfl⟩⟩; (try first | exact ⟨rfl, _, World.drewN_drewN _ _ _⟩ | exact ⟨rfl, _, Eq.trans (World.drewN_drewN _ _ _) (congrArg (World.drewN _) (Nat.add_assoc _ _ _))⟩)) | (go_at_call 25; (with_reducible refine (impl_in.calls a2 0 (wrap64 ((l0.length : Int) - 1)) false _ A8.out).mono ?_); rintro e w' ⟨rfl, ⟨nd, rfl⟩⟩; (try first | exact ⟨rfl, _, World.drewN_drewN _ _ _⟩ | exact ⟨rfl, _, Eq.trans (World.drewN_drewN _ _ _) (congrArg (World.drewN _) (Nat.add_assoc _ _ _))⟩))); try go_wp2_with (first | (go_at_call 36; (with_reducible refine (impl_areEvents.calls k _ _ l0 true _ ?side1 ?side2 A4.out).mono ?_); (case side1 => exact kc_ HR0.out); (case side2 => exact HC0.out); rintro e w25 ⟨rfl, hb⟩; replace HB := Aside0.mk (below_step bl_ hb); clear hb) | (go_at_call 25; (with_reducible refine (impl_in.calls a1 0 (wrap64 ((l0.length : Int) - 1)) true _ A6.out).mono ?_); rintro e w' ⟨rfl, ⟨nd, rfl⟩⟩; (try first | exact ⟨rfl, _, World.drewN_drewN _ _ _⟩ | exact ⟨rfl, _, Eq.trans (World.drewN_drewN _ _ _) (congrArg (World.drewN _) (Nat.add_assoc _ _ _))⟩)) | (go_at_call 25; (with_reducible refine (impl_in.calls a2 0 (wrap64 ((l0.length : Int) - 1)) false _ A8.out).mono ?_); rintro e w' ⟨rfl, ⟨nd, rfl⟩⟩; (try first | exact ⟨rfl, _, World.drewN_drewN _ _ _⟩ | exact ⟨rfl, _, Eq.trans (World.drewN_drewN _ _ _) (congrArg (World.drewN _) (Nat.add_assoc _ _ _))⟩))))
  go_ret2
  exact ⟨ng_, bl_⟩
 subst c9
 have H1 : ((impl_vectors.f k l0).bind fun t282 => (if 0 ≤ a1 then (if a1 < (l0.length : Int) then (if a1 = a2 then (some (false, true)) else (if 0 ≤ a2 then (if a2 < (t282.length : Int) then (if 0 ≤ ((rd_T68 l0 a1).f1) then (if ((rd_T68 l0 a1).f1) < (((rd_T70 t282 a2).f0).length : Int) then (if a1 < (t282.length : Int) then (if ((rd_T68 l0 a1).f1) < (((rd_T70 t282 a1).f0).length : Int) then (some (decide ((rd ((rd_T70 t282 a2).f0) ((rd_T68 l0 a1).f1)) ≥ (rd ((rd_T70 t282 a1).f0) ((rd_T68 l0 a1).f1))), true)) else (none)) else (none)) else (none)) else (none)) else (none)) else (none))) else (none)) else (none))) = some (r1, r2) := by rw [if_pos rfl] at H; exact H
 clear H
 have H := H1
 clear H1
 replace H := Option.bind_eq_some_iff.mp H
 obtain ⟨t282, A100, H⟩ := H
 replace H : (if 0 ≤ a1 then (if a1 < (l0.length : Int) then (if a1 = a2 then (some (false, true)) else (if 0 ≤ a2 then (if a2 < (t282.length : Int) then (if 0 ≤ ((rd_T68 l0 a1).f1) then (if ((rd_T68 l0 a1).f1) < (((rd_T70 t282 a2).f0).length : Int) then (if a1 < (t282.length : Int) then (if ((rd_T68 l0 a1).f1) < (((rd_T70 t282 a1).f0).length : Int) then (some (decide ((rd ((rd_T70 t282 a2).f0) ((rd_T68 l0 a1).f1)) ≥ (rd ((rd_T70 t282 a1).f0) ((rd_T68 l0 a1).f1))), true)) else (none)) else (none)) else (none)) else (none)) else (none)) else (none))) else (none)) else (none)) = some (r1, r2) := H
 have A10 := Aside0.mk A100
 clear A100
 by_cases c11 : 0 ≤ a1
 rotate_left
 ·rw [if_neg c11] at H
  exact absurd H (by simp)
 rw [if_pos c11] at H
 have c11b0 : decide (0 ≤ a1) = true := decide_eq_true c11
 clear c11
 by_cases c12 : a1 < (l0.length : Int)
 rotate_left
 ·rw [if_neg c12] at H
  exact absurd H (by simp)
 rw [if_pos c12] at H
 have c12b0 : decide (a1 < (l0.length : Int)) = true := decide_eq_true c12
 clear c12
 by_cases c13 : a1 = a2
 ·rw [if_pos c13] at H
  have c13b0 : (a1 == a2) = true := beq_iff_eq.mpr c13
  have c13b1 : (a1 != a2) = false := bne_eq_false_iff_eq.mpr c13
  clear c13
  simp only [Option.some.injEq, Prod.mk.injEq] at H
  obtain ⟨rfl, rfl⟩ := H
  go_enter Try.func20, Try.ntmps20
  go_wp2_with (first | (go_at_call 36; (with_reducible refine (impl_areEvents.calls k _ _ l0 true _ ?side1 ?side2 A4.out).mono ?_); (case side1 => exact kc_ HR0.out); (case side2 => exact HC0.out); rintro e w14 ⟨rfl, hb⟩; replace HB := Aside0.mk (below_step bl_ hb); clear hb) | (go_at_call 25; (with_reducible refine (impl_in.calls a1 0 (wrap64 ((l0.length : Int) - 1)) true _ A6.out).mono ?_); rintro e w' ⟨rfl, ⟨nd, rfl⟩⟩; (try first | exact ⟨rfl, _, World.drewN_drewN _ _ _⟩ | exact ⟨rfl, _, Eq.trans (World.drewN_drewN _ _ _) (congrArg (World.drewN _) (Nat.add_assoc _ _ _))⟩)) | (go_at_call 25; (with_reducible refine (impl_in.calls a2 0 (wrap64 ((l0.length : Int) - 1)) true _ A8.out).mono ?_); rintro e w' ⟨rfl, ⟨nd, rfl⟩⟩; (try first | exact ⟨rfl, _, World.drewN_drewN _ _ _⟩ | exact ⟨rfl, _, Eq.trans (World.drewN_drewN _ _ _) (congrArg (World.drewN _) (Nat.add_assoc _ _ _))⟩)) | (go_at_call 40; (with_reducible refine (impl_vectors.calls k _ _ l0 t282 _ ?side1 ?side2 A10.out).mono ?_); (case side1 => exact kc_ (Kd.C_below HR0.out bl_)); (case side2 => exact HC0.out); rintro e w15 ⟨v283, rfl, ho0, hb⟩; have HO284 := Aside0.mk (Kd.S_lower ho0 bz_); replace HB := Aside0.mk (below_step bl_ hb); clear hb ho0; have p285 : 0 ≤ (a1 : Int) := of_decide_eq_true (by first | (with_reducible assumption) | assumption); have q285 : a1 < (l0.length : Int) := of_decide_eq_true (by first | (with_reducible assumption) | assumption); obtain ⟨ad285, e285, hx285_0, hx285_1, hx285_2⟩ := at_T68 HR0.out a1 p285 q285; cases e285; replace hx285_0 := (HB.out.cell (World.block_lt_of_cell? w _ hx285_0)).trans hx285_0; replace hx285_1 := (HB.out.cell (World.block_lt_of_cell? w _ hx285_1)).trans hx285_1; replace hx285_2 := (HB.out.cell (World.block_lt_of_cell? w _ hx285_2)).trans hx285_2; replace p285 := eq_true p285; replace q285 := eq_true q285))
  repeat (go_quiet (first | (go_at_call 36; (with_reducible refine (impl_areEvents.calls k _ _ l0 true _ ?side1 ?side2 A4.out).mono ?_); (case side1 => exact kc_ HR0.out); (case side2 => exact HC0.out); rintro e w14 ⟨rfl, hb⟩; replace HB := Aside0.mk (below_step bl_ hb); clear hb) | (go_at_call 25; (with_reducible refine (impl_in.calls a1 0 (wrap64 ((l0.length : Int) - 1)) true _ A6.out).mono ?_); rintro e w' ⟨rfl, ⟨nd, rfl⟩⟩; (try first | exact ⟨rfl, _, World.drewN_drewN _ _ _⟩ | exact ⟨rfl, _, Eq.trans (World.drewN_drewN _ _ _) (congrArg (World.drewN _) (Nat.add_assoc _ _ _))⟩)) | (go_at_call 25; (with_reducible refine (impl_in.calls a2 0 (wrap64 ((l0.length : Int) - 1)) true _ A8.out).mono ?_); rintro e w' ⟨rfl, ⟨nd, rfl⟩⟩; (try first | exact ⟨rfl, _, World.drewN_drewN _ _ _⟩ | exact ⟨rfl, _, Eq.trans (World.drewN_drewN _ _ _) (congrArg (World.drewN _) (Nat.add_assoc _ _ _))⟩)) | (go_at_call 40; (with_reducible refine (impl_vectors.calls k _ _ l0 t282 _ ?side1 ?side2 A10.out).mono ?_); (case side1 => exact kc_ (Kd.C_below HR0.out bl_)); (case side2 => exact HC0.out); rintro e w15 ⟨v283, rfl, ho0, hb⟩; have HO284 := Aside0.mk (Kd.S_lower ho0 bz_); replace HB := Aside0.mk (below_step bl_ hb); clear hb ho0; have p285 : 0 ≤ (a1 : Int) := of_decide_eq_true (by first | (with_reducible assumption) | assumption); have q285 : a1 < (l0.length : Int) := of_decide_eq_true (by first | (with_reducible assumption) | assumption); obtain ⟨ad285, e285, hx285_0, hx285_1, hx285_2⟩ := at_T68 HR0.out a1 p285 q285; cases e285; replace hx285_0 := (HB.out.cell (World.block_lt_of_cell? w _ hx285_0)).trans hx285_0; replace hx285_1 := (HB.out.cell (World.block_lt_of_cell? w _ hx285_1)).trans hx285_1; replace hx285_2 := (HB.out.cell (World.block_lt_of_cell? w _ hx285_2)).trans hx285_2; replace p285 := eq_true p285; replace q285 := eq_true q285)); try go_wp2_with (first | (go_at_call 36; (with_reducible refine (impl_areEvents.calls k _ _ l0 true _ ?side1 ?side2 A4.out).mono ?_); (case side1 => exact kc_ HR0.out); (case side2 => exact HC0.out); rintro e w14 ⟨rfl, hb⟩; replace HB := Aside0.mk (below_step bl_ hb); clear hb) | (go_at_call 25; (with_reducible refine (impl_in.calls a1 0 (wrap64 ((l0.length : Int) - 1)) true _ A6.out).mono ?_); rintro e w' ⟨rfl, ⟨nd, rfl⟩⟩; (try first | exact ⟨rfl, _, World.drewN_drewN _ _ _⟩ | exact ⟨rfl, _, Eq.trans (World.drewN_drewN _ _ _) (congrArg (World.drewN _) (Nat.add_assoc _ _ _))⟩)) | (go_at_call 25; (with_reducible refine (impl_in.calls a2 0 (wrap64 ((l0.length : Int) - 1)) true _ A8.out).mono ?_); rintro e w' ⟨rfl, ⟨nd, rfl⟩⟩; (try first | exact ⟨rfl, _, World.drewN_drewN _ _ _⟩ | exact ⟨rfl, _, Eq.trans (World.drewN_drewN _ _ _) (congrArg (World.drewN _) (Nat.add_assoc _ _ _))⟩)) | (go_at_call 40; (with_reducible refine (impl_vectors.calls k _ _ l0 t282 _ ?side1 ?side2 A10.out).mono ?_); (case side1 => exact kc_ (Kd.C_below HR0.out bl_)); (case side2 => exact HC0.out); rintro e w15 ⟨v283, rfl, ho0, hb⟩; have HO284 := Aside0.mk (Kd.S_lower ho0 bz_); replace HB := Aside0.mk (below_step bl_ hb); clear hb ho0; have p285 : 0 ≤ (a1 : Int) := of_decide_eq_true (by first | (with_reducible assumption) | assumption); have q285 : a1 < (l0.length : Int) := of_decide_eq_true (by first | (with_reducible assumption) | assumption); obtain ⟨ad285, e285, hx285_0, hx285_1, hx285_2⟩ := at_T68 HR0.out a1 p285 q285; cases e285; replace hx285_0 := (HB.out.cell (World.block_lt_of_cell? w _ hx285_0)).trans hx285_0; replace hx285_1 := (HB.out.cell (World.block_lt_of_cell? w _ hx285_1)).trans hx285_1; replace hx285_2 := (HB.out.cell (World.block_lt_of_cell? w _ hx285_2)).trans hx285_2; replace p285 := eq_true p285; replace q285 := eq_true q285)))
  go_ret2
  exact ⟨ng_, bl_⟩
 rw [if_neg c13] at H
 have c13b0 : (a1 == a2) = false := beq_eq_false_iff_ne.mpr c13
 have c13b1 : (a1 != a2) = true := bne_iff_ne.mpr c13
 by_cases c16 : 0 ≤ a2
 rotate_left
 ·rw [if_neg c16] at H
  exact absurd H (by simp)
 rw [if_pos c16] at H
 have c16b0 : decide (0 ≤ a2) = true := decide_eq_true c16
 clear c16
 by_cases c17 : a2 < (t282.length : Int)
 rotate_left
 ·rw [if_neg c17] at H
  exact absurd H (by simp)
 rw [if_pos c17] at H
 have c17b0 : decide (a2 < (t282.length : Int)) = true := decide_eq_true c17
 clear c17
 by_cases c18 : 0 ≤ ((rd_T68 l0 a1).f1)
 rotate_left
 ·rw [if_neg c18] at H
  exact absurd H (by simp)
 rw [if_pos c18] at H
 have c18b0 : decide (0 ≤ ((rd_T68 l0 a1).f1)) = true := decide_eq_true c18
 clear c18
 by_cases c19 : ((rd_T68 l0 a1).f1) < (((rd_T70 t282 a2).f0).length : Int)
 rotate_left
 ·rw [if_neg c19] at H
  exact absurd H (by simp)
 rw [if_pos c19] at H
 have c19b0 : decide (((rd_T68 l0 a1).f1) < (((rd_T70 t282 a2).f0).length : Int)) = true := decide_eq_true c19
 clear c19
 by_cases c20 : a1 < (t282.length : Int)
 rotate_left
 ·rw [if_neg c20] at H
  exact absurd H (by simp)
 rw [if_pos c20] at H
 have c20b0 : decide (a1 < (t282.length : Int)) = true := decide_eq_true c20
 clear c20
 by_cases c21 : ((rd_T68 l0 a1).f1) < (((rd_T70 t282 a1).f0).length : Int)
 rotate_left
 ·rw [if_neg c21] at H
  exact absurd H (by simp)
 rw [if_pos c21] at H
 have c21b0 : decide (((rd_T68 l0 a1).f1) < (((rd_T70 t282 a1).f0).length : Int)) = true := decide_eq_true c21
 clear c21
 simp only [Option.some.injEq, Prod.mk.injEq] at H
 obtain ⟨rfl, rfl⟩ := H
 go_enter Try.func20, Try.ntmps20
 go_wp2_with (first | (go_at_call 36; (with_reducible refine (impl_areEvents.calls k _ _ l0 true _ ?side1 ?side2 A4.out).mono ?_); (case side1 => exact kc_ HR0.out); (case side2 => exact HC0.out); rintro e w22 ⟨rfl, hb⟩; replace HB := Aside0.mk (below_step bl_ hb); clear hb) | (go_at_call 25; (with_reducible refine (impl_in.calls a1 0 (wrap64 ((l0.length : Int) - 1)) true _ A6.out).mono ?_); rintro e w' ⟨rfl, ⟨nd, rfl⟩⟩; (try first | exact ⟨rfl, _, World.drewN_drewN _ _ _⟩ | exact ⟨rfl, _, Eq.trans (World.drewN_drewN _ _ _) (congrArg (World.drewN _) (Nat.add_assoc _ _ _))⟩)) | (go_at_call 25; (with_reducible refine (impl_in.calls a2 0 (wrap64 ((l0.length : Int) - 1)) true _ A8.out).mono ?_); rintro e w' ⟨rfl, ⟨nd, rfl⟩⟩; (try first | exact ⟨rfl, _, World.drewN_drewN _ _ _⟩ | exact ⟨rfl, _, Eq.trans (World.drewN_drewN _ _ _) (congrArg (World.drewN _) (Nat.add_assoc _ _ _))⟩)) | (go_at_call 40; (with_reducible refine (impl_vectors.calls k _ _ l0 t282 _ ?side1 ?side2 A10.out).mono ?_); (case side1 => exact kc_ (Kd.C_below HR0.out bl_)); (case side2 => exact HC0.out); rintro e w23 ⟨v283, rfl, ho0, hb⟩; have HO284 := Aside0.mk (Kd.S_lower ho0 bz_); replace HB := Aside0.mk (below_step bl_ hb); clear hb ho0; have p285 : 0 ≤ (a1 : Int) := of_decide_eq_true (by first | (with_reducible assumption) | assumption); have q285 : a1 < (l0.length : Int) := of_decide_eq_true (by first | (with_reducible assumption) | assumption); obtain ⟨ad285, e285, hx285_0, hx285_1, hx285_2⟩ := at_T68 HR0.out a1 p285 q285; cases e285; replace hx285_0 := (HB.out.cell (World.block_lt_of_cell? w _ hx285_0)).trans hx285_0; replace hx285_1 := (HB.out.cell (World.block_lt_of_cell? w _ hx285_1)).trans hx285_1; replace hx285_2 := (HB.out.cell (World.block_lt_of_cell? w _ hx285_2)).trans hx285_2; replace p285 := eq_true p285; replace q285 := eq_true q285; obtain ⟨Ao24, co24, eo24⟩ := Kd.S_slice HO284.out; subst eo24; have p286 : 0 ≤ (a2 : Int) := of_decide_eq_true (by first | (with_reducible assumption) | assumption); have q286 : a2 < (t282.length : Int) := of_decide_eq_true (by first | (with_reducible assumption) | assumption); obtain ⟨ad286, A286_0, c286_0, e286, hx286_0, hl286_0, hi286_0⟩ := at_T70 (Kd.S_reads' HO284.out).2.2 a2 p286 q286; cases e286; obtain ⟨ce286, hce286, hMe286, hcc286⟩ := Kd.S_get HO284.out z70 a2 p286 (by first | exact q286 | exact of_decide_eq_true (by first | (with_reducible assumption) | assumption) | (have e_ := (Kd.S_reads' HO284.out).1; omega)); obtain ⟨ve286_0, rfl, ge286_0⟩ := k70_openM hMe286; have hv286_0 := hcc286 0 _ rfl; rw [Nat.add_zero, show (k70).sz = 1 from rfl, Nat.mul_one] at hv286_0; replace hv286_0 := Option.some.inj (hv286_0.symm.trans hx286_0); rw [hv286_0] at ge286_0; have HL286_0 := Aside0.mk (show Kd.R (Kd.int .i64) 3 _ _ _ _ ((rd_T70 t282 a2).f0) from ge286_0); clear hv286_0 ge286_0 hcc286 hce286; have HR286_0 := Aside0.mk hi286_0; have HC286_0 := Aside0.mk hl286_0; clear hi286_0 hl286_0; replace p286 := eq_true p286; replace q286 := eq_true q286; have p287 : 0 ≤ (((rd_T68 l0 a1).f1) : Int) := of_decide_eq_true (by first | (with_reducible assumption) | assumption); have q287 : ((rd_T68 l0 a1).f1) < (((rd_T70 t282 a2).f0).length : Int) := of_decide_eq_true (by first | (with_reducible assumption) | assumption); obtain ⟨ad287, e287, hx287_0⟩ := Kd.at_int (by repeat (first | (with_reducible exact HR286_0.out) | (with_reducible refine Kd.C_alloc ?_ _) | (with_reducible refine Kd.C_drewN ?_ _) | (with_reducible refine Kd.C_drew ?_) | exact HR286_0.out)) ((rd_T68 l0 a1).f1) p287 q287; cases e287; replace p287 := eq_true p287; replace q287 := eq_true q287; have p288 : 0 ≤ (a1 : Int) := of_decide_eq_true (by first | (with_reducible assumption) | assumption); have q288 : a1 < (t282.length : Int) := of_decide_eq_true (by first | (with_reducible assumption) | assumption); obtain ⟨ad288, A288_0, c288_0, e288, hx288_0, hl288_0, hi288_0⟩ := at_T70 (Kd.S_reads' HO284.out).2.2 a1 p288 q288; obtain rfl : ad286 = ad288 := (by injection e288); obtain ⟨ce288, hce288, hMe288, hcc288⟩ := Kd.S_get HO284.out z70 a1 p288 (by first | exact q288 | exact of_decide_eq_true (by first | (with_reducible assumption) | assumption) | (have e_ := (Kd.S_reads' HO284.out).1; omega)); obtain ⟨ve288_0, rfl, ge288_0⟩ := k70_openM hMe288; have hv288_0 := hcc288 0 _ rfl; rw [Nat.add_zero, show (k70).sz = 1 from rfl, Nat.mul_one] at hv288_0; replace hv288_0 := Option.some.inj (hv288_0.symm.trans hx288_0); rw [hv288_0] at ge288_0; have HL288_0 := Aside0.mk (show Kd.R (Kd.int .i64) 3 _ _ _ _ ((rd_T70 t282 a1).f0) from ge288_0); clear hv288_0 ge288_0 hcc288 hce288; have HR288_0 := Aside0.mk hi288_0; have HC288_0 := Aside0.mk hl288_0; clear hi288_0 hl288_0; replace p288 := eq_true p288; replace q288 := eq_true q288; have p289 : 0 ≤ (((rd_T68 l0 a1).f1) : Int) := of_decide_eq_true (by first | (with_reducible assumption) | assumption); have q289 : ((rd_T68 l0 a1).f1) < (((rd_T70 t282 a1).f0).length : Int) := of_decide_eq_true (by first | (with_reducible assumption) | assumption); obtain ⟨ad289, e289, hx289_0⟩ := Kd.at_int (by repeat (first | (with_reducible exact HR288_0.out) | (with_reducible refine Kd.C_alloc ?_ _) | (with_reducible refine Kd.C_drewN ?_ _) | (with_reducible refine Kd.C_drew ?_) | exact HR288_0.out)) ((rd_T68 l0 a1).f1) p289 q289; cases e289; replace p289 := eq_true p289; replace q289 := eq_true q289))
 repeat (go_quiet (first | (go_at_call 36; (with_reducible refine (impl_areEvents.calls k _ _ l0 true _ ?side1 ?side2 A4.out).mono ?_); (case side1 => exact kc_ HR0.out); (case side2 => exact HC0.out); rintro e w22 ⟨rfl, hb⟩; replace HB := Aside0.mk (below_step bl_ hb); clear hb) | (go_at_call 25; (with_reducible refine (impl_in.calls a1 0 (wrap64 ((l0.length : Int) - 1)) true _ A6.out).mono ?_); rintro e w' ⟨rfl, ⟨nd, rfl⟩⟩; (try first | exact ⟨rfl, _, World.drewN_drewN _ _ _⟩ | exact ⟨rfl, _, Eq.trans (World.drewN_drewN _ _ _) (congrArg (World.drewN _) (Nat.add_assoc _ _ _))⟩)) | (go_at_call 25; (with_reducible refine (impl_in.calls a2 0 (wrap64 ((l0.length : Int) - 1)) true _ A8.out).mono ?_); rintro e w' ⟨rfl, ⟨nd, rfl⟩⟩; (try first | exact ⟨rfl, _, World.drewN_drewN _ _ _⟩ | exact ⟨rfl, _, Eq.trans (World.drewN_drewN _ _ _) (congrArg (World.drewN _) (Nat.add_assoc _ _ _))⟩)) | (go_at_call 40; (with_reducible refine (impl_vectors.calls k _ _ l0 t282 _ ?side1 ?side2 A10.out).mono ?_); (case side1 => exact kc_ (Kd.C_below HR0.out bl_)); (case side2 => exact HC0.out); rintro e w23 ⟨v283, rfl, ho0, hb⟩; have HO284 := Aside0.mk (Kd.S_lower ho0 bz_); replace HB := Aside0.mk (below_step bl_ hb); clear hb ho0; have p285 : 0 ≤ (a1 : Int) := of_decide_eq_true (by first | (with_reducible assumption) | assumption); have q285 : a1 < (l0.length : Int) := of_decide_eq_true (by first | (with_reducible assumption) | assumption); obtain ⟨ad285, e285, hx285_0, hx285_1, hx285_2⟩ := at_T68 HR0.out a1 p285 q285; cases e285; replace hx285_0 := (HB.out.cell (World.block_lt_of_cell? w _ hx285_0)).trans hx285_0; replace hx285_1 := (HB.out.cell (World.block_lt_of_cell? w _ hx285_1)).trans hx285_1; replace hx285_2 := (HB.out.cell (World.block_lt_of_cell? w _ hx285_2)).trans hx285_2; replace p285 := eq_true p285; replace q285 := eq_true q285; obtain ⟨Ao24, co24, eo24⟩ := Kd.S_slice HO284.out; subst eo24; have p286 : 0 ≤ (a2 : Int) := of_decide_eq_true (by first | (with_reducible assumption) | assumption); have q286 : a2 < (t282.length : Int) := of_decide_eq_true (by first | (with_reducible assumption) | assumption); obtain ⟨ad286, A286_0, c286_0, e286, hx286_0, hl286_0, hi286_0⟩ := at_T70 (Kd.S_reads' HO284.out).2.2 a2 p286 q286; cases e286; obtain ⟨ce286, hce286, hMe286, hcc286⟩ := Kd.S_get HO284.out z70 a2 p286 (by first | exact q286 | exact of_decide_eq_true (by first | (with_reducible assumption) | assumption) | (have e_ := (Kd.S_reads' HO284.out).1; omega)); obtain ⟨ve286_0, rfl, ge286_0⟩ := k70_openM hMe286; have hv286_0 := hcc286 0 _ rfl; rw [Nat.add_zero, show (k70).sz = 1 from rfl, Nat.mul_one] at hv286_0; replace hv286_0 := Option.some.inj (hv286_0.symm.trans hx286_0); rw [hv286_0] at ge286_0; have HL286_0 := Aside0.mk (show Kd.R (Kd.int .i64) 3 _ _ _ _ ((rd_T70 t282 a2).f0) from ge286_0); clear hv286_0 ge286_0 hcc286 hce286; have HR286_0 := Aside0.mk hi286_0; have HC286_0 := Aside0.mk hl286_0; clear hi286_0 hl286_0; replace p286 := eq_true p286; replace q286 := eq_true q286; have p287 : 0 ≤ (((rd_T68 l0 a1).f1) : Int) := of_decide_eq_true (by first | (with_reducible assumption) | assumption); have q287 : ((rd_T68 l0 a1).f1) < (((rd_T70 t282 a2).f0).length : Int) := of_decide_eq_true (by first | (with_reducible assumption) | assumption); obtain ⟨ad287, e287, hx287_0⟩ := Kd.at_int (by repeat (first | (with_reducible exact HR286_0.out) | (with_reducible refine Kd.C_alloc ?_ _) | (with_reducible refine Kd.C_drewN ?_ _) | (with_reducible refine Kd.C_drew ?_) | exact HR286_0.out)) ((rd_T68 l0 a1).f1) p287 q287; cases e287; replace p287 := eq_true p287; replace q287 := eq_true q287; have p288 : 0 ≤ (a1 : Int) := of_decide_eq_true (by first | (with_reducible assumption) | assumption); have q288 : a1 < (t282.length : Int) := of_decide_eq_true (by first | (with_reducible assumption) | assumption); obtain ⟨ad288, A288_0, c288_0, e288, hx288_0, hl288_0, hi288_0⟩ := at_T70 (Kd.S_reads' HO284.out).2.2 a1 p288 q288; obtain rfl : ad286 = ad288 := (by injection e288); obtain ⟨ce288, hce288, hMe288, hcc288⟩ := Kd.S_get HO284.out z70 a1 p288 (by first | exact q288 | exact of_decide_eq_true (by first | (with_reducible assumption) | assumption) | (have e_ := (Kd.S_reads' HO284.out).1; omega)); obtain ⟨ve288_0, rfl, ge288_0⟩ := k70_openM hMe288; have hv288_0 := hcc288 0 _ rfl; rw [Nat.add_zero, show (k70).sz = 1 from rfl, Nat.mul_one] at hv288_0; replace hv288_0 := Option.some.inj (hv288_0.symm.trans hx288_0); rw [hv288_0] at ge288_0; have HL288_0 := Aside0.mk (show Kd.R (Kd.int .i64) 3 _ _ _ _ ((rd_T70 t282 a1).f0) from ge288_0); clear hv288_0 ge288_0 hcc288 hce288; have HR288_0 := Aside0.mk hi288_0; have HC288_0 := Aside0.mk hl288_0; clear hi288_0 hl288_0; replace p288 := eq_true p288; replace q288 := eq_true q288; have p289 : 0 ≤ (((rd_T68 l0 a1).f1) : Int) := of_decide_eq_true (by first | (with_reducible assumption) | assumption); have q289 : ((rd_T68 l0 a1).f1) < (((rd_T70 t282 a1).f0).length : Int) := of_decide_eq_true (by first | (with_reducible assumption) | assumption); obtain ⟨ad289, e289, hx289_0⟩ := Kd.at_int (by repeat (first | (with_reducible exact HR288_0.out) | (with_reducible refine Kd.C_alloc ?_ _) | (with_reducible refine Kd.C_drewN ?_ _) | (with_reducible refine Kd.C_drew ?_) | exact HR288_0.out)) ((rd_T68 l0 a1).f1) p289 q289; cases e289; replace p289 := eq_true p289; replace q289 := eq_true q289)); try go_wp2_with (first | (go_at_call 36; (with_reducible refine (impl_areEvents.calls k _ _ l0 true _ ?side1 ?side2 A4.out).mono ?_); (case side1 => exact kc_ HR0.out); (case side2 => exact HC0.out); rintro e w22 ⟨rfl, hb⟩; replace HB := Aside0.mk (below_step bl_ hb); clear hb) | (go_at_call 25; (with_reducible refine (impl_in.calls a1 0 (wrap64 ((l0.length : Int) - 1)) true _ A6.out).mono ?_); rintro e w' ⟨rfl, ⟨nd, rfl⟩⟩; (try first | exact ⟨rfl, _, World.drewN_drewN _ _ _⟩ | exact ⟨rfl, _, Eq.trans (World.drewN_drewN _ _ _) (congrArg (World.drewN _) (Nat.add_assoc _ _ _))⟩)) | (go_at_call 25; (with_reducible refine (impl_in.calls a2 0 (wrap64 ((l0.length : Int) - 1)) true _ A8.out).mono ?_); rintro e w' ⟨rfl, ⟨nd, rfl⟩⟩; (try first | exact ⟨rfl, _, World.drewN_drewN _ _ _⟩ | exact ⟨rfl, _, Eq.trans (World.drewN_drewN _ _ _) (congrArg (World.drewN _) (Nat.add_assoc _ _ _))⟩)) | (go_at_call 40; (with_reducible refine (impl_vectors.calls k _ _ l0 t282 _ ?side1 ?side2 A10.out).mono ?_); (case side1 => exact kc_ (Kd.C_below HR0.out bl_)); (case side2 => exact HC0.out); rintro e w23 ⟨v283, rfl, ho0, hb⟩; have HO284 := Aside0.mk (Kd.S_lower ho0 bz_); replace HB := Aside0.mk (below_step bl_ hb); clear hb ho0; have p285 : 0 ≤ (a1 : Int) := of_decide_eq_true (by first | (with_reducible assumption) | assumption); have q285 : a1 < (l0.length : Int) := of_decide_eq_true (by first | (with_reducible assumption) | assumption); obtain ⟨ad285, e285, hx285_0, hx285_1, hx285_2⟩ := at_T68 HR0.out a1 p285 q285; cases e285; replace hx285_0 := (HB.out.cell (World.block_lt_of_cell? w _ hx285_0)).trans hx285_0; replace hx285_1 := (HB.out.cell (World.block_lt_of_cell? w _ hx285_1)).trans hx285_1; replace hx285_2 := (HB.out.cell (World.block_lt_of_cell? w _ hx285_2)).trans hx285_2; replace p285 := eq_true p285; replace q285 := eq_true q285; obtain ⟨Ao24, co24, eo24⟩ := Kd.S_slice HO284.out; subst eo24; have p286 : 0 ≤ (a2 : Int) := of_decide_eq_true (by first | (with_reducible assumption) | assumption); have q286 : a2 < (t282.length : Int) := of_decide_eq_true (by first | (with_reducible assumption) | assumption); obtain ⟨ad286, A286_0, c286_0, e286, hx286_0, hl286_0, hi286_0⟩ := at_T70 (Kd.S_reads' HO284.out).2.2 a2 p286 q286; cases e286; obtain ⟨ce286, hce286, hMe286, hcc286⟩ := Kd.S_get HO284.out z70 a2 p286 (by first | exact q286 | exact of_decide_eq_true (by first | (with_reducible assumption) | assumption) | (have e_ := (Kd.S_reads' HO284.out).1; omega)); obtain ⟨ve286_0, rfl, ge286_0⟩ := k70_openM hMe286; have hv286_0 := hcc286 0 _ rfl; rw [Nat.add_zero, show (k70).sz = 1 from rfl, Nat.mul_one] at hv286_0; replace hv286_0 := Option.some.inj (hv286_0.symm.trans hx286_0); rw [hv286_0] at ge286_0; have HL286_0 := Aside0.mk (show Kd.R (Kd.int .i64) 3 _ _ _ _ ((rd_T70 t282 a2).f0) from ge286_0); clear hv286_0 ge286_0 hcc286 hce286; have HR286_0 := Aside0.mk hi286_0; have HC286_0 := Aside0.mk hl286_0; clear hi286_0 hl286_0; replace p286 := eq_true p286; replace q286 := eq_true q286; have p287 : 0 ≤ (((rd_T68 l0 a1).f1) : Int) := of_decide_eq_true (by first | (with_reducible assumption) | assumption); have q287 : ((rd_T68 l0 a1).f1) < (((rd_T70 t282 a2).f0).length : Int) := of_decide_eq_true (by first | (with_reducible assumption) | assumption); obtain ⟨ad287, e287, hx287_0⟩ := Kd.at_int (by repeat (first | (with_reducible exact HR286_0.out) | (with_reducible refine Kd.C_alloc ?_ _) | (with_reducible refine Kd.C_drewN ?_ _) | (with_reducible refine Kd.C_drew ?_) | exact HR286_0.out)) ((rd_T68 l0 a1).f1) p287 q287; cases e287; replace p287 := eq_true p287; replace q287 := eq_true q287; have p288 : 0 ≤ (a1 : Int) := of_decide_eq_true (by first | (with_reducible assumption) | assumption); have q288 : a1 < (t282.length : Int) := of_decide_eq_true (by first | (with_reducible assumption) | assumption); obtain ⟨ad288, A288_0, c288_0, e288, hx288_0, hl288_0, hi288_0⟩ := at_T70 (Kd.S_reads' HO284.out).2.2 a1 p288 q288; obtain rfl : ad286 = ad288 := (by injection e288); obtain ⟨ce288, hce288, hMe288, hcc288⟩ := Kd.S_get HO284.out z70 a1 p288 (by first | exact q288 | exact of_decide_eq_true (by first | (with_reducible assumption) | assumption) | (have e_ := (Kd.S_reads' HO284.out).1; omega)); obtain ⟨ve288_0, rfl, ge288_0⟩ := k70_openM hMe288; have hv288_0 := hcc288 0 _ rfl; rw [Nat.add_zero, show (k70).sz = 1 from rfl, Nat.mul_one] at hv288_0; replace hv288_0 := Option.some.inj (hv288_0.symm.trans hx288_0); rw [hv288_0] at ge288_0; have HL288_0 := Aside0.mk (show Kd.R (Kd.int .i64) 3 _ _ _ _ ((rd_T70 t282 a1).f0) from ge288_0); clear hv288_0 ge288_0 hcc288 hce288; have HR288_0 := Aside0.mk hi288_0; have HC288_0 := Aside0.mk hl288_0; clear hi288_0 hl288_0; replace p288 := eq_true p288; replace q288 := eq_true q288; have p289 : 0 ≤ (((rd_T68 l0 a1).f1) : Int) := of_decide_eq_true (by first | (with_reducible assumption) | assumption); have q289 : ((rd_T68 l0 a1).f1) < (((rd_T70 t282 a1).f0).length : Int) := of_decide_eq_true (by first | (with_reducible assumption) | assumption); obtain ⟨ad289, e289, hx289_0⟩ := Kd.at_int (by repeat (first | (with_reducible exact HR288_0.out) | (with_reducible refine Kd.C_alloc ?_ _) | (with_reducible refine Kd.C_drewN ?_ _) | (with_reducible refine Kd.C_drew ?_) | exact HR288_0.out)) ((rd_T68 l0 a1).f1) p289 q289; cases e289; replace p289 := eq_true p289; replace q289 := eq_true q289)))
 go_ret2
 exact ⟨ng_, bl_⟩

/-! ### spec_l2Before: function 41 -/
def spec_l2Before.l0 : Nat → List (S68) → Int → List Bool → Int → Option (List Bool)
 | 0, _, _, _, _ => none
 | k + 1, x0, x1, x5, x6 => if x6 ≥ 0 then (if 0 ≤ x6 then (if x6 < (x5.length : Int) then (if rdOf false x5 x6 = true then ((spec_l2Causes.f k x0 x6).bind fun bt296 => (if bt296.1 ≥ 0 then (if 0 ≤ bt296.1 then (if bt296.1 < (x5.length : Int) then ((some (x5.set (bt296.1 : Int).toNat true : List Bool)).bind fun y298 => (if bt296.2 ≥ 0 then (if 0 ≤ bt296.2 then (if bt296.2 < (x5.length : Int) then (spec_l2Before.l0 k x0 x1 (y298.set (bt296.2 : Int).toNat true) (wrap64 (x6 - 1))) else (none)) else (none)) else (spec_l2Before.l0 k x0 x1 y298 (wrap64 (x6 - 1))))) else (none)) else (none)) else (if bt296.2 ≥ 0 then (if 0 ≤ bt296.2 then (if bt296.2 < (x5.length : Int) then (spec_l2Before.l0 k x0 x1 (x5.set (bt296.2 : Int).toNat true) (wrap64 (x6 - 1))) else (none)) else (none)) else (spec_l2Before.l0 k x0 x1 x5 (wrap64 (x6 - 1)))))) else (spec_l2Before.l0 k x0 x1 x5 (wrap64 (x6 - 1)))) else (none)) else (none)) else (if 0 ≤ x1 then (if x1 < (x5.length : Int) then (some (x5.set (x1 : Int).toNat false)) else (none)) else (none))
def spec_l2Before.f (k : Nat) (l0 : List (S68)) (a1 : Int) : Option (List Bool) := if 0 ≤ (l0.length : Int) then (if ((l0.length : Int) : Int).toNat ≤ 281474976710656 then ((some (List.replicate ((l0.length : Int) : Int).toNat false : List Bool)).bind fun y290 => (if 0 ≤ a1 then (if a1 < (y290.length : Int) then (spec_l2Before.l0 k l0 a1 (y290.set (a1 : Int).toNat true) a1) else (none)) else (none))) else (none)) else (none)
theorem spec_l2Before.mono_l : ∀ k, (∀ y0 y1 y2 y3, LeO (spec_l2Before.l0 k y0 y1 y2 y3) (spec_l2Before.l0 (k + 1) y0 y1 y2 y3))
 | 0 => fun _ _ _ _ r h => by simp [spec_l2Before.l0] at h
 | k + 1 => by
  have ih0 := spec_l2Before.mono_l k
  ·intro y0 y1 y2 y3
   unfold spec_l2Before.l0
   repeat' first
   | (with_reducible exact ih0 _ _ _ _)
   | (with_reducible exact spec_l2Causes.mono _ _ _)
   | (with_reducible exact LeO.refl _)
   | (with_reducible exact LeO.none _)
   | (with_reducible refine LeO.ite ?_ ?_)
   | (with_reducible refine LeO.bind ?_ (fun _ => ?_))
   | exact ih0 _ _ _ _
   | exact spec_l2Causes.mono _ _ _
   | exact LeO.none _
   | refine LeO.ite ?_ ?_
   | refine LeO.bind ?_ (fun _ => ?_)
theorem spec_l2Before.mono : ∀ a0 a1 k, LeO (spec_l2Before.f k a0 a1) (spec_l2Before.f (k + 1) a0 a1) := by
 intro a0 a1 k
 have ih0 := spec_l2Before.mono_l k
 unfold spec_l2Before.f
 repeat' first
   | (with_reducible exact ih0 _ _ _ _)
   | (with_reducible exact spec_l2Causes.mono _ _ _)
   | (with_reducible exact LeO.refl _)
   | (with_reducible exact LeO.none _)
   | (with_reducible refine LeO.ite ?_ ?_)
   | (with_reducible refine LeO.bind ?_ (fun _ => ?_))
   | exact ih0 _ _ _ _
   | exact spec_l2Causes.mono _ _ _
   | exact LeO.none _
   | refine LeO.ite ?_ ?_
   | refine LeO.bind ?_ (fun _ => ?_)
set_option maxHeartbeats 8000000 in
set_option maxRecDepth 100000 in
theorem spec_l2Before.calls (k : Nat) (A0 : Option Addr) (c0 : Nat) (l0 : List (S68)) (a1 : Int) (r : List Bool) (w : World) (hr0 : Kd.C k68 w A0 l0.length l0) (hc0 : l0.length ≤ c0) (h : spec_l2Before.f k l0 a1 = some r) :
  Calls Try.prog 41 #[.slice A0 l0.length c0, .int .i64 a1] w fun e w' => ∃ v0_ : Value, e = .returned (v0_) ∧ Kd.R Kd.bool 4 w' w.heap.size (fun _ => True) v0_ r ∧ Below w.heap.size w w' := by
 have HR0 := Aside0.mk hr0
 have HC0 := Aside0.mk hc0
 clear hr0 hc0
 have HB := Aside0.mk (Below.refl w.heap.size w)
 have H : (if 0 ≤ (l0.length : Int) then (if ((l0.length : Int) : Int).toNat ≤ 281474976710656 then ((some (List.replicate ((l0.length : Int) : Int).toNat false : List Bool)).bind fun y290 => (if 0 ≤ a1 then (if a1 < (y290.length : Int) then (spec_l2Before.l0 k l0 a1 (y290.set (a1 : Int).toNat true) a1) else (none)) else (none))) else (none)) else (none)) = some r := h
 clear h
 by_cases c3 : 0 ≤ (l0.length : Int)
 rotate_left
 ·rw [if_neg c3] at H
  exact absurd H (by simp)
 rw [if_pos c3] at H
 have c3b0 := eq_true c3
 have c3b1 : decide (0 ≤ (l0.length : Int)) = true := decide_eq_true c3
 clear c3
 by_cases c4 : ((l0.length : Int) : Int).toNat ≤ 281474976710656
 rotate_left
 ·rw [if_neg c4] at H
  exact absurd H (by simp)
 rw [if_pos c4] at H
 have c4b0 := eq_true c4
 have c4b1 : decide (((l0.length : Int) : Int).toNat ≤ 281474976710656) = true := decide_eq_true c4
 clear c4
 obtain ⟨y290, hy290⟩ : ∃ y_ : List Bool, y_ = (List.replicate ((l0.length : Int) : Int).toNat false) := ⟨_, rfl⟩
 replace H : (if 0 ≤ a1 then (if a1 < (y290.length : Int) then (spec_l2Before.l0 k l0 a1 (y290.set (a1 : Int).toNat true) a1) else (none)) else (none)) = some r := by first | (rw [hy290]; with_reducible exact H) | (have H2_ := (Option.bind_some _ _).symm.trans H; rw [hy290]; with_reducible exact H2_) | (have H2_ := (Option.bind_some _ _).symm.trans H; with_reducible exact H2_) | with_reducible exact H | (rw [hy290]; exact H) | exact H
 have Ny290 := Aside0.mk hy290
 clear hy290
 by_cases c5 : 0 ≤ a1
 rotate_left
 ·rw [if_neg c5] at H
  exact absurd H (by simp)
 rw [if_pos c5] at H
 have c5b0 : decide (0 ≤ a1) = true := decide_eq_true c5
 clear c5
 by_cases c6 : a1 < (y290.length : Int)
 rotate_left
 ·rw [if_neg c6] at H
  exact absurd H (by simp)
 rw [if_pos c6] at H
 have c6b0 : decide (a1 < (y290.length : Int)) = true := decide_eq_true c6
 clear c6
 obtain ⟨y293, hy293⟩ : ∃ y_ : List Bool, y_ = (y290.set (a1 : Int).toNat true) := ⟨_, rfl⟩
 replace H : (spec_l2Before.l0 k l0 a1 y293 a1) = some r := by first | (rw [hy293]; with_reducible exact H) | (have H2_ := (Option.bind_some _ _).symm.trans H; rw [hy293]; with_reducible exact H2_) | (have H2_ := (Option.bind_some _ _).symm.trans H; with_reducible exact H2_) | with_reducible exact H | (rw [hy293]; exact H) | exact H
 have Ny293 := Aside0.mk hy293
 clear hy293
 have H' := Aside0.mk H
 clear H
 go_enter Try.func41, Try.ntmps41
 go_wp2_with (first | ((with_reducible refine gate_dst (N := 11) rfl ?_); refine Kd.R_make Kd.bool _ 4 rfl (N := 11) rfl 71 _ _ rfl (l0.length : Int) rfl rfl Try.underlying71 (.bool false) 1 info4 rfl (by decide) (by omega) false (ok := fun _ => True) (okp := fun _ => True) rfl (fun _ hk => hk) trivial (of_decide_eq_true (by first | (with_reducible assumption) | assumption)) (Nat.le_trans (Nat.mul_le_mul_right _ (of_decide_eq_true (by first | (with_reducible assumption) | assumption) : (l0.length : Int).toNat ≤ 281474976710656)) (by omega)) (Below.refl _ _) (Nat.le_refl _) ?_; intro v291 w8 ho9 hb hg_ hnew_; clear hg_ hnew_; (first | rw [← Ny290.out] at ho9 | (simp only [Int.reduceToNat] at ho9; rw [← Ny290.out] at ho9)); have HO292 := Aside0.mk (Kd.R_lower ho9 bz_); replace HB := Aside0.mk (below_step bl_ hb); clear hb ho9; have p7 : 0 ≤ (a1 : Int) := of_decide_eq_true (by first | (with_reducible assumption) | assumption); have q7 : (a1 : Int) < ((y290.length : Int) : Int) := of_decide_eq_true (by first | (with_reducible assumption) | assumption); obtain ⟨go7, co7, eo7, gb7, gl7, cl7, HG7⟩ := Kd.R_form HO292.out (by omega); (first | cases eo7 | (injection eo7 with ea_ en_ ec_; (first | subst ea_ | (injection ea_ with ea_; subst ea_)); subst ec_; clear en_)); have GB7 := Aside0.mk gb7; have GG7 := Aside0.mk HG7; clear gb7 gl7 HG7; obtain ⟨hx7_0, hf7_0⟩ := Kd.R_celln false HO292.out (a1 : Int) p7 q7; replace p7 := eq_true p7; replace q7 := eq_true q7; obtain ⟨hy10_, hz10_⟩ := Kd.R_celln false HO292.out (a1 : Int) (of_decide_eq_true (by first | (with_reducible assumption) | assumption)) (of_decide_eq_true (by first | (with_reducible assumption) | assumption)); have HP10 := Kd.R_putg HO292.out (a1 : Int) true) | ((with_reducible refine gate_store (t := 4) (p := 14) rfl ?_); refine store_event (t := 4) (p := 14) (v := ?vo_w11) (w1 := (w8.setCell ⟨go7, (a1 : Int).toNat, none⟩ (.bool true))) ?hg ?ho ?hn ?hr ?_; (case ho => rfl); (case hg => rfl); (case hn => rfl); (case hr => first | (go_simp; done) | (go_simp; rfl)); intro w11 hw; have hg : w8.grownBy w11 (some go7) := (by rw [hw]; exact HP10.2); have hp_ : Kd.R Kd.bool 4 w11 w.heap.size (fun _ => True) (.slice (some ⟨go7, 0, none⟩) y290.length co7) y293 := (by rw [hw, Ny293.out]; exact HP10.1); clear HP10; replace HO292 := Aside0.mk (hp_); replace HB := Aside0.mk ((by rw [hw]; exact below_set (HB.out) GB7.out : Below w.heap.size w w11)); clear hg hw hp_))
 go_loopg [6] k (fun kq v6 w' => ∃ (x5_1 : List Bool) (x6_1 : Int), v6 = .int .i64 x6_1 ∧ Aside0 (spec_l2Before.l0 kq l0 a1 x5_1 x6_1 = some r) ∧ Aside0 (kq ≤ k) ∧ Aside0 (Kd.R Kd.bool 4 w' w.heap.size (fun _ => True) (.slice (some ⟨go7, 0, none⟩) y290.length co7) x5_1) ∧ Aside0 (Below w.heap.size w w'))
 case atStart => exact ⟨(y293), (a1), (by first | rfl | (simp; done) | (simp [*]; done)), H', ⟨Nat.le_refl _⟩, ⟨by exact kr_ HO292.out⟩, ⟨bl_⟩⟩
 clear H'
 try clear p2
 try clear c3
 try clear c3b0
 try clear c3b1
 try clear c4
 try clear c4b0
 try clear c4b1
 try clear c5
 try clear c5b0
 try clear c6
 try clear c6b0
 try clear p7
 try clear q7
 try clear hx7
 try clear hf7
 try clear hx7_0
 try clear p7
 try clear q7
 obtain ⟨x5_1, x6_1, rfl, HA, HK1, HO_5, HB⟩ := hrel
 have hl5_1 := (Kd.R_reads' HO_5.out).1
 rw [hl5_1] at HO_5
 (try simp only [hl5_1])
 cases gk with
 | zero => exact absurd HA.out (by simp [spec_l2Before.l0])
 | succ k1 => ?_
 have H := HA.out
 clear HA
 simp only [spec_l2Before.l0] at H
 by_cases c12 : x6_1 ≥ 0
 rotate_left
 ·rw [if_neg c12] at H
  have c12b0 : decide (0 ≤ x6_1) = false := decide_eq_false c12
  clear c12
  by_cases c42 : 0 ≤ a1
  rotate_left
  ·rw [if_neg c42] at H
   exact absurd H (by simp)
  rw [if_pos c42] at H
  have c42b0 : decide (0 ≤ a1) = true := decide_eq_true c42
  clear c42
  by_cases c43 : a1 < (x5_1.length : Int)
  rotate_left
  ·rw [if_neg c43] at H
   exact absurd H (by simp)
  rw [if_pos c43] at H
  have c43b0 : decide (a1 < (x5_1.length : Int)) = true := decide_eq_true c43
  clear c43
  obtain ⟨y294, hy294⟩ : ∃ y_ : List Bool, y_ = (x5_1.set (a1 : Int).toNat false) := ⟨_, rfl⟩
  replace H : (some y294) = some r := by first | (rw [hy294]; with_reducible exact H) | (have H2_ := (Option.bind_some _ _).symm.trans H; rw [hy294]; with_reducible exact H2_) | (have H2_ := (Option.bind_some _ _).symm.trans H; with_reducible exact H2_) | with_reducible exact H | (rw [hy294]; exact H) | exact H
  have Ny294 := Aside0.mk hy294
  clear hy294
  obtain rfl := Option.some.inj H
  have p44 : 0 ≤ (a1 : Int) := of_decide_eq_true (by first | (with_reducible assumption) | assumption)
  have q44 : (a1 : Int) < ((x5_1.length : Int) : Int) := of_decide_eq_true (by first | (with_reducible assumption) | assumption)
  obtain ⟨hx44_0, hf44_0⟩ := Kd.R_celln false HO_5.out (a1 : Int) p44 q44
  replace p44 := eq_true p44
  replace q44 := eq_true q44
  have HP45 := Kd.R_putg HO_5.out (a1 : Int) false
  go_wp2_with (first | ((with_reducible refine gate_store (t := 4) (p := 43) rfl ?_); refine store_event (t := 4) (p := 43) (v := ?vo_w46) (w1 := (wr.setCell ⟨go7, (a1 : Int).toNat, none⟩ (.bool false))) ?hg ?ho ?hn ?hr ?_; (case ho => rfl); (case hg => rfl); (case hn => rfl); (case hr => first | (go_simp; done) | (go_simp; rfl)); intro w46 hw; have hg : wr.grownBy w46 (some go7) := (by rw [hw]; exact HP45.2); have hp_ : Kd.R Kd.bool 4 w46 w.heap.size (fun _ => True) (.slice (some ⟨go7, 0, none⟩) x5_1.length co7) y294 := (by rw [hw, Ny294.out]; exact HP45.1); clear HP45; replace HO_5 := Aside0.mk (hp_); replace HB := Aside0.mk ((by rw [hw]; exact below_set (HB.out) GB7.out : Below w.heap.size w w46)); clear hg hw hp_))
  go_ret
  exact ⟨_, ng_, by exact kr_ HO_5.out, bl_⟩
 rw [if_pos c12] at H
 have c12b0 : decide (0 ≤ x6_1) = true := decide_eq_true c12
 clear c12
 by_cases c13 : 0 ≤ x6_1
 rotate_left
 ·rw [if_neg c13] at H
  exact absurd H (by simp)
 rw [if_pos c13] at H
 have c13b0 : decide (0 ≤ x6_1) = true := decide_eq_true c13
 clear c13
 by_cases c14 : x6_1 < (x5_1.length : Int)
 rotate_left
 ·rw [if_neg c14] at H
  exact absurd H (by simp)
 rw [if_pos c14] at H
 have c14b0 : decide (x6_1 < (x5_1.length : Int)) = true := decide_eq_true c14
 clear c14
 obtain ⟨bq15, hbq15⟩ : ∃ b_ : Bool, b_ = (rdOf false x5_1 x6_1) := ⟨_, rfl⟩
 replace H : (if bq15 = true then ((spec_l2Causes.f k1 l0 x6_1).bind fun bt296 => (if bt296.1 ≥ 0 then (if 0 ≤ bt296.1 then (if bt296.1 < (x5_1.length : Int) then ((some (x5_1.set (bt296.1 : Int).toNat true : List Bool)).bind fun y298 => (if bt296.2 ≥ 0 then (if 0 ≤ bt296.2 then (if bt296.2 < (x5_1.length : Int) then (spec_l2Before.l0 k1 l0 a1 (y298.set (bt296.2 : Int).toNat true) (wrap64 (x6_1 - 1))) else (none)) else (none)) else (spec_l2Before.l0 k1 l0 a1 y298 (wrap64 (x6_1 - 1))))) else (none)) else (none)) else (if bt296.2 ≥ 0 then (if 0 ≤ bt296.2 then (if bt296.2 < (x5_1.length : Int) then (spec_l2Before.l0 k1 l0 a1 (x5_1.set (bt296.2 : Int).toNat true) (wrap64 (x6_1 - 1))) else (none)) else (none)) else (spec_l2Before.l0 k1 l0 a1 x5_1 (wrap64 (x6_1 - 1)))))) else (spec_l2Before.l0 k1 l0 a1 x5_1 (wrap64 (x6_1 - 1)))) = some r := by rw [← hbq15] at H; exact H
 have Nbq15 := Aside0.mk hbq15
 clear hbq15
 by_cases c16 : bq15 = true
 rotate_left
 ·replace c16 := Bool.eq_false_iff.mpr c16
  subst c16
  have H1 : (spec_l2Before.l0 k1 l0 a1 x5_1 (wrap64 (x6_1 - 1))) = some r := by rw [if_neg (show ¬ (false = true) by decide)] at H; exact H
  clear H
  have H := H1
  clear H1
  have H' := Aside0.mk H
  clear H
  have p295 : 0 ≤ (x6_1 : Int) := of_decide_eq_true (by first | (with_reducible assumption) | assumption)
  have q295 : x6_1 < (x5_1.length : Int) := of_decide_eq_true (by first | (with_reducible assumption) | assumption)
  obtain ⟨ad295, e295, hx295_0⟩ := Kd.at_bool (Kd.R_reads' HO_5.out).2.2 x6_1 p295 q295
  (try rw [← Nbq15.out] at hx295_0)
  obtain rfl : (⟨go7, 0, none⟩ : Addr) = ad295 := (by injection e295)
  (first | simp only [add_plain] at hx295_0 | simp only [add_at] at hx295_0 | simp only [Addr.add, Nat.zero_add] at hx295_0 | skip)
  replace p295 := eq_true p295
  replace q295 := eq_true q295
  go_wp2
  (try simp only [← hl5_1])
  go_roundg k1
  case measure => have := HK1.out; omega
  case rel => exact ⟨(x5_1), (wrap64 (x6_1 - 1)), (by first | rfl | (simp; done) | (simp [*]; done)), H', ⟨by have := HK1.out; omega⟩, ⟨by (try simp only [hl5_1]); exact kr_ HO_5.out⟩, ⟨bl_⟩⟩
 subst c16
 have H1 : ((spec_l2Causes.f k1 l0 x6_1).bind fun bt296 => (if bt296.1 ≥ 0 then (if 0 ≤ bt296.1 then (if bt296.1 < (x5_1.length : Int) then ((some (x5_1.set (bt296.1 : Int).toNat true : List Bool)).bind fun y298 => (if bt296.2 ≥ 0 then (if 0 ≤ bt296.2 then (if bt296.2 < (x5_1.length : Int) then (spec_l2Before.l0 k1 l0 a1 (y298.set (bt296.2 : Int).toNat true) (wrap64 (x6_1 - 1))) else (none)) else (none)) else (spec_l2Before.l0 k1 l0 a1 y298 (wrap64 (x6_1 - 1))))) else (none)) else (none)) else (if bt296.2 ≥ 0 then (if 0 ≤ bt296.2 then (if bt296.2 < (x5_1.length : Int) then (spec_l2Before.l0 k1 l0 a1 (x5_1.set (bt296.2 : Int).toNat true) (wrap64 (x6_1 - 1))) else (none)) else (none)) else (spec_l2Before.l0 k1 l0 a1 x5_1 (wrap64 (x6_1 - 1)))))) = some r := by rw [if_pos rfl] at H; exact H
 clear H
 have H := H1
 clear H1
 replace H := Option.bind_eq_some_iff.mp H
 obtain ⟨⟨t296, t297⟩, A170, H⟩ := H
 replace H : (if t296 ≥ 0 then (if 0 ≤ t296 then (if t296 < (x5_1.length : Int) then ((some (x5_1.set (t296 : Int).toNat true : List Bool)).bind fun y298 => (if t297 ≥ 0 then (if 0 ≤ t297 then (if t297 < (x5_1.length : Int) then (spec_l2Before.l0 k1 l0 a1 (y298.set (t297 : Int).toNat true) (wrap64 (x6_1 - 1))) else (none)) else (none)) else (spec_l2Before.l0 k1 l0 a1 y298 (wrap64 (x6_1 - 1))))) else (none)) else (none)) else (if t297 ≥ 0 then (if 0 ≤ t297 then (if t297 < (x5_1.length : Int) then (spec_l2Before.l0 k1 l0 a1 (x5_1.set (t297 : Int).toNat true) (wrap64 (x6_1 - 1))) else (none)) else (none)) else (spec_l2Before.l0 k1 l0 a1 x5_1 (wrap64 (x6_1 - 1))))) = some r := H
 have A17 := Aside0.mk A170
 clear A170
 by_cases c18 : t296 ≥ 0
 rotate_left
 ·rw [if_neg c18] at H
  have c18b0 : decide (0 ≤ t296) = false := decide_eq_false c18
  clear c18
  by_cases c34 : t297 ≥ 0
  rotate_left
  ·rw [if_neg c34] at H
   have c34b0 : decide (0 ≤ t297) = false := decide_eq_false c34
   clear c34
   have H' := Aside0.mk H
   clear H
   have p295 : 0 ≤ (x6_1 : Int) := of_decide_eq_true (by first | (with_reducible assumption) | assumption)
   have q295 : x6_1 < (x5_1.length : Int) := of_decide_eq_true (by first | (with_reducible assumption) | assumption)
   obtain ⟨ad295, e295, hx295_0⟩ := Kd.at_bool (Kd.R_reads' HO_5.out).2.2 x6_1 p295 q295
   (try rw [← Nbq15.out] at hx295_0)
   obtain rfl : (⟨go7, 0, none⟩ : Addr) = ad295 := (by injection e295)
   (first | simp only [add_plain] at hx295_0 | simp only [add_at] at hx295_0 | simp only [Addr.add, Nat.zero_add] at hx295_0 | skip)
   replace p295 := eq_true p295
   replace q295 := eq_true q295
   go_wp2_with (first | ((with_reducible refine gate_callee (f := 39) rfl ?_); refine goesL_ (some 28) rfl rfl Try.func39 (by kernel_rfl) rfl #[.slice A0 l0.length c0, .int .i64 x6_1] rfl nc_ ?_; (with_reducible refine (spec_l2Causes.calls k1 _ _ l0 x6_1 t296 t297 _ ?side1 ?side2 A17.out).mono ?_); (case side1 => exact kc_ (Kd.C_below HR0.out HB.out)); (case side2 => exact HC0.out); rintro e w41 ⟨rfl, hb⟩; refine ⟨_, rfl, ?_⟩; replace HO_5 := rb_ HO_5 hb; replace HB := Aside0.mk (below_step bl_ hb); clear hb))
   (try simp only [← hl5_1])
   go_roundg k1
   case measure => have := HK1.out; omega
   case rel => exact ⟨(x5_1), (wrap64 (x6_1 - 1)), (by first | rfl | (simp; done) | (simp [*]; done)), H', ⟨by have := HK1.out; omega⟩, ⟨by (try simp only [hl5_1]); exact kr_ HO_5.out⟩, ⟨bl_⟩⟩
  rw [if_pos c34] at H
  have c34b0 : decide (0 ≤ t297) = true := decide_eq_true c34
  clear c34
  by_cases c35 : 0 ≤ t297
  rotate_left
  ·rw [if_neg c35] at H
   exact absurd H (by simp)
  rw [if_pos c35] at H
  have c35b0 : decide (0 ≤ t297) = true := decide_eq_true c35
  clear c35
  by_cases c36 : t297 < (x5_1.length : Int)
  rotate_left
  ·rw [if_neg c36] at H
   exact absurd H (by simp)
  rw [if_pos c36] at H
  have c36b0 : decide (t297 < (x5_1.length : Int)) = true := decide_eq_true c36
  clear c36
  obtain ⟨y300, hy300⟩ : ∃ y_ : List Bool, y_ = (x5_1.set (t297 : Int).toNat true) := ⟨_, rfl⟩
  replace H : (spec_l2Before.l0 k1 l0 a1 y300 (wrap64 (x6_1 - 1))) = some r := by first | (rw [hy300]; with_reducible exact H) | (have H2_ := (Option.bind_some _ _).symm.trans H; rw [hy300]; with_reducible exact H2_) | (have H2_ := (Option.bind_some _ _).symm.trans H; with_reducible exact H2_) | with_reducible exact H | (rw [hy300]; exact H) | exact H
  have Ny300 := Aside0.mk hy300
  clear hy300
  have H' := Aside0.mk H
  clear H
  have p295 : 0 ≤ (x6_1 : Int) := of_decide_eq_true (by first | (with_reducible assumption) | assumption)
  have q295 : x6_1 < (x5_1.length : Int) := of_decide_eq_true (by first | (with_reducible assumption) | assumption)
  obtain ⟨ad295, e295, hx295_0⟩ := Kd.at_bool (Kd.R_reads' HO_5.out).2.2 x6_1 p295 q295
  (try rw [← Nbq15.out] at hx295_0)
  obtain rfl : (⟨go7, 0, none⟩ : Addr) = ad295 := (by injection e295)
  (first | simp only [add_plain] at hx295_0 | simp only [add_at] at hx295_0 | simp only [Addr.add, Nat.zero_add] at hx295_0 | skip)
  replace p295 := eq_true p295
  replace q295 := eq_true q295
  go_wp2_with (first | ((with_reducible refine gate_callee (f := 39) rfl ?_); refine goesL_ (some 28) rfl rfl Try.func39 (by kernel_rfl) rfl #[.slice A0 l0.length c0, .int .i64 x6_1] rfl nc_ ?_; (with_reducible refine (spec_l2Causes.calls k1 _ _ l0 x6_1 t296 t297 _ ?side1 ?side2 A17.out).mono ?_); (case side1 => exact kc_ (Kd.C_below HR0.out HB.out)); (case side2 => exact HC0.out); rintro e w38 ⟨rfl, hb⟩; refine ⟨_, rfl, ?_⟩; replace HO_5 := rb_ HO_5 hb; replace HB := Aside0.mk (below_step bl_ hb); clear hb; have p37 : 0 ≤ (t297 : Int) := of_decide_eq_true (by first | (with_reducible assumption) | assumption); have q37 : (t297 : Int) < ((x5_1.length : Int) : Int) := of_decide_eq_true (by first | (with_reducible assumption) | assumption); obtain ⟨hx37_0, hf37_0⟩ := Kd.R_celln false HO_5.out (t297 : Int) p37 q37; replace p37 := eq_true p37; replace q37 := eq_true q37; obtain ⟨hy39_, hz39_⟩ := Kd.R_celln false HO_5.out (t297 : Int) (of_decide_eq_true (by first | (with_reducible assumption) | assumption)) (of_decide_eq_true (by first | (with_reducible assumption) | assumption)); have HP39 := Kd.R_putg HO_5.out (t297 : Int) true) | ((with_reducible refine gate_store (t := 4) (p := 40) rfl ?_); refine store_event (t := 4) (p := 40) (v := ?vo_w40) (w1 := (w38.setCell ⟨go7, (t297 : Int).toNat, none⟩ (.bool true))) ?hg ?ho ?hn ?hr ?_; (case ho => rfl); (case hg => rfl); (case hn => rfl); (case hr => first | (go_simp; done) | (go_simp; rfl)); intro w40 hw; have hg : w38.grownBy w40 (some go7) := (by rw [hw]; exact HP39.2); have hp_ : Kd.R Kd.bool 4 w40 w.heap.size (fun _ => True) (.slice (some ⟨go7, 0, none⟩) x5_1.length co7) y300 := (by rw [hw, Ny300.out]; exact HP39.1); clear HP39; replace HO_5 := Aside0.mk (hp_); replace HB := Aside0.mk ((by rw [hw]; exact below_set (HB.out) GB7.out : Below w.heap.size w w40)); clear hg hw hp_))
  (try simp only [← hl5_1])
  go_roundg k1
  case measure => have := HK1.out; omega
  case rel => exact ⟨(y300), (wrap64 (x6_1 - 1)), (by first | rfl | (simp; done) | (simp [*]; done)), H', ⟨by have := HK1.out; omega⟩, ⟨by (try simp only [hl5_1]); exact kr_ HO_5.out⟩, ⟨bl_⟩⟩
 rw [if_pos c18] at H
 have c18b0 : decide (0 ≤ t296) = true := decide_eq_true c18
 clear c18
 by_cases c19 : 0 ≤ t296
 rotate_left
 ·rw [if_neg c19] at H
  exact absurd H (by simp)
 rw [if_pos c19] at H
 have c19b0 : decide (0 ≤ t296) = true := decide_eq_true c19
 clear c19
 by_cases c20 : t296 < (x5_1.length : Int)
 rotate_left
 ·rw [if_neg c20] at H
  exact absurd H (by simp)
 rw [if_pos c20] at H
 have c20b0 : decide (t296 < (x5_1.length : Int)) = true := decide_eq_true c20
 clear c20
 obtain ⟨y298, hy298⟩ : ∃ y_ : List Bool, y_ = (x5_1.set (t296 : Int).toNat true) := ⟨_, rfl⟩
 replace H : (if t297 ≥ 0 then (if 0 ≤ t297 then (if t297 < (x5_1.length : Int) then (spec_l2Before.l0 k1 l0 a1 (y298.set (t297 : Int).toNat true) (wrap64 (x6_1 - 1))) else (none)) else (none)) else (spec_l2Before.l0 k1 l0 a1 y298 (wrap64 (x6_1 - 1)))) = some r := by first | (rw [hy298]; with_reducible exact H) | (have H2_ := (Option.bind_some _ _).symm.trans H; rw [hy298]; with_reducible exact H2_) | (have H2_ := (Option.bind_some _ _).symm.trans H; with_reducible exact H2_) | with_reducible exact H | (rw [hy298]; exact H) | exact H
 have Ny298 := Aside0.mk hy298
 clear hy298
 by_cases c22 : t297 ≥ 0
 rotate_left
 ·rw [if_neg c22] at H
  have c22b0 : decide (0 ≤ t297) = false := decide_eq_false c22
  clear c22
  have H' := Aside0.mk H
  clear H
  have p295 : 0 ≤ (x6_1 : Int) := of_decide_eq_true (by first | (with_reducible assumption) | assumption)
  have q295 : x6_1 < (x5_1.length : Int) := of_decide_eq_true (by first | (with_reducible assumption) | assumption)
  obtain ⟨ad295, e295, hx295_0⟩ := Kd.at_bool (Kd.R_reads' HO_5.out).2.2 x6_1 p295 q295
  (try rw [← Nbq15.out] at hx295_0)
  obtain rfl : (⟨go7, 0, none⟩ : Addr) = ad295 := (by injection e295)
  (first | simp only [add_plain] at hx295_0 | simp only [add_at] at hx295_0 | simp only [Addr.add, Nat.zero_add] at hx295_0 | skip)
  replace p295 := eq_true p295
  replace q295 := eq_true q295
  go_wp2_with (first | ((with_reducible refine gate_callee (f := 39) rfl ?_); refine goesL_ (some 28) rfl rfl Try.func39 (by kernel_rfl) rfl #[.slice A0 l0.length c0, .int .i64 x6_1] rfl nc_ ?_; (with_reducible refine (spec_l2Causes.calls k1 _ _ l0 x6_1 t296 t297 _ ?side1 ?side2 A17.out).mono ?_); (case side1 => exact kc_ (Kd.C_below HR0.out HB.out)); (case side2 => exact HC0.out); rintro e w31 ⟨rfl, hb⟩; refine ⟨_, rfl, ?_⟩; replace HO_5 := rb_ HO_5 hb; replace HB := Aside0.mk (below_step bl_ hb); clear hb; have p21 : 0 ≤ (t296 : Int) := of_decide_eq_true (by first | (with_reducible assumption) | assumption); have q21 : (t296 : Int) < ((x5_1.length : Int) : Int) := of_decide_eq_true (by first | (with_reducible assumption) | assumption); obtain ⟨hx21_0, hf21_0⟩ := Kd.R_celln false HO_5.out (t296 : Int) p21 q21; replace p21 := eq_true p21; replace q21 := eq_true q21; obtain ⟨hy32_, hz32_⟩ := Kd.R_celln false HO_5.out (t296 : Int) (of_decide_eq_true (by first | (with_reducible assumption) | assumption)) (of_decide_eq_true (by first | (with_reducible assumption) | assumption)); have HP32 := Kd.R_putg HO_5.out (t296 : Int) true) | ((with_reducible refine gate_store (t := 4) (p := 35) rfl ?_); refine store_event (t := 4) (p := 35) (v := ?vo_w33) (w1 := (w31.setCell ⟨go7, (t296 : Int).toNat, none⟩ (.bool true))) ?hg ?ho ?hn ?hr ?_; (case ho => rfl); (case hg => rfl); (case hn => rfl); (case hr => first | (go_simp; done) | (go_simp; rfl)); intro w33 hw; have hg : w31.grownBy w33 (some go7) := (by rw [hw]; exact HP32.2); have hp_ : Kd.R Kd.bool 4 w33 w.heap.size (fun _ => True) (.slice (some ⟨go7, 0, none⟩) x5_1.length co7) y298 := (by rw [hw, Ny298.out]; exact HP32.1); clear HP32; replace HO_5 := Aside0.mk (hp_); replace HB := Aside0.mk ((by rw [hw]; exact below_set (HB.out) GB7.out : Below w.heap.size w w33)); clear hg hw hp_))
  (try simp only [← hl5_1])
  go_roundg k1
  case measure => have := HK1.out; omega
  case rel => exact ⟨(y298), (wrap64 (x6_1 - 1)), (by first | rfl | (simp; done) | (simp [*]; done)), H', ⟨by have := HK1.out; omega⟩, ⟨by (try simp only [hl5_1]); exact kr_ HO_5.out⟩, ⟨bl_⟩⟩
 rw [if_pos c22] at H
 have c22b0 : decide (0 ≤ t297) = true := decide_eq_true c22
 clear c22
 by_cases c23 : 0 ≤ t297
 rotate_left
 ·rw [if_neg c23] at H
  exact absurd H (by simp)
 rw [if_pos c23] at H
 have c23b0 : decide (0 ≤ t297) = true := decide_eq_true c23
 clear c23
 by_cases c24 : t297 < (x5_1.length : Int)
 rotate_left
 ·rw [if_neg c24] at H
  exact absurd H (by simp)
 rw [if_pos c24] at H
 have c24b0 : decide (t297 < (x5_1.length : Int)) = true := decide_eq_true c24
 clear c24
 obtain ⟨y299, hy299⟩ : ∃ y_ : List Bool, y_ = (y298.set (t297 : Int).toNat true) := ⟨_, rfl⟩
 replace H : (spec_l2Before.l0 k1 l0 a1 y299 (wrap64 (x6_1 - 1))) = some r := by first | (rw [hy299]; with_reducible exact H) | (have H2_ := (Option.bind_some _ _).symm.trans H; rw [hy299]; with_reducible exact H2_) | (have H2_ := (Option.bind_some _ _).symm.trans H; with_reducible exact H2_) | with_reducible exact H | (rw [hy299]; exact H) | exact H
 have Ny299 := Aside0.mk hy299
 clear hy299
 have H' := Aside0.mk H
 clear H
 have p295 : 0 ≤ (x6_1 : Int) := of_decide_eq_true (by first | (with_reducible assumption) | assumption)
 have q295 : x6_1 < (x5_1.length : Int) := of_decide_eq_true (by first | (with_reducible assumption) | assumption)
 obtain ⟨ad295, e295, hx295_0⟩ := Kd.at_bool (Kd.R_reads' HO_5.out).2.2 x6_1 p295 q295
 (try rw [← Nbq15.out] at hx295_0)
 obtain rfl : (⟨go7, 0, none⟩ : Addr) = ad295 := (by injection e295)
 (first | simp only [add_plain] at hx295_0 | simp only [add_at] at hx295_0 | simp only [Addr.add, Nat.zero_add] at hx295_0 | skip)
 replace p295 := eq_true p295
 replace q295 := eq_true q295
 go_wp2_with (first | ((with_reducible refine gate_callee (f := 39) rfl ?_); refine goesL_ (some 28) rfl rfl Try.func39 (by kernel_rfl) rfl #[.slice A0 l0.length c0, .int .i64 x6_1] rfl nc_ ?_; (with_reducible refine (spec_l2Causes.calls k1 _ _ l0 x6_1 t296 t297 _ ?side1 ?side2 A17.out).mono ?_); (case side1 => exact kc_ (Kd.C_below HR0.out HB.out)); (case side2 => exact HC0.out); rintro e w26 ⟨rfl, hb⟩; refine ⟨_, rfl, ?_⟩; replace HO_5 := rb_ HO_5 hb; replace HB := Aside0.mk (below_step bl_ hb); clear hb; have p21 : 0 ≤ (t296 : Int) := of_decide_eq_true (by first | (with_reducible assumption) | assumption); have q21 : (t296 : Int) < ((x5_1.length : Int) : Int) := of_decide_eq_true (by first | (with_reducible assumption) | assumption); obtain ⟨hx21_0, hf21_0⟩ := Kd.R_celln false HO_5.out (t296 : Int) p21 q21; replace p21 := eq_true p21; replace q21 := eq_true q21; obtain ⟨hy27_, hz27_⟩ := Kd.R_celln false HO_5.out (t296 : Int) (of_decide_eq_true (by first | (with_reducible assumption) | assumption)) (of_decide_eq_true (by first | (with_reducible assumption) | assumption)); have HP27 := Kd.R_putg HO_5.out (t296 : Int) true) | ((with_reducible refine gate_store (t := 4) (p := 35) rfl ?_); refine store_event (t := 4) (p := 35) (v := ?vo_w28) (w1 := (w26.setCell ⟨go7, (t296 : Int).toNat, none⟩ (.bool true))) ?hg ?ho ?hn ?hr ?_; (case ho => rfl); (case hg => rfl); (case hn => rfl); (case hr => first | (go_simp; done) | (go_simp; rfl)); intro w28 hw; have hg : w26.grownBy w28 (some go7) := (by rw [hw]; exact HP27.2); have hp_ : Kd.R Kd.bool 4 w28 w.heap.size (fun _ => True) (.slice (some ⟨go7, 0, none⟩) x5_1.length co7) y298 := (by rw [hw, Ny298.out]; exact HP27.1); clear HP27; replace HO_5 := Aside0.mk (hp_); replace HB := Aside0.mk ((by rw [hw]; exact below_set (HB.out) GB7.out : Below w.heap.size w w28)); clear hg hw hp_; have p25 : 0 ≤ (t297 : Int) := of_decide_eq_true (by first | (with_reducible assumption) | assumption); have q25 : (t297 : Int) < ((x5_1.length : Int) : Int) := of_decide_eq_true (by first | (with_reducible assumption) | assumption); obtain ⟨hx25_0, hf25_0⟩ := Kd.R_celln false HO_5.out (t297 : Int) p25 q25; replace p25 := eq_true p25; replace q25 := eq_true q25; obtain ⟨hy29_, hz29_⟩ := Kd.R_celln false HO_5.out (t297 : Int) (of_decide_eq_true (by first | (with_reducible assumption) | assumption)) (of_decide_eq_true (by first | (with_reducible assumption) | assumption)); have HP29 := Kd.R_putg HO_5.out (t297 : Int) true) | ((with_reducible refine gate_store (t := 4) (p := 40) rfl ?_); refine store_event (t := 4) (p := 40) (v := ?vo_w30) (w1 := (w28.setCell ⟨go7, (t297 : Int).toNat, none⟩ (.bool true))) ?hg ?ho ?hn ?hr ?_; (case ho => rfl); (case hg => rfl); (case hn => rfl); (case hr => first | (go_simp; done) | (go_simp; rfl)); intro w30 hw; have hg : w28.grownBy w30 (some go7) := (by rw [hw]; exact HP29.2); have hp_ : Kd.R Kd.bool 4 w30 w.heap.size (fun _ => True) (.slice (some ⟨go7, 0, none⟩) x5_1.length co7) y299 := (by rw [hw, Ny299.out]; exact HP29.1); clear HP29; replace HO_5 := Aside0.mk (hp_); replace HB := Aside0.mk ((by rw [hw]; exact below_set (HB.out) GB7.out : Below w.heap.size w w30)); clear hg hw hp_))
 (try simp only [← hl5_1])
 go_roundg k1
 case measure => have := HK1.out; omega
 case rel => exact ⟨(y299), (wrap64 (x6_1 - 1)), (by first | rfl | (simp; done) | (simp [*]; done)), H', ⟨by have := HK1.out; omega⟩, ⟨by (try simp only [hl5_1]); exact kr_ HO_5.out⟩, ⟨bl_⟩⟩

end Go.Proofs.Ytgdcooiaeeajmaa.PLA
