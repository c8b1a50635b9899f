/- What this text proves: the machine calls of these functions return what the plain functions say. Conditions: as each theorem says. Printed by a program of this session out of the translation. -/
import Derived.Test.YtniaodllgeloiaaPKx0
import Derived.Test.YtniaodllgeloiaaPKx2
import Derived.Test.YtniaodllgeloiaaPKx5
namespace Go.Proofs.Ytniaodllgeloiaa.PK
open Go.RowKit Go.Proofs.YtniaodllgeloiaaW.PrintWords Go.Proofs.YtniaodllgeloiaaW.PrintLast Go.Proofs.YtniaodllgeloiaaW.PrintMore
attribute [local go_sem] max2_int min2_int max_two min_two max_three min_three max_four min_four   -- for this text's walks alone
set_option linter.unusedVariables false
set_option linter.unusedSimpArgs false

/-! ### impl_AgreesIn: function 28 -/
mutual
def impl_AgreesIn.j0 : Nat → Bool → List (S65) → Int → Int → Option (Bool × Bool)
 | 0, _, _, _, _ => none
 | k + 1, x25, x272000, x272001, x272002 => if x25 = true then (some (false, true)) else (impl_AgreesIn.l0 k x272000 (x272000.length : Int) 0 x272000 x272001 x272002)
def impl_AgreesIn.l0 : Nat → List (S65) → Int → Int → List (S65) → Int → Int → Option (Bool × Bool)
 | 0, _, _, _, _, _, _ => none
 | k + 1, x27, x28, x29, x272000, x272001, x272002 => if x29 < x28 then (if 0 ≤ x29 then (if x29 < (x27.length : Int) then (impl_AgreesIn.l1 k x27 x28 x29 ((rd_T65 x27 x29).f0) (((rd_T65 x27 x29).f0).length : Int) 0 x272000 x272001 x272002) else (none)) else (none)) else (some (true, true))
def impl_AgreesIn.l1 : Nat → List (S65) → Int → Int → List (S67) → Int → Int → List (S65) → Int → Int → Option (Bool × Bool)
 | 0, _, _, _, _, _, _, _, _, _ => none
 | k + 1, x27, x28, x29, x34, x35, x36, x272000, x272001, x272002 => if x36 < x35 then (if 0 ≤ x36 then (if x36 < (x34.length : Int) then (if ((rd_T67 x34 x36).f0 = true) then (impl_AgreesIn.l1 k x27 x28 x29 x34 x35 (wrap64 (x36 + 1)) x272000 x272001 x272002) else (if ((rd_T67 x34 x36).f1) = 3 then ((impl_Commit_decision.f x272000 x272001 x272002).bind fun t277 => (if t277 = 1 then (if ((rd_T67 x34 x36).f1) = 4 then ((impl_Commit_decision.f x272000 x272001 x272002).bind fun t278 => (if t278 = 2 then (impl_AgreesIn.l1 k x27 x28 x29 x34 x35 (wrap64 (x36 + 1)) x272000 x272001 x272002) else (some (false, true)))) else (impl_AgreesIn.l1 k x27 x28 x29 x34 x35 (wrap64 (x36 + 1)) x272000 x272001 x272002)) else (some (false, true)))) else (if ((rd_T67 x34 x36).f1) = 4 then ((impl_Commit_decision.f x272000 x272001 x272002).bind fun t279 => (if t279 = 2 then (impl_AgreesIn.l1 k x27 x28 x29 x34 x35 (wrap64 (x36 + 1)) x272000 x272001 x272002) else (some (false, true)))) else (impl_AgreesIn.l1 k x27 x28 x29 x34 x35 (wrap64 (x36 + 1)) x272000 x272001 x272002)))) else (none)) else (none)) else (impl_AgreesIn.l0 k x27 x28 (wrap64 (x29 + 1)) x272000 x272001 x272002)
end
def impl_AgreesIn.f (k : Nat) (l0_0 : List (S65)) (a0_1 : Int) (a0_2 : Int) : Option (Bool × Bool) := (impl_isCommit.f l0_0 a0_1 a0_2).bind fun t272 => (if t272 = true then (if a0_1 = 0 then (impl_AgreesIn.j0 k false l0_0 a0_1 a0_2) else (if a0_2 = 0 then (impl_AgreesIn.j0 k false l0_0 a0_1 a0_2) else (impl_AgreesIn.j0 k (a0_1 != a0_2) l0_0 a0_1 a0_2))) else (some (false, false)))
theorem impl_AgreesIn.mono_l : ∀ k, (∀ y0 y1 y2 y3, LeO (impl_AgreesIn.j0 k y0 y1 y2 y3) (impl_AgreesIn.j0 (k + 1) y0 y1 y2 y3)) ∧ (∀ y0 y1 y2 y3 y4 y5, LeO (impl_AgreesIn.l0 k y0 y1 y2 y3 y4 y5) (impl_AgreesIn.l0 (k + 1) y0 y1 y2 y3 y4 y5)) ∧ (∀ y0 y1 y2 y3 y4 y5 y6 y7 y8, LeO (impl_AgreesIn.l1 k y0 y1 y2 y3 y4 y5 y6 y7 y8) (impl_AgreesIn.l1 (k + 1) y0 y1 y2 y3 y4 y5 y6 y7 y8))
 | 0 => ⟨fun _ _ _ _ r h => by simp [impl_AgreesIn.j0] at h, fun _ _ _ _ _ _ r h => by simp [impl_AgreesIn.l0] at h, fun _ _ _ _ _ _ _ _ _ r h => by simp [impl_AgreesIn.l1] at h⟩
 | k + 1 => by
  obtain ⟨ih0, ih1, ih2⟩ := impl_AgreesIn.mono_l k
  refine ⟨?_, ?_, ?_⟩
  ·intro y0 y1 y2 y3
   unfold impl_AgreesIn.j0
   repeat' first
   | (with_reducible exact ih0 _ _ _ _)
   | (with_reducible exact ih1 _ _ _ _ _ _)
   | (with_reducible exact ih2 _ _ _ _ _ _ _ _ _)
   | (with_reducible exact LeO.refl _)
   | (with_reducible exact LeO.none _)
   | (with_reducible refine LeO.ite ?_ ?_)
   | (with_reducible refine LeO.bind ?_ (fun _ => ?_))
   | exact ih0 _ _ _ _
   | exact ih1 _ _ _ _ _ _
   | exact ih2 _ _ _ _ _ _ _ _ _
   | exact LeO.none _
   | refine LeO.ite ?_ ?_
   | refine LeO.bind ?_ (fun _ => ?_)
  ·intro y0 y1 y2 y3 y4 y5
   unfold impl_AgreesIn.l0
   repeat' first
   | (with_reducible exact ih0 _ _ _ _)
   | (with_reducible exact ih1 _ _ _ _ _ _)
   | (with_reducible exact ih2 _ _ _ _ _ _ _ _ _)
   | (with_reducible exact LeO.refl _)
   | (with_reducible exact LeO.none _)
   | (with_reducible refine LeO.ite ?_ ?_)
   | (with_reducible refine LeO.bind ?_ (fun _ => ?_))
   | exact ih0 _ _ _ _
   | exact ih1 _ _ _ _ _ _
   | exact ih2 _ _ _ _ _ _ _ _ _
   | exact LeO.none _
   | refine LeO.ite ?_ ?_
   | refine LeO.bind ?_ (fun _ => ?_)
  ·intro y0 y1 y2 y3 y4 y5 y6 y7 y8
   unfold impl_AgreesIn.l1
   repeat' first
   | (with_reducible exact ih0 _ _ _ _)
   | (with_reducible exact ih1 _ _ _ _ _ _)
   | (with_reducible exact ih2 _ _ _ _ _ _ _ _ _)
   | (with_reducible exact LeO.refl _)
   | (with_reducible exact LeO.none _)
   | (with_reducible refine LeO.ite ?_ ?_)
   | (with_reducible refine LeO.bind ?_ (fun _ => ?_))
   | exact ih0 _ _ _ _
   | exact ih1 _ _ _ _ _ _
   | exact ih2 _ _ _ _ _ _ _ _ _
   | exact LeO.none _
   | refine LeO.ite ?_ ?_
   | refine LeO.bind ?_ (fun _ => ?_)
theorem impl_AgreesIn.mono : ∀ a0 a1 a2 k, LeO (impl_AgreesIn.f k a0 a1 a2) (impl_AgreesIn.f (k + 1) a0 a1 a2) := by
 intro a0 a1 a2 k
 obtain ⟨ih0, ih1, ih2⟩ := impl_AgreesIn.mono_l k
 unfold impl_AgreesIn.f
 repeat' first
   | (with_reducible exact ih0 _ _ _ _)
   | (with_reducible exact ih1 _ _ _ _ _ _)
   | (with_reducible exact ih2 _ _ _ _ _ _ _ _ _)
   | (with_reducible exact LeO.refl _)
   | (with_reducible exact LeO.none _)
   | (with_reducible refine LeO.ite ?_ ?_)
   | (with_reducible refine LeO.bind ?_ (fun _ => ?_))
   | exact ih0 _ _ _ _
   | exact ih1 _ _ _ _ _ _
   | exact ih2 _ _ _ _ _ _ _ _ _
   | exact LeO.none _
   | refine LeO.ite ?_ ?_
   | refine LeO.bind ?_ (fun _ => ?_)
set_option maxHeartbeats 8000000 in
set_option maxRecDepth 100000 in
theorem impl_AgreesIn.calls (k : Nat) (A0_0 : Option Addr) (c0_0 : Nat) (l0_0 : List (S65)) (a0_1 : Int) (a0_2 : Int) (r1 : Bool) (r2 : Bool) (w : World) (hr0_0 : Kd.C k65 w A0_0 l0_0.length l0_0) (hc0_0 : l0_0.length ≤ c0_0) (h : impl_AgreesIn.f k l0_0 a0_1 a0_2 = some (r1, r2)) :
  Calls Try.prog 28 #[.agg #[.slice A0_0 l0_0.length c0_0, .int .i64 a0_1, .int .i64 a0_2]] w fun e w' => e = .returned (.tuple #[.bool r1, .bool r2]) ∧ Below w.heap.size w w' := by
 have hu29 := Try.underlying29
 have hu65 := Try.underlying65
 have hu67 := Try.underlying67
 have HR0_0 := Aside0.mk hr0_0
 have HC0_0 := Aside0.mk hc0_0
 clear hr0_0 hc0_0
 have HB := Aside0.mk (Below.refl w.heap.size w)
 have H : ((impl_isCommit.f l0_0 a0_1 a0_2).bind fun t272 => (if t272 = true then (if a0_1 = 0 then (impl_AgreesIn.j0 k false l0_0 a0_1 a0_2) else (if a0_2 = 0 then (impl_AgreesIn.j0 k false l0_0 a0_1 a0_2) else (impl_AgreesIn.j0 k (a0_1 != a0_2) l0_0 a0_1 a0_2))) else (some (false, false)))) = some (r1, r2) := h
 clear h
 replace H := Option.bind_eq_some_iff.mp H
 obtain ⟨t272, A20, H⟩ := H
 replace H : (if t272 = true then (if a0_1 = 0 then (impl_AgreesIn.j0 k false l0_0 a0_1 a0_2) else (if a0_2 = 0 then (impl_AgreesIn.j0 k false l0_0 a0_1 a0_2) else (impl_AgreesIn.j0 k (a0_1 != a0_2) l0_0 a0_1 a0_2))) else (some (false, false))) = some (r1, r2) := H
 have A2 := Aside0.mk A20
 clear A20
 by_cases c3 : t272 = true
 rotate_left
 ·replace c3 := Bool.eq_false_iff.mpr c3
  subst c3
  have H1 : (some (false, false)) = some (r1, r2) := by rw [if_neg (show ¬ (false = true) by decide)] at H; exact H
  clear H
  have H := H1
  clear H1
  simp only [Option.some.injEq, Prod.mk.injEq] at H
  obtain ⟨rfl, rfl⟩ := H
  go_enter Try.func28, Try.ntmps28
  go_wp2_with (first | ((with_reducible refine gate_dst (N := 1) rfl ?_); refine box_event ?hg (N := 1) ?hd (cs := #[.slice A0_0 l0_0.length c0_0, .int .i64 a0_1, .int .i64 a0_2]) (t := 29) ?hr ?_; (case hd => rfl); (case hg => rfl); (case hr => first | (go_simp; done) | (go_simp; rfl)); intro gb271 hg w92 hbox hb; have n0_ := Aside0.mk (below_step (by repeat (first | (with_reducible first | exact HB.out | apply below_alloc | apply pw_below_drewN | apply below_drew1) | exact HB.out)) hb); have n1_ := Aside0.mk (hbox); have n2_ := Aside0.mk ((by rw [hg]; exact (below_size (by repeat (first | (with_reducible first | exact HB.out | apply below_alloc | apply pw_below_drewN | apply below_drew1) | exact HB.out))) : w.heap.size ≤ gb271)); have n3_ := Aside0.mk ((by rw [hg]; exact (below_size (by repeat (first | (with_reducible first | exact HB.out | apply below_alloc | apply pw_below_drewN | apply below_drew1) | exact HB.out))) : w.heap.size ≤ gb271)); clear HB; have HB := n0_; have BK271 := n1_; have GW271 := n2_; have GE271 := n3_; clear n0_ n1_ n2_ n3_; clear hb hbox hg; have hcz93_0 : w92.cell? ⟨gb271, 0, none⟩ = some (.slice A0_0 l0_0.length c0_0) := (blk_cell BK271.out 0).trans rfl; have hcz93_1 : w92.cell? ⟨gb271, 1, none⟩ = some (.int .i64 a0_1) := (blk_cell BK271.out 1).trans rfl; have hcz93_2 : w92.cell? ⟨gb271, 2, none⟩ = some (.int .i64 a0_2) := (blk_cell BK271.out 2).trans rfl; have hfz93_0 := blk_frozen BK271.out 0; have hfz93_1 := blk_frozen BK271.out 1; have hfz93_2 := blk_frozen BK271.out 2) | ((with_reducible refine gate_callee (f := 43) rfl ?_); refine goesL_ (some 9) rfl rfl Try.func43 (by kernel_rfl) rfl #[.agg #[.slice A0_0 l0_0.length c0_0, .int .i64 a0_1, .int .i64 a0_2]] rfl (by (try simp only [List.map_toArray, List.map_cons, List.map_nil]); first | done | rfl | (simp only [List.length_drop, List.length_take]; rfl)) ?_; (with_reducible refine (impl_isCommit.calls _ _ l0_0 a0_1 a0_2 false _ ?side1 ?side2 A2.out).mono ?_); (case side1 => repeat (first | exact (Kd.C_below HR0_0.out HB.out) | (with_reducible refine Kd.C_alloc ?_ _) | (with_reducible refine Kd.C_drewN ?_ _) | (with_reducible refine Kd.C_drew ?_))); (case side2 => exact HC0_0.out); rintro e w94 ⟨rfl, hb⟩; refine ⟨_, rfl, ?_⟩; have n0_ := Aside0.mk (blk_below (g := gb271) (o := .cells #[.slice A0_0 l0_0.length c0_0, .int .i64 a0_1, .int .i64 a0_2] 29 (0, 0)) (by (with_reducible repeat (first | refine blk_drewN ?_ _ | refine blk_drew ?_ | refine blk_alloc ?_ _)); exact BK271.out) hb); have n1_ := Aside0.mk (below_step (by repeat (first | (with_reducible first | exact HB.out | apply below_alloc | apply pw_below_drewN | apply below_drew1 | refine below_set ?_ GE271.out) | exact HB.out)) hb); clear BK271; clear HB; have BK271 := n0_; have HB := n1_; clear n0_ n1_; (try clear hb); (try clear hb2); (try clear hk); (try clear hi)))
  go_ret2
  exact ⟨by first | rfl | (simp [errW_none, errW_some] <;> rfl) | (simp [*, errW_none, errW_some] <;> rfl), by repeat (first | (with_reducible first | exact HB.out | apply below_alloc | apply pw_below_drewN | apply below_drew1 | refine below_set ?_ GE271.out) | exact HB.out)⟩
 subst c3
 have H1 : (if a0_1 = 0 then (impl_AgreesIn.j0 k false l0_0 a0_1 a0_2) else (if a0_2 = 0 then (impl_AgreesIn.j0 k false l0_0 a0_1 a0_2) else (impl_AgreesIn.j0 k (a0_1 != a0_2) l0_0 a0_1 a0_2))) = some (r1, r2) := by rw [if_pos rfl] at H; exact H
 clear H
 have H := H1
 clear H1
 have HC4 := Aside0.mk H
 clear H
 go_enter Try.func28, Try.ntmps28
 go_upto_region 3 with (first | ((with_reducible refine gate_dst (N := 1) rfl ?_); refine box_event ?hg (N := 1) ?hd (cs := #[.slice A0_0 l0_0.length c0_0, .int .i64 a0_1, .int .i64 a0_2]) (t := 29) ?hr ?_; (case hd => rfl); (case hg => rfl); (case hr => first | (go_simp; done) | (go_simp; rfl)); intro gb271 hg w5 hbox hb; have n0_ := Aside0.mk (below_step (by repeat (first | (with_reducible first | exact HB.out | apply below_alloc | apply pw_below_drewN | apply below_drew1) | exact HB.out)) hb); have n1_ := Aside0.mk (hbox); have n2_ := Aside0.mk ((by rw [hg]; exact (below_size (by repeat (first | (with_reducible first | exact HB.out | apply below_alloc | apply pw_below_drewN | apply below_drew1) | exact HB.out))) : w.heap.size ≤ gb271)); have n3_ := Aside0.mk ((by rw [hg]; exact (below_size (by repeat (first | (with_reducible first | exact HB.out | apply below_alloc | apply pw_below_drewN | apply below_drew1) | exact HB.out))) : w.heap.size ≤ gb271)); clear HB; have HB := n0_; have BK271 := n1_; have GW271 := n2_; have GE271 := n3_; clear n0_ n1_ n2_ n3_; clear hb hbox hg; have hcz6_0 : w5.cell? ⟨gb271, 0, none⟩ = some (.slice A0_0 l0_0.length c0_0) := (blk_cell BK271.out 0).trans rfl; have hcz6_1 : w5.cell? ⟨gb271, 1, none⟩ = some (.int .i64 a0_1) := (blk_cell BK271.out 1).trans rfl; have hcz6_2 : w5.cell? ⟨gb271, 2, none⟩ = some (.int .i64 a0_2) := (blk_cell BK271.out 2).trans rfl; have hfz6_0 := blk_frozen BK271.out 0; have hfz6_1 := blk_frozen BK271.out 1; have hfz6_2 := blk_frozen BK271.out 2) | ((with_reducible refine gate_callee (f := 43) rfl ?_); refine goesL_ (some 9) rfl rfl Try.func43 (by kernel_rfl) rfl #[.agg #[.slice A0_0 l0_0.length c0_0, .int .i64 a0_1, .int .i64 a0_2]] rfl (by (try simp only [List.map_toArray, List.map_cons, List.map_nil]); first | done | rfl | (simp only [List.length_drop, List.length_take]; rfl)) ?_; (with_reducible refine (impl_isCommit.calls _ _ l0_0 a0_1 a0_2 true _ ?side1 ?side2 A2.out).mono ?_); (case side1 => repeat (first | exact (Kd.C_below HR0_0.out HB.out) | (with_reducible refine Kd.C_alloc ?_ _) | (with_reducible refine Kd.C_drewN ?_ _) | (with_reducible refine Kd.C_drew ?_))); (case side2 => exact HC0_0.out); rintro e w7 ⟨rfl, hb⟩; refine ⟨_, rfl, ?_⟩; have n0_ := Aside0.mk (blk_below (g := gb271) (o := .cells #[.slice A0_0 l0_0.length c0_0, .int .i64 a0_1, .int .i64 a0_2] 29 (0, 0)) (by (with_reducible repeat (first | refine blk_drewN ?_ _ | refine blk_drew ?_ | refine blk_alloc ?_ _)); exact BK271.out) hb); have n1_ := Aside0.mk (below_step (by repeat (first | (with_reducible first | exact HB.out | apply below_alloc | apply pw_below_drewN | apply below_drew1 | refine below_set ?_ GE271.out) | exact HB.out)) hb); clear BK271; clear HB; have BK271 := n0_; have HB := n1_; clear n0_ n1_; (try clear hb); (try clear hb2); (try clear hk); (try clear hi)))
 (try simp only [Act.put, List.setIfInBounds_toArray, List.set_cons_zero, List.set_cons_succ])
 go_cut [25] (fun v25 wc => ∃ (kq : Nat) (x25_3 : Bool), v25 = .bool x25_3 ∧ Aside0 (impl_AgreesIn.j0 kq x25_3 l0_0 a0_1 a0_2 = some (r1, r2)) ∧ Aside0 (kq ≤ k) ∧ Aside0 (wc.heap[gb271]? = some (.cells #[(.slice A0_0 l0_0.length c0_0), .int .i64 a0_1, .int .i64 a0_2] 29 (0, 0))) ∧ Aside0 (Below w.heap.size w wc))
 case first =>
  have H := HC4.out
  clear HC4
  by_cases c8 : a0_1 = 0
  ·rw [if_pos c8] at H
   have c8b0 : (a0_1 == 0) = true := beq_iff_eq.mpr c8
   have c8b1 : (a0_1 != 0) = false := bne_eq_false_iff_eq.mpr c8
   clear c8
   (first | rw [c8b0] | (simp only [i64_w, i32_w]; rw [c8b0]) | skip)
   have H' := Aside0.mk H
   clear H
   have hcz9_0 : w7.cell? ⟨gb271, 0, none⟩ = some (.slice A0_0 l0_0.length c0_0) := (blk_cell BK271.out 0).trans rfl
   have hcz9_1 : w7.cell? ⟨gb271, 1, none⟩ = some (.int .i64 a0_1) := (blk_cell BK271.out 1).trans rfl
   have hcz9_2 : w7.cell? ⟨gb271, 2, none⟩ = some (.int .i64 a0_2) := (blk_cell BK271.out 2).trans rfl
   have hfz9_0 := blk_frozen BK271.out 0
   have hfz9_1 := blk_frozen BK271.out 1
   have hfz9_2 := blk_frozen BK271.out 2
   go_wp2
   go_meet
   case rel => exact ⟨_, (false), (by first | rfl | (simp; done) | (simp [*]; done)), H', ⟨by first | omega | exact Nat.le_refl _⟩, ⟨by (with_reducible repeat (first | refine blk_drewN ?_ _ | refine blk_drew ?_ | refine blk_alloc ?_ _)); exact BK271.out⟩, ⟨by repeat (first | (with_reducible first | exact HB.out | apply below_alloc | apply pw_below_drewN | apply below_drew1 | refine below_set ?_ GE271.out) | exact HB.out)⟩⟩
  rw [if_neg c8] at H
  have c8b0 : (a0_1 == 0) = false := beq_eq_false_iff_ne.mpr c8
  have c8b1 : (a0_1 != 0) = true := bne_iff_ne.mpr c8
  (first | rw [c8b0] | (simp only [i64_w, i32_w]; rw [c8b0]) | skip)
  by_cases c10 : a0_2 = 0
  rotate_left
  ·rw [if_neg c10] at H
   have c10b0 : (a0_2 == 0) = false := beq_eq_false_iff_ne.mpr c10
   have c10b1 : (a0_2 != 0) = true := bne_iff_ne.mpr c10
   have H' := Aside0.mk H
   clear H
   have hcz12_0 : w7.cell? ⟨gb271, 0, none⟩ = some (.slice A0_0 l0_0.length c0_0) := (blk_cell BK271.out 0).trans rfl
   have hcz12_1 : w7.cell? ⟨gb271, 1, none⟩ = some (.int .i64 a0_1) := (blk_cell BK271.out 1).trans rfl
   have hcz12_2 : w7.cell? ⟨gb271, 2, none⟩ = some (.int .i64 a0_2) := (blk_cell BK271.out 2).trans rfl
   have hfz12_0 := blk_frozen BK271.out 0
   have hfz12_1 := blk_frozen BK271.out 1
   have hfz12_2 := blk_frozen BK271.out 2
   go_wp2
   go_meet
   case rel => exact ⟨_, ((a0_1 != a0_2)), (by first | rfl | (simp; done) | (simp [*]; done)), H', ⟨by first | omega | exact Nat.le_refl _⟩, ⟨by (with_reducible repeat (first | refine blk_drewN ?_ _ | refine blk_drew ?_ | refine blk_alloc ?_ _)); exact BK271.out⟩, ⟨by repeat (first | (with_reducible first | exact HB.out | apply below_alloc | apply pw_below_drewN | apply below_drew1 | refine below_set ?_ GE271.out) | exact HB.out)⟩⟩
  rw [if_pos c10] at H
  have c10b0 : (a0_2 == 0) = true := beq_iff_eq.mpr c10
  have c10b1 : (a0_2 != 0) = false := bne_eq_false_iff_eq.mpr c10
  clear c10
  have H' := Aside0.mk H
  clear H
  have hcz11_0 : w7.cell? ⟨gb271, 0, none⟩ = some (.slice A0_0 l0_0.length c0_0) := (blk_cell BK271.out 0).trans rfl
  have hcz11_1 : w7.cell? ⟨gb271, 1, none⟩ = some (.int .i64 a0_1) := (blk_cell BK271.out 1).trans rfl
  have hcz11_2 : w7.cell? ⟨gb271, 2, none⟩ = some (.int .i64 a0_2) := (blk_cell BK271.out 2).trans rfl
  have hfz11_0 := blk_frozen BK271.out 0
  have hfz11_1 := blk_frozen BK271.out 1
  have hfz11_2 := blk_frozen BK271.out 2
  go_wp2
  go_meet
  case rel => exact ⟨_, (false), (by first | rfl | (simp; done) | (simp [*]; done)), H', ⟨by first | omega | exact Nat.le_refl _⟩, ⟨by (with_reducible repeat (first | refine blk_drewN ?_ _ | refine blk_drew ?_ | refine blk_alloc ?_ _)); exact BK271.out⟩, ⟨by repeat (first | (with_reducible first | exact HB.out | apply below_alloc | apply pw_below_drewN | apply below_drew1 | refine below_set ?_ GE271.out) | exact HB.out)⟩⟩
 clear HC4
 try clear c1
 try clear c2
 try clear p2
 try clear c3
 try clear c4
 try clear c8
 try clear c8b0
 try clear c8b1
 try clear c10
 try clear c10b0
 try clear c10b1
 try clear hcz11_0
 try clear hcz11_1
 try clear hcz11_2
 try clear hcz12_0
 try clear hcz12_1
 try clear hcz12_2
 try clear hcz6_0
 try clear hcz6_1
 try clear hcz6_2
 try clear hcz9_0
 try clear hcz9_1
 try clear hcz9_2
 try clear hfz11_0
 try clear hfz11_1
 try clear hfz11_2
 try clear hfz12_0
 try clear hfz12_1
 try clear hfz12_2
 try clear hfz6_0
 try clear hfz6_1
 try clear hfz6_2
 try clear hfz9_0
 try clear hfz9_1
 try clear hfz9_2
 obtain ⟨kq, x25_3, rfl, HA, HJ3, BK271, HB⟩ := hcut
 cases kq with
 | zero => exact absurd HA.out (by simp [impl_AgreesIn.j0])
 | succ kj3 => ?_
 have H := HA.out
 clear HA
 simp only [impl_AgreesIn.j0] at H
 by_cases c13 : x25_3 = true
 ·subst c13
  have H1 : (some (false, true)) = some (r1, r2) := by rw [if_pos rfl] at H; exact H
  clear H
  have H := H1
  clear H1
  simp only [Option.some.injEq, Prod.mk.injEq] at H
  obtain ⟨rfl, rfl⟩ := H
  go_wp2
  go_ret2
  exact ⟨by first | rfl | (simp [errW_none, errW_some] <;> rfl) | (simp [*, errW_none, errW_some] <;> rfl), by repeat (first | (with_reducible first | exact HB.out | apply below_alloc | apply pw_below_drewN | apply below_drew1 | refine below_set ?_ GE271.out) | exact HB.out)⟩
 replace c13 := Bool.eq_false_iff.mpr c13
 subst c13
 have H1 : (impl_AgreesIn.l0 kj3 l0_0 (l0_0.length : Int) 0 l0_0 a0_1 a0_2) = some (r1, r2) := by rw [if_neg (show ¬ (false = true) by decide)] at H; exact H
 clear H
 have H := H1
 clear H1
 have H' := Aside0.mk H
 clear H
 have hcz14_0 : wc.cell? ⟨gb271, 0, none⟩ = some (.slice A0_0 l0_0.length c0_0) := (blk_cell BK271.out 0).trans rfl
 have hcz14_1 : wc.cell? ⟨gb271, 1, none⟩ = some (.int .i64 a0_1) := (blk_cell BK271.out 1).trans rfl
 have hcz14_2 : wc.cell? ⟨gb271, 2, none⟩ = some (.int .i64 a0_2) := (blk_cell BK271.out 2).trans rfl
 have hfz14_0 := blk_frozen BK271.out 0
 have hfz14_1 := blk_frozen BK271.out 1
 have hfz14_2 := blk_frozen BK271.out 2
 go_wp2
 go_loopg [29] kj3 (fun kq v29 w' => ∃ (x29_2 : Int), v29 = .int .i64 x29_2 ∧ Aside0 (impl_AgreesIn.l0 kq l0_0 (l0_0.length : Int) x29_2 l0_0 a0_1 a0_2 = some (r1, r2)) ∧ Aside0 (kq ≤ kj3) ∧ Aside0 (w'.heap[gb271]? = some (.cells #[(.slice A0_0 l0_0.length c0_0), .int .i64 a0_1, .int .i64 a0_2] 29 (0, 0))) ∧ Aside0 (Below w.heap.size w w'))
 case atStart => exact ⟨(0), (by first | rfl | (simp; done) | (simp [*]; done)), H', ⟨Nat.le_refl _⟩, ⟨by (with_reducible repeat (first | refine blk_drewN ?_ _ | refine blk_drew ?_ | refine blk_alloc ?_ _)); exact BK271.out⟩, ⟨by repeat (first | (with_reducible first | exact HB.out | apply below_alloc | apply pw_below_drewN | apply below_drew1 | refine below_set ?_ GE271.out) | exact HB.out)⟩⟩
 clear H'
 try clear c1
 try clear c2
 try clear p2
 try clear c3
 try clear c4
 try clear c8
 try clear c8b0
 try clear c8b1
 try clear c10
 try clear c10b0
 try clear c10b1
 try clear c13
 try clear hcz11_0
 try clear hcz11_1
 try clear hcz11_2
 try clear hcz12_0
 try clear hcz12_1
 try clear hcz12_2
 try clear hcz14_0
 try clear hcz14_1
 try clear hcz14_2
 try clear hcz6_0
 try clear hcz6_1
 try clear hcz6_2
 try clear hcz9_0
 try clear hcz9_1
 try clear hcz9_2
 try clear hfz11_0
 try clear hfz11_1
 try clear hfz11_2
 try clear hfz12_0
 try clear hfz12_1
 try clear hfz12_2
 try clear hfz14_0
 try clear hfz14_1
 try clear hfz14_2
 try clear hfz6_0
 try clear hfz6_1
 try clear hfz6_2
 try clear hfz9_0
 try clear hfz9_1
 try clear hfz9_2
 try clear p2
 obtain ⟨x29_2, rfl, HA, HK2, BK271, HB⟩ := hrel
 cases gk with
 | zero => exact absurd HA.out (by simp [impl_AgreesIn.l0])
 | succ k2 => ?_
 have H := HA.out
 clear HA
 simp only [impl_AgreesIn.l0] at H
 by_cases c15 : x29_2 < (l0_0.length : Int)
 rotate_left
 ·rw [if_neg c15] at H
  have c15b0 : decide (x29_2 < (l0_0.length : Int)) = false := decide_eq_false c15
  clear c15
  simp only [Option.some.injEq, Prod.mk.injEq] at H
  obtain ⟨rfl, rfl⟩ := H
  go_wp2
  go_ret2
  exact ⟨by first | rfl | (simp [errW_none, errW_some] <;> rfl) | (simp [*, errW_none, errW_some] <;> rfl), by repeat (first | (with_reducible first | exact HB.out | apply below_alloc | apply pw_below_drewN | apply below_drew1 | refine below_set ?_ GE271.out) | exact HB.out)⟩
 rw [if_pos c15] at H
 have c15b0 : decide (x29_2 < (l0_0.length : Int)) = true := decide_eq_true c15
 clear c15
 by_cases c16 : 0 ≤ x29_2
 rotate_left
 ·rw [if_neg c16] at H
  exact absurd H (by simp)
 rw [if_pos c16] at H
 have c16b0 : decide (0 ≤ x29_2) = true := decide_eq_true c16
 clear c16
 by_cases c17 : x29_2 < (l0_0.length : Int)
 rotate_left
 ·rw [if_neg c17] at H
  exact absurd H (by simp)
 rw [if_pos c17] at H
 have c17b0 : decide (x29_2 < (l0_0.length : Int)) = true := decide_eq_true c17
 clear c17
 have H' := Aside0.mk H
 clear H
 have p273 : 0 ≤ (x29_2 : Int) := of_decide_eq_true (by first | (with_reducible assumption) | assumption)
 have q273 : x29_2 < (l0_0.length : Int) := of_decide_eq_true (by first | (with_reducible assumption) | assumption)
 obtain ⟨ad273, A273_0, c273_0, e273, hx273_0, hl273_0, hi273_0⟩ := at_T65 HR0_0.out x29_2 p273 q273
 cases e273
 replace hx273_0 := (HB.out.cell (World.block_lt_of_cell? w _ hx273_0)).trans hx273_0
 have HR273_0 := Aside0.mk hi273_0
 have HC273_0 := Aside0.mk hl273_0
 clear hi273_0 hl273_0
 replace p273 := eq_true p273
 replace q273 := eq_true q273
 go_wp2_with (first | ((with_reducible refine gate_dst (N := 5) rfl ?_); refine box_event ?hg (N := 5) ?hd (cs := #[.slice none 0 0]) (t := 65) ?hr ?_; (case hd => rfl); (case hg => rfl); (case hr => first | (go_simp; done) | (go_simp; rfl)); intro gb274 hg w18 hbox hb; have n0_ := Aside0.mk (blk_below (g := gb271) (o := .cells #[.slice (some ad273) l0_0.length c0_0, .int .i64 a0_1, .int .i64 a0_2] 29 (0, 0)) (by (with_reducible repeat (first | refine blk_drewN ?_ _ | refine blk_drew ?_ | refine blk_alloc ?_ _)); exact BK271.out) hb); have n1_ := Aside0.mk (below_step (by repeat (first | (with_reducible first | exact HB.out | apply below_alloc | apply pw_below_drewN | apply below_drew1 | refine below_set ?_ GE271.out) | exact HB.out)) hb); have n2_ := Aside0.mk (hbox); have n3_ := Aside0.mk ((by rw [hg]; exact (below_size (by repeat (first | (with_reducible first | exact HB.out | apply below_alloc | apply pw_below_drewN | apply below_drew1 | refine below_set ?_ GE271.out) | exact HB.out))) : w.heap.size ≤ gb274)); have n4_ := Aside0.mk ((by rw [hg]; exact (below_size (by repeat (first | (with_reducible first | exact HB.out | apply below_alloc | apply pw_below_drewN | apply below_drew1 | refine below_set ?_ GE271.out) | exact HB.out))) : w.heap.size ≤ gb274)); have n5_ := Aside0.mk ((by rw [hg]; exact Nat.ne_of_lt (blk_lt (g := gb271) (o := .cells #[.slice (some ad273) l0_0.length c0_0, .int .i64 a0_1, .int .i64 a0_2] 29 (0, 0)) (by (with_reducible repeat (first | refine blk_drewN ?_ _ | refine blk_drew ?_ | refine blk_alloc ?_ _)); exact BK271.out)) : gb271 ≠ gb274)); have n6_ := Aside0.mk ((by rw [hg]; exact Nat.ne_of_gt (blk_lt (g := gb271) (o := .cells #[.slice (some ad273) l0_0.length c0_0, .int .i64 a0_1, .int .i64 a0_2] 29 (0, 0)) (by (with_reducible repeat (first | refine blk_drewN ?_ _ | refine blk_drew ?_ | refine blk_alloc ?_ _)); exact BK271.out)) : gb274 ≠ gb271)); clear BK271; clear HB; have BK271 := n0_; have HB := n1_; have BK274 := n2_; have GW274 := n3_; have GE274 := n4_; have NB271_274 := n5_; have NB274_271 := n6_; clear n0_ n1_ n2_ n3_ n4_ n5_ n6_; clear hb hbox hg; have hnb19 := NB274_271.out; have hnc19 := NB271_274.out; have hcz20_0 : w18.cell? ⟨gb274, 0, none⟩ = some (.slice none 0 0) := (blk_cell BK274.out 0).trans rfl; have hfz20_0 := blk_frozen BK274.out 0))
 go_loopg [36] k2 (fun kq v36 w' => ∃ (x36_3 : Int), v36 = .int .i64 x36_3 ∧ Aside0 (impl_AgreesIn.l1 kq l0_0 (l0_0.length : Int) x29_2 ((rd_T65 l0_0 x29_2).f0) (((rd_T65 l0_0 x29_2).f0).length : Int) x36_3 l0_0 a0_1 a0_2 = some (r1, r2)) ∧ Aside0 (kq ≤ k2) ∧ Aside0 (w'.heap[gb271]? = some (.cells #[(.slice (some ad273) l0_0.length c0_0), .int .i64 a0_1, .int .i64 a0_2] 29 (0, 0))) ∧ Aside0 (w'.heap[gb274]? = some (.cells #[(.slice A273_0 ((rd_T65 l0_0 x29_2).f0).length c273_0)] 65 (0, 0))) ∧ Aside0 (Below w.heap.size w w'))
 case atStart => exact ⟨(0), (by first | rfl | (simp; done) | (simp [*]; done)), H', ⟨Nat.le_refl _⟩, ⟨by (with_reducible repeat (first | refine blk_drewN ?_ _ | refine blk_drew ?_ | refine blk_alloc ?_ _)); refine blk_far ?_ NB271_274.out _; (with_reducible repeat (first | refine blk_drewN ?_ _ | refine blk_drew ?_ | refine blk_alloc ?_ _)); exact BK271.out⟩, ⟨by (with_reducible repeat (first | refine blk_drewN ?_ _ | refine blk_drew ?_ | refine blk_alloc ?_ _)); refine blk_put (cs := #[.slice none 0 0]) ?_ 0 _ rfl; (with_reducible repeat (first | refine blk_drewN ?_ _ | refine blk_drew ?_ | refine blk_alloc ?_ _)); exact BK274.out⟩, ⟨by repeat (first | (with_reducible first | exact HB.out | apply below_alloc | apply pw_below_drewN | apply below_drew1 | refine below_set ?_ GE271.out | refine below_set ?_ GE274.out) | exact HB.out)⟩⟩
 clear H'
 try clear c1
 try clear c2
 try clear p2
 try clear q2
 try clear hx2
 try clear c3
 try clear c4
 try clear c8
 try clear c8b0
 try clear c8b1
 try clear c10
 try clear c10b0
 try clear c10b1
 try clear c13
 try clear c15
 try clear c15b0
 try clear c16
 try clear c16b0
 try clear c17
 try clear c17b0
 try clear c19
 try clear hcz11_0
 try clear hcz11_1
 try clear hcz11_2
 try clear hcz12_0
 try clear hcz12_1
 try clear hcz12_2
 try clear hcz14_0
 try clear hcz14_1
 try clear hcz14_2
 try clear hcz20_0
 try clear hcz6_0
 try clear hcz6_1
 try clear hcz6_2
 try clear hcz9_0
 try clear hcz9_1
 try clear hcz9_2
 try clear hfz11_0
 try clear hfz11_1
 try clear hfz11_2
 try clear hfz12_0
 try clear hfz12_1
 try clear hfz12_2
 try clear hfz14_0
 try clear hfz14_1
 try clear hfz14_2
 try clear hfz20_0
 try clear hfz6_0
 try clear hfz6_1
 try clear hfz6_2
 try clear hfz9_0
 try clear hfz9_1
 try clear hfz9_2
 try clear hx273_0
 try clear p2
 try clear p273
 try clear q273
 obtain ⟨x36_3, rfl, HA, HK3, BK271, BK274, HB⟩ := hrel
 cases gk with
 | zero => exact absurd HA.out (by simp [impl_AgreesIn.l1])
 | succ k3 => ?_
 have H := HA.out
 clear HA
 simp only [impl_AgreesIn.l1] at H
 by_cases c21 : x36_3 < (((rd_T65 l0_0 x29_2).f0).length : Int)
 rotate_left
 ·rw [if_neg c21] at H
  have c21b0 : decide (x36_3 < (((rd_T65 l0_0 x29_2).f0).length : Int)) = false := decide_eq_false c21
  clear c21
  have H' := Aside0.mk H
  clear H
  go_wp2
  go_roundg k3
  case measure => have := HJ3.out; have := HK2.out; have := HK3.out; omega
  case rel => exact ⟨(wrap64 (x29_2 + 1)), (by first | rfl | (simp; done) | (simp [*]; done)), H', ⟨by have := HJ3.out; have := HK2.out; have := HK3.out; omega⟩, ⟨by (with_reducible repeat (first | refine blk_drewN ?_ _ | refine blk_drew ?_ | refine blk_alloc ?_ _)); exact BK271.out⟩, ⟨by repeat (first | (with_reducible first | exact HB.out | apply below_alloc | apply pw_below_drewN | apply below_drew1 | refine below_set ?_ GE271.out | refine below_set ?_ GE274.out) | exact HB.out)⟩⟩
 rw [if_pos c21] at H
 have c21b0 : decide (x36_3 < (((rd_T65 l0_0 x29_2).f0).length : Int)) = true := decide_eq_true c21
 clear c21
 by_cases c22 : 0 ≤ x36_3
 rotate_left
 ·rw [if_neg c22] at H
  exact absurd H (by simp)
 rw [if_pos c22] at H
 have c22b0 : decide (0 ≤ x36_3) = true := decide_eq_true c22
 clear c22
 by_cases c23 : x36_3 < (((rd_T65 l0_0 x29_2).f0).length : Int)
 rotate_left
 ·rw [if_neg c23] at H
  exact absurd H (by simp)
 rw [if_pos c23] at H
 have c23b0 : decide (x36_3 < (((rd_T65 l0_0 x29_2).f0).length : Int)) = true := decide_eq_true c23
 clear c23
 obtain ⟨bq24, hbq24⟩ : ∃ b_ : Bool, b_ = ((rd_T67 ((rd_T65 l0_0 x29_2).f0) x36_3).f0) := ⟨_, rfl⟩
 replace H : (if (bq24 = true) then (impl_AgreesIn.l1 k3 l0_0 (l0_0.length : Int) x29_2 ((rd_T65 l0_0 x29_2).f0) (((rd_T65 l0_0 x29_2).f0).length : Int) (wrap64 (x36_3 + 1)) l0_0 a0_1 a0_2) else (if ((rd_T67 ((rd_T65 l0_0 x29_2).f0) x36_3).f1) = 3 then ((impl_Commit_decision.f l0_0 a0_1 a0_2).bind fun t277 => (if t277 = 1 then (if ((rd_T67 ((rd_T65 l0_0 x29_2).f0) x36_3).f1) = 4 then ((impl_Commit_decision.f l0_0 a0_1 a0_2).bind fun t278 => (if t278 = 2 then (impl_AgreesIn.l1 k3 l0_0 (l0_0.length : Int) x29_2 ((rd_T65 l0_0 x29_2).f0) (((rd_T65 l0_0 x29_2).f0).length : Int) (wrap64 (x36_3 + 1)) l0_0 a0_1 a0_2) else (some (false, true)))) else (impl_AgreesIn.l1 k3 l0_0 (l0_0.length : Int) x29_2 ((rd_T65 l0_0 x29_2).f0) (((rd_T65 l0_0 x29_2).f0).length : Int) (wrap64 (x36_3 + 1)) l0_0 a0_1 a0_2)) else (some (false, true)))) else (if ((rd_T67 ((rd_T65 l0_0 x29_2).f0) x36_3).f1) = 4 then ((impl_Commit_decision.f l0_0 a0_1 a0_2).bind fun t279 => (if t279 = 2 then (impl_AgreesIn.l1 k3 l0_0 (l0_0.length : Int) x29_2 ((rd_T65 l0_0 x29_2).f0) (((rd_T65 l0_0 x29_2).f0).length : Int) (wrap64 (x36_3 + 1)) l0_0 a0_1 a0_2) else (some (false, true)))) else (impl_AgreesIn.l1 k3 l0_0 (l0_0.length : Int) x29_2 ((rd_T65 l0_0 x29_2).f0) (((rd_T65 l0_0 x29_2).f0).length : Int) (wrap64 (x36_3 + 1)) l0_0 a0_1 a0_2)))) = some (r1, r2) := by rw [← hbq24] at H; exact H
 have Nbq24 := Aside0.mk hbq24
 clear hbq24
 by_cases c25 : (bq24 = true)
 ·subst c25
  have H1 : (impl_AgreesIn.l1 k3 l0_0 (l0_0.length : Int) x29_2 ((rd_T65 l0_0 x29_2).f0) (((rd_T65 l0_0 x29_2).f0).length : Int) (wrap64 (x36_3 + 1)) l0_0 a0_1 a0_2) = some (r1, r2) := by rw [if_pos rfl] at H; exact H
  clear H
  have H := H1
  clear H1
  have H' := Aside0.mk H
  clear H
  have p275 : 0 ≤ (x36_3 : Int) := of_decide_eq_true (by first | (with_reducible assumption) | assumption)
  have q275 : x36_3 < (((rd_T65 l0_0 x29_2).f0).length : Int) := of_decide_eq_true (by first | (with_reducible assumption) | assumption)
  obtain ⟨ad275, e275, hx275_0, hx275_1⟩ := at_T67 HR273_0.out x36_3 p275 q275
  (try rw [← Nbq24.out] at hx275_0)
  cases e275
  replace hx275_0 := (HB.out.cell (World.block_lt_of_cell? w _ hx275_0)).trans hx275_0
  replace hx275_1 := (HB.out.cell (World.block_lt_of_cell? w _ hx275_1)).trans hx275_1
  replace p275 := eq_true p275
  replace q275 := eq_true q275
  go_wp2_with (first | ((with_reducible refine gate_dst (N := 7) rfl ?_); refine box_event ?hg (N := 7) ?hd (cs := #[.bool false, .int .i64 0]) (t := 67) ?hr ?_; (case hd => rfl); (case hg => rfl); (case hr => first | (go_simp; done) | (go_simp; rfl)); intro gb276 hg w26 hbox hb; have n0_ := Aside0.mk (blk_below (g := gb271) (o := .cells #[.slice (some ad273) l0_0.length c0_0, .int .i64 a0_1, .int .i64 a0_2] 29 (0, 0)) (by (with_reducible repeat (first | refine blk_drewN ?_ _ | refine blk_drew ?_ | refine blk_alloc ?_ _)); exact BK271.out) hb); have n1_ := Aside0.mk (blk_below (g := gb274) (o := .cells #[.slice (some ad275) ((rd_T65 l0_0 x29_2).f0).length c273_0] 65 (0, 0)) (by (with_reducible repeat (first | refine blk_drewN ?_ _ | refine blk_drew ?_ | refine blk_alloc ?_ _)); exact BK274.out) hb); have n2_ := Aside0.mk (below_step (by repeat (first | (with_reducible first | exact HB.out | apply below_alloc | apply pw_below_drewN | apply below_drew1 | refine below_set ?_ GE271.out | refine below_set ?_ GE274.out) | exact HB.out)) hb); have n3_ := Aside0.mk (hbox); have n4_ := Aside0.mk ((by rw [hg]; exact (below_size (by repeat (first | (with_reducible first | exact HB.out | apply below_alloc | apply pw_below_drewN | apply below_drew1 | refine below_set ?_ GE271.out | refine below_set ?_ GE274.out) | exact HB.out))) : w.heap.size ≤ gb276)); have n5_ := Aside0.mk ((by rw [hg]; exact (below_size (by repeat (first | (with_reducible first | exact HB.out | apply below_alloc | apply pw_below_drewN | apply below_drew1 | refine below_set ?_ GE271.out | refine below_set ?_ GE274.out) | exact HB.out))) : w.heap.size ≤ gb276)); have n6_ := Aside0.mk ((by rw [hg]; exact Nat.ne_of_lt (blk_lt (g := gb271) (o := .cells #[.slice (some ad273) l0_0.length c0_0, .int .i64 a0_1, .int .i64 a0_2] 29 (0, 0)) (by (with_reducible repeat (first | refine blk_drewN ?_ _ | refine blk_drew ?_ | refine blk_alloc ?_ _)); exact BK271.out)) : gb271 ≠ gb276)); have n7_ := Aside0.mk ((by rw [hg]; exact Nat.ne_of_gt (blk_lt (g := gb271) (o := .cells #[.slice (some ad273) l0_0.length c0_0, .int .i64 a0_1, .int .i64 a0_2] 29 (0, 0)) (by (with_reducible repeat (first | refine blk_drewN ?_ _ | refine blk_drew ?_ | refine blk_alloc ?_ _)); exact BK271.out)) : gb276 ≠ gb271)); have n8_ := Aside0.mk ((by rw [hg]; exact Nat.ne_of_lt (blk_lt (g := gb274) (o := .cells #[.slice (some ad275) ((rd_T65 l0_0 x29_2).f0).length c273_0] 65 (0, 0)) (by (with_reducible repeat (first | refine blk_drewN ?_ _ | refine blk_drew ?_ | refine blk_alloc ?_ _)); exact BK274.out)) : gb274 ≠ gb276)); have n9_ := Aside0.mk ((by rw [hg]; exact Nat.ne_of_gt (blk_lt (g := gb274) (o := .cells #[.slice (some ad275) ((rd_T65 l0_0 x29_2).f0).length c273_0] 65 (0, 0)) (by (with_reducible repeat (first | refine blk_drewN ?_ _ | refine blk_drew ?_ | refine blk_alloc ?_ _)); exact BK274.out)) : gb276 ≠ gb274)); clear BK271; clear BK274; clear HB; have BK271 := n0_; have BK274 := n1_; have HB := n2_; have BK276 := n3_; have GW276 := n4_; have GE276 := n5_; have NB271_276 := n6_; have NB276_271 := n7_; have NB274_276 := n8_; have NB276_274 := n9_; clear n0_ n1_ n2_ n3_ n4_ n5_ n6_ n7_ n8_ n9_; clear hb hbox hg; have hnb27 := NB276_271.out; have hnc27 := NB271_276.out; have hnb28 := NB276_274.out; have hnc28 := NB274_276.out; have hcz29_0 : w26.cell? ⟨gb276, 0, none⟩ = some (.bool false) := (blk_cell BK276.out 0).trans rfl; have hcz29_1 : w26.cell? ⟨gb276, 1, none⟩ = some (.int .i64 0) := (blk_cell BK276.out 1).trans rfl; have hfz29_0 := blk_frozen BK276.out 0; have hfz29_1 := blk_frozen BK276.out 1))
  go_roundg k3
  case measure => have := HJ3.out; have := HK2.out; have := HK3.out; omega
  case rel => exact ⟨(wrap64 (x36_3 + 1)), (by first | rfl | (simp; done) | (simp [*]; done)), H', ⟨by have := HJ3.out; have := HK2.out; have := HK3.out; omega⟩, ⟨by (with_reducible repeat (first | refine blk_drewN ?_ _ | refine blk_drew ?_ | refine blk_alloc ?_ _)); refine blk_far ?_ NB271_276.out _; (with_reducible repeat (first | refine blk_drewN ?_ _ | refine blk_drew ?_ | refine blk_alloc ?_ _)); refine blk_far ?_ NB271_276.out _; (with_reducible repeat (first | refine blk_drewN ?_ _ | refine blk_drew ?_ | refine blk_alloc ?_ _)); exact BK271.out⟩, ⟨by (with_reducible repeat (first | refine blk_drewN ?_ _ | refine blk_drew ?_ | refine blk_alloc ?_ _)); refine blk_far ?_ NB274_276.out _; (with_reducible repeat (first | refine blk_drewN ?_ _ | refine blk_drew ?_ | refine blk_alloc ?_ _)); refine blk_far ?_ NB274_276.out _; (with_reducible repeat (first | refine blk_drewN ?_ _ | refine blk_drew ?_ | refine blk_alloc ?_ _)); exact BK274.out⟩, ⟨by repeat (first | (with_reducible first | exact HB.out | apply below_alloc | apply pw_below_drewN | apply below_drew1 | refine below_set ?_ GE271.out | refine below_set ?_ GE274.out | refine below_set ?_ GE276.out) | exact HB.out)⟩⟩
 replace c25 := Bool.eq_false_iff.mpr c25
 subst c25
 have H1 : (if ((rd_T67 ((rd_T65 l0_0 x29_2).f0) x36_3).f1) = 3 then ((impl_Commit_decision.f l0_0 a0_1 a0_2).bind fun t277 => (if t277 = 1 then (if ((rd_T67 ((rd_T65 l0_0 x29_2).f0) x36_3).f1) = 4 then ((impl_Commit_decision.f l0_0 a0_1 a0_2).bind fun t278 => (if t278 = 2 then (impl_AgreesIn.l1 k3 l0_0 (l0_0.length : Int) x29_2 ((rd_T65 l0_0 x29_2).f0) (((rd_T65 l0_0 x29_2).f0).length : Int) (wrap64 (x36_3 + 1)) l0_0 a0_1 a0_2) else (some (false, true)))) else (impl_AgreesIn.l1 k3 l0_0 (l0_0.length : Int) x29_2 ((rd_T65 l0_0 x29_2).f0) (((rd_T65 l0_0 x29_2).f0).length : Int) (wrap64 (x36_3 + 1)) l0_0 a0_1 a0_2)) else (some (false, true)))) else (if ((rd_T67 ((rd_T65 l0_0 x29_2).f0) x36_3).f1) = 4 then ((impl_Commit_decision.f l0_0 a0_1 a0_2).bind fun t279 => (if t279 = 2 then (impl_AgreesIn.l1 k3 l0_0 (l0_0.length : Int) x29_2 ((rd_T65 l0_0 x29_2).f0) (((rd_T65 l0_0 x29_2).f0).length : Int) (wrap64 (x36_3 + 1)) l0_0 a0_1 a0_2) else (some (false, true)))) else (impl_AgreesIn.l1 k3 l0_0 (l0_0.length : Int) x29_2 ((rd_T65 l0_0 x29_2).f0) (((rd_T65 l0_0 x29_2).f0).length : Int) (wrap64 (x36_3 + 1)) l0_0 a0_1 a0_2))) = some (r1, r2) := by rw [if_neg (show ¬ (false = true) by decide)] at H; exact H
 clear H
 have H := H1
 clear H1
 by_cases c30 : ((rd_T67 ((rd_T65 l0_0 x29_2).f0) x36_3).f1) = 3
 rotate_left
 ·rw [if_neg c30] at H
  have c30b0 : (((rd_T67 ((rd_T65 l0_0 x29_2).f0) x36_3).f1) == 3) = false := beq_eq_false_iff_ne.mpr c30
  have c30b1 : (((rd_T67 ((rd_T65 l0_0 x29_2).f0) x36_3).f1) != 3) = true := bne_iff_ne.mpr c30
  by_cases c71 : ((rd_T67 ((rd_T65 l0_0 x29_2).f0) x36_3).f1) = 4
  rotate_left
  ·rw [if_neg c71] at H
   have c71b0 : (((rd_T67 ((rd_T65 l0_0 x29_2).f0) x36_3).f1) == 4) = false := beq_eq_false_iff_ne.mpr c71
   have c71b1 : (((rd_T67 ((rd_T65 l0_0 x29_2).f0) x36_3).f1) != 4) = true := bne_iff_ne.mpr c71
   have H' := Aside0.mk H
   clear H
   have p275 : 0 ≤ (x36_3 : Int) := of_decide_eq_true (by first | (with_reducible assumption) | assumption)
   have q275 : x36_3 < (((rd_T65 l0_0 x29_2).f0).length : Int) := of_decide_eq_true (by first | (with_reducible assumption) | assumption)
   obtain ⟨ad275, e275, hx275_0, hx275_1⟩ := at_T67 HR273_0.out x36_3 p275 q275
   (try rw [← Nbq24.out] at hx275_0)
   cases e275
   replace hx275_0 := (HB.out.cell (World.block_lt_of_cell? w _ hx275_0)).trans hx275_0
   replace hx275_1 := (HB.out.cell (World.block_lt_of_cell? w _ hx275_1)).trans hx275_1
   replace p275 := eq_true p275
   replace q275 := eq_true q275
   go_wp2_with (first | ((with_reducible refine gate_dst (N := 7) rfl ?_); refine box_event ?hg (N := 7) ?hd (cs := #[.bool false, .int .i64 0]) (t := 67) ?hr ?_; (case hd => rfl); (case hg => rfl); (case hr => first | (go_simp; done) | (go_simp; rfl)); intro gb276 hg w88 hbox hb; have n0_ := Aside0.mk (blk_below (g := gb271) (o := .cells #[.slice (some ad273) l0_0.length c0_0, .int .i64 a0_1, .int .i64 a0_2] 29 (0, 0)) (by (with_reducible repeat (first | refine blk_drewN ?_ _ | refine blk_drew ?_ | refine blk_alloc ?_ _)); exact BK271.out) hb); have n1_ := Aside0.mk (blk_below (g := gb274) (o := .cells #[.slice (some ad275) ((rd_T65 l0_0 x29_2).f0).length c273_0] 65 (0, 0)) (by (with_reducible repeat (first | refine blk_drewN ?_ _ | refine blk_drew ?_ | refine blk_alloc ?_ _)); exact BK274.out) hb); have n2_ := Aside0.mk (below_step (by repeat (first | (with_reducible first | exact HB.out | apply below_alloc | apply pw_below_drewN | apply below_drew1 | refine below_set ?_ GE271.out | refine below_set ?_ GE274.out) | exact HB.out)) hb); have n3_ := Aside0.mk (hbox); have n4_ := Aside0.mk ((by rw [hg]; exact (below_size (by repeat (first | (with_reducible first | exact HB.out | apply below_alloc | apply pw_below_drewN | apply below_drew1 | refine below_set ?_ GE271.out | refine below_set ?_ GE274.out) | exact HB.out))) : w.heap.size ≤ gb276)); have n5_ := Aside0.mk ((by rw [hg]; exact (below_size (by repeat (first | (with_reducible first | exact HB.out | apply below_alloc | apply pw_below_drewN | apply below_drew1 | refine below_set ?_ GE271.out | refine below_set ?_ GE274.out) | exact HB.out))) : w.heap.size ≤ gb276)); have n6_ := Aside0.mk ((by rw [hg]; exact Nat.ne_of_lt (blk_lt (g := gb271) (o := .cells #[.slice (some ad273) l0_0.length c0_0, .int .i64 a0_1, .int .i64 a0_2] 29 (0, 0)) (by (with_reducible repeat (first | refine blk_drewN ?_ _ | refine blk_drew ?_ | refine blk_alloc ?_ _)); exact BK271.out)) : gb271 ≠ gb276)); have n7_ := Aside0.mk ((by rw [hg]; exact Nat.ne_of_gt (blk_lt (g := gb271) (o := .cells #[.slice (some ad273) l0_0.length c0_0, .int .i64 a0_1, .int .i64 a0_2] 29 (0, 0)) (by (with_reducible repeat (first | refine blk_drewN ?_ _ | refine blk_drew ?_ | refine blk_alloc ?_ _)); exact BK271.out)) : gb276 ≠ gb271)); have n8_ := Aside0.mk ((by rw [hg]; exact Nat.ne_of_lt (blk_lt (g := gb274) (o := .cells #[.slice (some ad275) ((rd_T65 l0_0 x29_2).f0).length c273_0] 65 (0, 0)) (by (with_reducible repeat (first | refine blk_drewN ?_ _ | refine blk_drew ?_ | refine blk_alloc ?_ _)); exact BK274.out)) : gb274 ≠ gb276)); have n9_ := Aside0.mk ((by rw [hg]; exact Nat.ne_of_gt (blk_lt (g := gb274) (o := .cells #[.slice (some ad275) ((rd_T65 l0_0 x29_2).f0).length c273_0] 65 (0, 0)) (by (with_reducible repeat (first | refine blk_drewN ?_ _ | refine blk_drew ?_ | refine blk_alloc ?_ _)); exact BK274.out)) : gb276 ≠ gb274)); clear BK271; clear BK274; clear HB; have BK271 := n0_; have BK274 := n1_; have HB := n2_; have BK276 := n3_; have GW276 := n4_; have GE276 := n5_; have NB271_276 := n6_; have NB276_271 := n7_; have NB274_276 := n8_; have NB276_274 := n9_; clear n0_ n1_ n2_ n3_ n4_ n5_ n6_ n7_ n8_ n9_; clear hb hbox hg; have hnb89 := NB276_271.out; have hnc89 := NB271_276.out; have hnb90 := NB276_274.out; have hnc90 := NB274_276.out; have hcz91_0 : w88.cell? ⟨gb276, 0, none⟩ = some (.bool false) := (blk_cell BK276.out 0).trans rfl; have hcz91_1 : w88.cell? ⟨gb276, 1, none⟩ = some (.int .i64 0) := (blk_cell BK276.out 1).trans rfl; have hfz91_0 := blk_frozen BK276.out 0; have hfz91_1 := blk_frozen BK276.out 1))
   go_roundg k3
   case measure => have := HJ3.out; have := HK2.out; have := HK3.out; omega
   case rel => exact ⟨(wrap64 (x36_3 + 1)), (by first | rfl | (simp; done) | (simp [*]; done)), H', ⟨by have := HJ3.out; have := HK2.out; have := HK3.out; omega⟩, ⟨by (with_reducible repeat (first | refine blk_drewN ?_ _ | refine blk_drew ?_ | refine blk_alloc ?_ _)); refine blk_far ?_ NB271_276.out _; (with_reducible repeat (first | refine blk_drewN ?_ _ | refine blk_drew ?_ | refine blk_alloc ?_ _)); refine blk_far ?_ NB271_276.out _; (with_reducible repeat (first | refine blk_drewN ?_ _ | refine blk_drew ?_ | refine blk_alloc ?_ _)); exact BK271.out⟩, ⟨by (with_reducible repeat (first | refine blk_drewN ?_ _ | refine blk_drew ?_ | refine blk_alloc ?_ _)); refine blk_far ?_ NB274_276.out _; (with_reducible repeat (first | refine blk_drewN ?_ _ | refine blk_drew ?_ | refine blk_alloc ?_ _)); refine blk_far ?_ NB274_276.out _; (with_reducible repeat (first | refine blk_drewN ?_ _ | refine blk_drew ?_ | refine blk_alloc ?_ _)); exact BK274.out⟩, ⟨by repeat (first | (with_reducible first | exact HB.out | apply below_alloc | apply pw_below_drewN | apply below_drew1 | refine below_set ?_ GE271.out | refine below_set ?_ GE274.out | refine below_set ?_ GE276.out) | exact HB.out)⟩⟩
  rw [if_pos c71] at H
  have c71b0 : (((rd_T67 ((rd_T65 l0_0 x29_2).f0) x36_3).f1) == 4) = true := beq_iff_eq.mpr c71
  have c71b1 : (((rd_T67 ((rd_T65 l0_0 x29_2).f0) x36_3).f1) != 4) = false := bne_eq_false_iff_eq.mpr c71
  clear c71
  replace H := Option.bind_eq_some_iff.mp H
  obtain ⟨t279, A720, H⟩ := H
  replace H : (if t279 = 2 then (impl_AgreesIn.l1 k3 l0_0 (l0_0.length : Int) x29_2 ((rd_T65 l0_0 x29_2).f0) (((rd_T65 l0_0 x29_2).f0).length : Int) (wrap64 (x36_3 + 1)) l0_0 a0_1 a0_2) else (some (false, true))) = some (r1, r2) := H
  have A72 := Aside0.mk A720
  clear A720
  by_cases c73 : t279 = 2
  rotate_left
  ·rw [if_neg c73] at H
   have c73b0 : (t279 == 2) = false := beq_eq_false_iff_ne.mpr c73
   have c73b1 : (t279 != 2) = true := bne_iff_ne.mpr c73
   simp only [Option.some.injEq, Prod.mk.injEq] at H
   obtain ⟨rfl, rfl⟩ := H
   have p275 : 0 ≤ (x36_3 : Int) := of_decide_eq_true (by first | (with_reducible assumption) | assumption)
   have q275 : x36_3 < (((rd_T65 l0_0 x29_2).f0).length : Int) := of_decide_eq_true (by first | (with_reducible assumption) | assumption)
   obtain ⟨ad275, e275, hx275_0, hx275_1⟩ := at_T67 HR273_0.out x36_3 p275 q275
   (try rw [← Nbq24.out] at hx275_0)
   cases e275
   replace hx275_0 := (HB.out.cell (World.block_lt_of_cell? w _ hx275_0)).trans hx275_0
   replace hx275_1 := (HB.out.cell (World.block_lt_of_cell? w _ hx275_1)).trans hx275_1
   replace p275 := eq_true p275
   replace q275 := eq_true q275
   go_wp2_with (first | ((with_reducible refine gate_dst (N := 7) rfl ?_); refine box_event ?hg (N := 7) ?hd (cs := #[.bool false, .int .i64 0]) (t := 67) ?hr ?_; (case hd => rfl); (case hg => rfl); (case hr => first | (go_simp; done) | (go_simp; rfl)); intro gb276 hg w81 hbox hb; have n0_ := Aside0.mk (blk_below (g := gb271) (o := .cells #[.slice (some ad273) l0_0.length c0_0, .int .i64 a0_1, .int .i64 a0_2] 29 (0, 0)) (by (with_reducible repeat (first | refine blk_drewN ?_ _ | refine blk_drew ?_ | refine blk_alloc ?_ _)); exact BK271.out) hb); have n1_ := Aside0.mk (blk_below (g := gb274) (o := .cells #[.slice (some ad275) ((rd_T65 l0_0 x29_2).f0).length c273_0] 65 (0, 0)) (by (with_reducible repeat (first | refine blk_drewN ?_ _ | refine blk_drew ?_ | refine blk_alloc ?_ _)); exact BK274.out) hb); have n2_ := Aside0.mk (below_step (by repeat (first | (with_reducible first | exact HB.out | apply below_alloc | apply pw_below_drewN | apply below_drew1 | refine below_set ?_ GE271.out | refine below_set ?_ GE274.out) | exact HB.out)) hb); have n3_ := Aside0.mk (hbox); have n4_ := Aside0.mk ((by rw [hg]; exact (below_size (by repeat (first | (with_reducible first | exact HB.out | apply below_alloc | apply pw_below_drewN | apply below_drew1 | refine below_set ?_ GE271.out | refine below_set ?_ GE274.out) | exact HB.out))) : w.heap.size ≤ gb276)); have n5_ := Aside0.mk ((by rw [hg]; exact (below_size (by repeat (first | (with_reducible first | exact HB.out | apply below_alloc | apply pw_below_drewN | apply below_drew1 | refine below_set ?_ GE271.out | refine below_set ?_ GE274.out) | exact HB.out))) : w.heap.size ≤ gb276)); have n6_ := Aside0.mk ((by rw [hg]; exact Nat.ne_of_lt (blk_lt (g := gb271) (o := .cells #[.slice (some ad273) l0_0.length c0_0, .int .i64 a0_1, .int .i64 a0_2] 29 (0, 0)) (by (with_reducible repeat (first | refine blk_drewN ?_ _ | refine blk_drew ?_ | refine blk_alloc ?_ _)); exact BK271.out)) : gb271 ≠ gb276)); have n7_ := Aside0.mk ((by rw [hg]; exact Nat.ne_of_gt (blk_lt (g := gb271) (o := .cells #[.slice (some ad273) l0_0.length c0_0, .int .i64 a0_1, .int .i64 a0_2] 29 (0, 0)) (by (with_reducible repeat (first | refine blk_drewN ?_ _ | refine blk_drew ?_ | refine blk_alloc ?_ _)); exact BK271.out)) : gb276 ≠ gb271)); have n8_ := Aside0.mk ((by rw [hg]; exact Nat.ne_of_lt (blk_lt (g := gb274) (o := .cells #[.slice (some ad275) ((rd_T65 l0_0 x29_2).f0).length c273_0] 65 (0, 0)) (by (with_reducible repeat (first | refine blk_drewN ?_ _ | refine blk_drew ?_ | refine blk_alloc ?_ _)); exact BK274.out)) : gb274 ≠ gb276)); have n9_ := Aside0.mk ((by rw [hg]; exact Nat.ne_of_gt (blk_lt (g := gb274) (o := .cells #[.slice (some ad275) ((rd_T65 l0_0 x29_2).f0).length c273_0] 65 (0, 0)) (by (with_reducible repeat (first | refine blk_drewN ?_ _ | refine blk_drew ?_ | refine blk_alloc ?_ _)); exact BK274.out)) : gb276 ≠ gb274)); clear BK271; clear BK274; clear HB; have BK271 := n0_; have BK274 := n1_; have HB := n2_; have BK276 := n3_; have GW276 := n4_; have GE276 := n5_; have NB271_276 := n6_; have NB276_271 := n7_; have NB274_276 := n8_; have NB276_274 := n9_; clear n0_ n1_ n2_ n3_ n4_ n5_ n6_ n7_ n8_ n9_; clear hb hbox hg; have hnb82 := NB276_271.out; have hnc82 := NB271_276.out; have hnb83 := NB276_274.out; have hnc83 := NB274_276.out; have hcz84_0 : w81.cell? ⟨gb276, 0, none⟩ = some (.bool false) := (blk_cell BK276.out 0).trans rfl; have hcz84_1 : w81.cell? ⟨gb276, 1, none⟩ = some (.int .i64 0) := (blk_cell BK276.out 1).trans rfl; have hfz84_0 := blk_frozen BK276.out 0; have hfz84_1 := blk_frozen BK276.out 1; have hnb85 := NB271_274.out; have hnc85 := NB274_271.out; have hcz86_0 : w81.cell? ⟨gb271, 0, none⟩ = some (.slice (some ad273) l0_0.length c0_0) := (blk_cell BK271.out 0).trans rfl; have hcz86_1 : w81.cell? ⟨gb271, 1, none⟩ = some (.int .i64 a0_1) := (blk_cell BK271.out 1).trans rfl; have hcz86_2 : w81.cell? ⟨gb271, 2, none⟩ = some (.int .i64 a0_2) := (blk_cell BK271.out 2).trans rfl; have hfz86_0 := blk_frozen BK271.out 0; have hfz86_1 := blk_frozen BK271.out 1; have hfz86_2 := blk_frozen BK271.out 2) | (go_at_call 49; (with_reducible refine (impl_Commit_decision.calls _ _ l0_0 a0_1 a0_2 t279 _ ?side1 ?side2 A72.out).mono ?_); (case side1 => exact Kd.C_below HR0_0.out (by repeat (first | (with_reducible first | exact HB.out | apply below_alloc | apply pw_below_drewN | apply below_drew1 | refine below_set ?_ GE271.out | refine below_set ?_ GE274.out | refine below_set ?_ GE276.out) | exact HB.out))); (case side2 => exact HC0_0.out); rintro e w87 ⟨rfl, hb⟩; have n0_ := Aside0.mk (blk_below (g := gb271) (o := .cells #[.slice (some ad273) l0_0.length c0_0, .int .i64 a0_1, .int .i64 a0_2] 29 (0, 0)) (by (with_reducible repeat (first | refine blk_drewN ?_ _ | refine blk_drew ?_ | refine blk_alloc ?_ _)); refine blk_far ?_ NB271_276.out _; (with_reducible repeat (first | refine blk_drewN ?_ _ | refine blk_drew ?_ | refine blk_alloc ?_ _)); refine blk_far ?_ NB271_276.out _; (with_reducible repeat (first | refine blk_drewN ?_ _ | refine blk_drew ?_ | refine blk_alloc ?_ _)); exact BK271.out) hb); have n1_ := Aside0.mk (blk_below (g := gb274) (o := .cells #[.slice (some ad275) ((rd_T65 l0_0 x29_2).f0).length c273_0] 65 (0, 0)) (by (with_reducible repeat (first | refine blk_drewN ?_ _ | refine blk_drew ?_ | refine blk_alloc ?_ _)); refine blk_far ?_ NB274_276.out _; (with_reducible repeat (first | refine blk_drewN ?_ _ | refine blk_drew ?_ | refine blk_alloc ?_ _)); refine blk_far ?_ NB274_276.out _; (with_reducible repeat (first | refine blk_drewN ?_ _ | refine blk_drew ?_ | refine blk_alloc ?_ _)); exact BK274.out) hb); have n2_ := Aside0.mk (blk_below (g := gb276) (o := .cells #[.bool false, .int .i64 ((rd_T67 ((rd_T65 l0_0 x29_2).f0) x36_3).f1)] 67 (0, 0)) (by (with_reducible repeat (first | refine blk_drewN ?_ _ | refine blk_drew ?_ | refine blk_alloc ?_ _)); refine blk_put (cs := #[.bool false, .int .i64 0]) ?_ 1 _ rfl; (with_reducible repeat (first | refine blk_drewN ?_ _ | refine blk_drew ?_ | refine blk_alloc ?_ _)); refine blk_put (cs := #[.bool false, .int .i64 0]) ?_ 0 _ rfl; (with_reducible repeat (first | refine blk_drewN ?_ _ | refine blk_drew ?_ | refine blk_alloc ?_ _)); exact BK276.out) hb); have n3_ := Aside0.mk (below_step (by repeat (first | (with_reducible first | exact HB.out | apply below_alloc | apply pw_below_drewN | apply below_drew1 | refine below_set ?_ GE271.out | refine below_set ?_ GE274.out | refine below_set ?_ GE276.out) | exact HB.out)) hb); clear BK271; clear BK274; clear BK276; clear HB; have BK271 := n0_; have BK274 := n1_; have BK276 := n2_; have HB := n3_; clear n0_ n1_ n2_ n3_; (try clear hb); (try clear hb2); (try clear hk); (try clear hi)))
   go_ret2
   exact ⟨by first | rfl | (simp [errW_none, errW_some] <;> rfl) | (simp [*, errW_none, errW_some] <;> rfl), by repeat (first | (with_reducible first | exact HB.out | apply below_alloc | apply pw_below_drewN | apply below_drew1 | refine below_set ?_ GE271.out | refine below_set ?_ GE274.out | refine below_set ?_ GE276.out) | exact HB.out)⟩
  rw [if_pos c73] at H
  have c73b0 : (t279 == 2) = true := beq_iff_eq.mpr c73
  have c73b1 : (t279 != 2) = false := bne_eq_false_iff_eq.mpr c73
  clear c73
  have H' := Aside0.mk H
  clear H
  have p275 : 0 ≤ (x36_3 : Int) := of_decide_eq_true (by first | (with_reducible assumption) | assumption)
  have q275 : x36_3 < (((rd_T65 l0_0 x29_2).f0).length : Int) := of_decide_eq_true (by first | (with_reducible assumption) | assumption)
  obtain ⟨ad275, e275, hx275_0, hx275_1⟩ := at_T67 HR273_0.out x36_3 p275 q275
  (try rw [← Nbq24.out] at hx275_0)
  cases e275
  replace hx275_0 := (HB.out.cell (World.block_lt_of_cell? w _ hx275_0)).trans hx275_0
  replace hx275_1 := (HB.out.cell (World.block_lt_of_cell? w _ hx275_1)).trans hx275_1
  replace p275 := eq_true p275
  replace q275 := eq_true q275
  go_wp2_with (first | ((with_reducible refine gate_dst (N := 7) rfl ?_); refine box_event ?hg (N := 7) ?hd (cs := #[.bool false, .int .i64 0]) (t := 67) ?hr ?_; (case hd => rfl); (case hg => rfl); (case hr => first | (go_simp; done) | (go_simp; rfl)); intro gb276 hg w74 hbox hb; have n0_ := Aside0.mk (blk_below (g := gb271) (o := .cells #[.slice (some ad273) l0_0.length c0_0, .int .i64 a0_1, .int .i64 a0_2] 29 (0, 0)) (by (with_reducible repeat (first | refine blk_drewN ?_ _ | refine blk_drew ?_ | refine blk_alloc ?_ _)); exact BK271.out) hb); have n1_ := Aside0.mk (blk_below (g := gb274) (o := .cells #[.slice (some ad275) ((rd_T65 l0_0 x29_2).f0).length c273_0] 65 (0, 0)) (by (with_reducible repeat (first | refine blk_drewN ?_ _ | refine blk_drew ?_ | refine blk_alloc ?_ _)); exact BK274.out) hb); have n2_ := Aside0.mk (below_step (by repeat (first | (with_reducible first | exact HB.out | apply below_alloc | apply pw_below_drewN | apply below_drew1 | refine below_set ?_ GE271.out | refine below_set ?_ GE274.out) | exact HB.out)) hb); have n3_ := Aside0.mk (hbox); have n4_ := Aside0.mk ((by rw [hg]; exact (below_size (by repeat (first | (with_reducible first | exact HB.out | apply below_alloc | apply pw_below_drewN | apply below_drew1 | refine below_set ?_ GE271.out | refine below_set ?_ GE274.out) | exact HB.out))) : w.heap.size ≤ gb276)); have n5_ := Aside0.mk ((by rw [hg]; exact (below_size (by repeat (first | (with_reducible first | exact HB.out | apply below_alloc | apply pw_below_drewN | apply below_drew1 | refine below_set ?_ GE271.out | refine below_set ?_ GE274.out) | exact HB.out))) : w.heap.size ≤ gb276)); have n6_ := Aside0.mk ((by rw [hg]; exact Nat.ne_of_lt (blk_lt (g := gb271) (o := .cells #[.slice (some ad273) l0_0.length c0_0, .int .i64 a0_1, .int .i64 a0_2] 29 (0, 0)) (by (with_reducible repeat (first | refine blk_drewN ?_ _ | refine blk_drew ?_ | refine blk_alloc ?_ _)); exact BK271.out)) : gb271 ≠ gb276)); have n7_ := Aside0.mk ((by rw [hg]; exact Nat.ne_of_gt (blk_lt (g := gb271) (o := .cells #[.slice (some ad273) l0_0.length c0_0, .int .i64 a0_1, .int .i64 a0_2] 29 (0, 0)) (by (with_reducible repeat (first | refine blk_drewN ?_ _ | refine blk_drew ?_ | refine blk_alloc ?_ _)); exact BK271.out)) : gb276 ≠ gb271)); have n8_ := Aside0.mk ((by rw [hg]; exact Nat.ne_of_lt (blk_lt (g := gb274) (o := .cells #[.slice (some ad275) ((rd_T65 l0_0 x29_2).f0).length c273_0] 65 (0, 0)) (by (with_reducible repeat (first | refine blk_drewN ?_ _ | refine blk_drew ?_ | refine blk_alloc ?_ _)); exact BK274.out)) : gb274 ≠ gb276)); have n9_ := Aside0.mk ((by rw [hg]; exact Nat.ne_of_gt (blk_lt (g := gb274) (o := .cells #[.slice (some ad275) ((rd_T65 l0_0 x29_2).f0).length c273_0] 65 (0, 0)) (by (with_reducible repeat (first | refine blk_drewN ?_ _ | refine blk_drew ?_ | refine blk_alloc ?_ _)); exact BK274.out)) : gb276 ≠ gb274)); clear BK271; clear BK274; clear HB; have BK271 := n0_; have BK274 := n1_; have HB := n2_; have BK276 := n3_; have GW276 := n4_; have GE276 := n5_; have NB271_276 := n6_; have NB276_271 := n7_; have NB274_276 := n8_; have NB276_274 := n9_; clear n0_ n1_ n2_ n3_ n4_ n5_ n6_ n7_ n8_ n9_; clear hb hbox hg; have hnb75 := NB276_271.out; have hnc75 := NB271_276.out; have hnb76 := NB276_274.out; have hnc76 := NB274_276.out; have hcz77_0 : w74.cell? ⟨gb276, 0, none⟩ = some (.bool false) := (blk_cell BK276.out 0).trans rfl; have hcz77_1 : w74.cell? ⟨gb276, 1, none⟩ = some (.int .i64 0) := (blk_cell BK276.out 1).trans rfl; have hfz77_0 := blk_frozen BK276.out 0; have hfz77_1 := blk_frozen BK276.out 1; have hnb78 := NB271_274.out; have hnc78 := NB274_271.out; have hcz79_0 : w74.cell? ⟨gb271, 0, none⟩ = some (.slice (some ad273) l0_0.length c0_0) := (blk_cell BK271.out 0).trans rfl; have hcz79_1 : w74.cell? ⟨gb271, 1, none⟩ = some (.int .i64 a0_1) := (blk_cell BK271.out 1).trans rfl; have hcz79_2 : w74.cell? ⟨gb271, 2, none⟩ = some (.int .i64 a0_2) := (blk_cell BK271.out 2).trans rfl; have hfz79_0 := blk_frozen BK271.out 0; have hfz79_1 := blk_frozen BK271.out 1; have hfz79_2 := blk_frozen BK271.out 2) | (go_at_call 49; (with_reducible refine (impl_Commit_decision.calls _ _ l0_0 a0_1 a0_2 t279 _ ?side1 ?side2 A72.out).mono ?_); (case side1 => exact Kd.C_below HR0_0.out (by repeat (first | (with_reducible first | exact HB.out | apply below_alloc | apply pw_below_drewN | apply below_drew1 | refine below_set ?_ GE271.out | refine below_set ?_ GE274.out | refine below_set ?_ GE276.out) | exact HB.out))); (case side2 => exact HC0_0.out); rintro e w80 ⟨rfl, hb⟩; have n0_ := Aside0.mk (blk_below (g := gb271) (o := .cells #[.slice (some ad273) l0_0.length c0_0, .int .i64 a0_1, .int .i64 a0_2] 29 (0, 0)) (by (with_reducible repeat (first | refine blk_drewN ?_ _ | refine blk_drew ?_ | refine blk_alloc ?_ _)); refine blk_far ?_ NB271_276.out _; (with_reducible repeat (first | refine blk_drewN ?_ _ | refine blk_drew ?_ | refine blk_alloc ?_ _)); refine blk_far ?_ NB271_276.out _; (with_reducible repeat (first | refine blk_drewN ?_ _ | refine blk_drew ?_ | refine blk_alloc ?_ _)); exact BK271.out) hb); have n1_ := Aside0.mk (blk_below (g := gb274) (o := .cells #[.slice (some ad275) ((rd_T65 l0_0 x29_2).f0).length c273_0] 65 (0, 0)) (by (with_reducible repeat (first | refine blk_drewN ?_ _ | refine blk_drew ?_ | refine blk_alloc ?_ _)); refine blk_far ?_ NB274_276.out _; (with_reducible repeat (first | refine blk_drewN ?_ _ | refine blk_drew ?_ | refine blk_alloc ?_ _)); refine blk_far ?_ NB274_276.out _; (with_reducible repeat (first | refine blk_drewN ?_ _ | refine blk_drew ?_ | refine blk_alloc ?_ _)); exact BK274.out) hb); have n2_ := Aside0.mk (blk_below (g := gb276) (o := .cells #[.bool false, .int .i64 ((rd_T67 ((rd_T65 l0_0 x29_2).f0) x36_3).f1)] 67 (0, 0)) (by (with_reducible repeat (first | refine blk_drewN ?_ _ | refine blk_drew ?_ | refine blk_alloc ?_ _)); refine blk_put (cs := #[.bool false, .int .i64 0]) ?_ 1 _ rfl; (with_reducible repeat (first | refine blk_drewN ?_ _ | refine blk_drew ?_ | refine blk_alloc ?_ _)); refine blk_put (cs := #[.bool false, .int .i64 0]) ?_ 0 _ rfl; (with_reducible repeat (first | refine blk_drewN ?_ _ | refine blk_drew ?_ | refine blk_alloc ?_ _)); exact BK276.out) hb); have n3_ := Aside0.mk (below_step (by repeat (first | (with_reducible first | exact HB.out | apply below_alloc | apply pw_below_drewN | apply below_drew1 | refine below_set ?_ GE271.out | refine below_set ?_ GE274.out | refine below_set ?_ GE276.out) | exact HB.out)) hb); clear BK271; clear BK274; clear BK276; clear HB; have BK271 := n0_; have BK274 := n1_; have BK276 := n2_; have HB := n3_; clear n0_ n1_ n2_ n3_; (try clear hb); (try clear hb2); (try clear hk); (try clear hi)))
  go_roundg k3
  case measure => have := HJ3.out; have := HK2.out; have := HK3.out; omega
  case rel => exact ⟨(wrap64 (x36_3 + 1)), (by first | rfl | (simp; done) | (simp [*]; done)), H', ⟨by have := HJ3.out; have := HK2.out; have := HK3.out; omega⟩, ⟨by (with_reducible repeat (first | refine blk_drewN ?_ _ | refine blk_drew ?_ | refine blk_alloc ?_ _)); exact BK271.out⟩, ⟨by (with_reducible repeat (first | refine blk_drewN ?_ _ | refine blk_drew ?_ | refine blk_alloc ?_ _)); exact BK274.out⟩, ⟨by repeat (first | (with_reducible first | exact HB.out | apply below_alloc | apply pw_below_drewN | apply below_drew1 | refine below_set ?_ GE271.out | refine below_set ?_ GE274.out | refine below_set ?_ GE276.out) | exact HB.out)⟩⟩
 rw [if_pos c30] at H
 have c30b0 : (((rd_T67 ((rd_T65 l0_0 x29_2).f0) x36_3).f1) == 3) = true := beq_iff_eq.mpr c30
 have c30b1 : (((rd_T67 ((rd_T65 l0_0 x29_2).f0) x36_3).f1) != 3) = false := bne_eq_false_iff_eq.mpr c30
 clear c30
 replace H := Option.bind_eq_some_iff.mp H
 obtain ⟨t277, A310, H⟩ := H
 replace H : (if t277 = 1 then (if ((rd_T67 ((rd_T65 l0_0 x29_2).f0) x36_3).f1) = 4 then ((impl_Commit_decision.f l0_0 a0_1 a0_2).bind fun t278 => (if t278 = 2 then (impl_AgreesIn.l1 k3 l0_0 (l0_0.length : Int) x29_2 ((rd_T65 l0_0 x29_2).f0) (((rd_T65 l0_0 x29_2).f0).length : Int) (wrap64 (x36_3 + 1)) l0_0 a0_1 a0_2) else (some (false, true)))) else (impl_AgreesIn.l1 k3 l0_0 (l0_0.length : Int) x29_2 ((rd_T65 l0_0 x29_2).f0) (((rd_T65 l0_0 x29_2).f0).length : Int) (wrap64 (x36_3 + 1)) l0_0 a0_1 a0_2)) else (some (false, true))) = some (r1, r2) := H
 have A31 := Aside0.mk A310
 clear A310
 by_cases c32 : t277 = 1
 rotate_left
 ·rw [if_neg c32] at H
  have c32b0 : (t277 == 1) = false := beq_eq_false_iff_ne.mpr c32
  have c32b1 : (t277 != 1) = true := bne_iff_ne.mpr c32
  simp only [Option.some.injEq, Prod.mk.injEq] at H
  obtain ⟨rfl, rfl⟩ := H
  have p275 : 0 ≤ (x36_3 : Int) := of_decide_eq_true (by first | (with_reducible assumption) | assumption)
  have q275 : x36_3 < (((rd_T65 l0_0 x29_2).f0).length : Int) := of_decide_eq_true (by first | (with_reducible assumption) | assumption)
  obtain ⟨ad275, e275, hx275_0, hx275_1⟩ := at_T67 HR273_0.out x36_3 p275 q275
  (try rw [← Nbq24.out] at hx275_0)
  cases e275
  replace hx275_0 := (HB.out.cell (World.block_lt_of_cell? w _ hx275_0)).trans hx275_0
  replace hx275_1 := (HB.out.cell (World.block_lt_of_cell? w _ hx275_1)).trans hx275_1
  replace p275 := eq_true p275
  replace q275 := eq_true q275
  go_wp2_with (first | ((with_reducible refine gate_dst (N := 7) rfl ?_); refine box_event ?hg (N := 7) ?hd (cs := #[.bool false, .int .i64 0]) (t := 67) ?hr ?_; (case hd => rfl); (case hg => rfl); (case hr => first | (go_simp; done) | (go_simp; rfl)); intro gb276 hg w64 hbox hb; have n0_ := Aside0.mk (blk_below (g := gb271) (o := .cells #[.slice (some ad273) l0_0.length c0_0, .int .i64 a0_1, .int .i64 a0_2] 29 (0, 0)) (by (with_reducible repeat (first | refine blk_drewN ?_ _ | refine blk_drew ?_ | refine blk_alloc ?_ _)); exact BK271.out) hb); have n1_ := Aside0.mk (blk_below (g := gb274) (o := .cells #[.slice (some ad275) ((rd_T65 l0_0 x29_2).f0).length c273_0] 65 (0, 0)) (by (with_reducible repeat (first | refine blk_drewN ?_ _ | refine blk_drew ?_ | refine blk_alloc ?_ _)); exact BK274.out) hb); have n2_ := Aside0.mk (below_step (by repeat (first | (with_reducible first | exact HB.out | apply below_alloc | apply pw_below_drewN | apply below_drew1 | refine below_set ?_ GE271.out | refine below_set ?_ GE274.out) | exact HB.out)) hb); have n3_ := Aside0.mk (hbox); have n4_ := Aside0.mk ((by rw [hg]; exact (below_size (by repeat (first | (with_reducible first | exact HB.out | apply below_alloc | apply pw_below_drewN | apply below_drew1 | refine below_set ?_ GE271.out | refine below_set ?_ GE274.out) | exact HB.out))) : w.heap.size ≤ gb276)); have n5_ := Aside0.mk ((by rw [hg]; exact (below_size (by repeat (first | (with_reducible first | exact HB.out | apply below_alloc | apply pw_below_drewN | apply below_drew1 | refine below_set ?_ GE271.out | refine below_set ?_ GE274.out) | exact HB.out))) : w.heap.size ≤ gb276)); have n6_ := Aside0.mk ((by rw [hg]; exact Nat.ne_of_lt (blk_lt (g := gb271) (o := .cells #[.slice (some ad273) l0_0.length c0_0, .int .i64 a0_1, .int .i64 a0_2] 29 (0, 0)) (by (with_reducible repeat (first | refine blk_drewN ?_ _ | refine blk_drew ?_ | refine blk_alloc ?_ _)); exact BK271.out)) : gb271 ≠ gb276)); have n7_ := Aside0.mk ((by rw [hg]; exact Nat.ne_of_gt (blk_lt (g := gb271) (o := .cells #[.slice (some ad273) l0_0.length c0_0, .int .i64 a0_1, .int .i64 a0_2] 29 (0, 0)) (by (with_reducible repeat (first | refine blk_drewN ?_ _ | refine blk_drew ?_ | refine blk_alloc ?_ _)); exact BK271.out)) : gb276 ≠ gb271)); have n8_ := Aside0.mk ((by rw [hg]; exact Nat.ne_of_lt (blk_lt (g := gb274) (o := .cells #[.slice (some ad275) ((rd_T65 l0_0 x29_2).f0).length c273_0] 65 (0, 0)) (by (with_reducible repeat (first | refine blk_drewN ?_ _ | refine blk_drew ?_ | refine blk_alloc ?_ _)); exact BK274.out)) : gb274 ≠ gb276)); have n9_ := Aside0.mk ((by rw [hg]; exact Nat.ne_of_gt (blk_lt (g := gb274) (o := .cells #[.slice (some ad275) ((rd_T65 l0_0 x29_2).f0).length c273_0] 65 (0, 0)) (by (with_reducible repeat (first | refine blk_drewN ?_ _ | refine blk_drew ?_ | refine blk_alloc ?_ _)); exact BK274.out)) : gb276 ≠ gb274)); clear BK271; clear BK274; clear HB; have BK271 := n0_; have BK274 := n1_; have HB := n2_; have BK276 := n3_; have GW276 := n4_; have GE276 := n5_; have NB271_276 := n6_; have NB276_271 := n7_; have NB274_276 := n8_; have NB276_274 := n9_; clear n0_ n1_ n2_ n3_ n4_ n5_ n6_ n7_ n8_ n9_; clear hb hbox hg; have hnb65 := NB276_271.out; have hnc65 := NB271_276.out; have hnb66 := NB276_274.out; have hnc66 := NB274_276.out; have hcz67_0 : w64.cell? ⟨gb276, 0, none⟩ = some (.bool false) := (blk_cell BK276.out 0).trans rfl; have hcz67_1 : w64.cell? ⟨gb276, 1, none⟩ = some (.int .i64 0) := (blk_cell BK276.out 1).trans rfl; have hfz67_0 := blk_frozen BK276.out 0; have hfz67_1 := blk_frozen BK276.out 1; have hnb68 := NB271_274.out; have hnc68 := NB274_271.out; have hcz69_0 : w64.cell? ⟨gb271, 0, none⟩ = some (.slice (some ad273) l0_0.length c0_0) := (blk_cell BK271.out 0).trans rfl; have hcz69_1 : w64.cell? ⟨gb271, 1, none⟩ = some (.int .i64 a0_1) := (blk_cell BK271.out 1).trans rfl; have hcz69_2 : w64.cell? ⟨gb271, 2, none⟩ = some (.int .i64 a0_2) := (blk_cell BK271.out 2).trans rfl; have hfz69_0 := blk_frozen BK271.out 0; have hfz69_1 := blk_frozen BK271.out 1; have hfz69_2 := blk_frozen BK271.out 2) | (go_at_call 49; (with_reducible refine (impl_Commit_decision.calls _ _ l0_0 a0_1 a0_2 t277 _ ?side1 ?side2 A31.out).mono ?_); (case side1 => exact Kd.C_below HR0_0.out (by repeat (first | (with_reducible first | exact HB.out | apply below_alloc | apply pw_below_drewN | apply below_drew1 | refine below_set ?_ GE271.out | refine below_set ?_ GE274.out | refine below_set ?_ GE276.out) | exact HB.out))); (case side2 => exact HC0_0.out); rintro e w70 ⟨rfl, hb⟩; have n0_ := Aside0.mk (blk_below (g := gb271) (o := .cells #[.slice (some ad273) l0_0.length c0_0, .int .i64 a0_1, .int .i64 a0_2] 29 (0, 0)) (by (with_reducible repeat (first | refine blk_drewN ?_ _ | refine blk_drew ?_ | refine blk_alloc ?_ _)); refine blk_far ?_ NB271_276.out _; (with_reducible repeat (first | refine blk_drewN ?_ _ | refine blk_drew ?_ | refine blk_alloc ?_ _)); refine blk_far ?_ NB271_276.out _; (with_reducible repeat (first | refine blk_drewN ?_ _ | refine blk_drew ?_ | refine blk_alloc ?_ _)); exact BK271.out) hb); have n1_ := Aside0.mk (blk_below (g := gb274) (o := .cells #[.slice (some ad275) ((rd_T65 l0_0 x29_2).f0).length c273_0] 65 (0, 0)) (by (with_reducible repeat (first | refine blk_drewN ?_ _ | refine blk_drew ?_ | refine blk_alloc ?_ _)); refine blk_far ?_ NB274_276.out _; (with_reducible repeat (first | refine blk_drewN ?_ _ | refine blk_drew ?_ | refine blk_alloc ?_ _)); refine blk_far ?_ NB274_276.out _; (with_reducible repeat (first | refine blk_drewN ?_ _ | refine blk_drew ?_ | refine blk_alloc ?_ _)); exact BK274.out) hb); have n2_ := Aside0.mk (blk_below (g := gb276) (o := .cells #[.bool false, .int .i64 ((rd_T67 ((rd_T65 l0_0 x29_2).f0) x36_3).f1)] 67 (0, 0)) (by (with_reducible repeat (first | refine blk_drewN ?_ _ | refine blk_drew ?_ | refine blk_alloc ?_ _)); refine blk_put (cs := #[.bool false, .int .i64 0]) ?_ 1 _ rfl; (with_reducible repeat (first | refine blk_drewN ?_ _ | refine blk_drew ?_ | refine blk_alloc ?_ _)); refine blk_put (cs := #[.bool false, .int .i64 0]) ?_ 0 _ rfl; (with_reducible repeat (first | refine blk_drewN ?_ _ | refine blk_drew ?_ | refine blk_alloc ?_ _)); exact BK276.out) hb); have n3_ := Aside0.mk (below_step (by repeat (first | (with_reducible first | exact HB.out | apply below_alloc | apply pw_below_drewN | apply below_drew1 | refine below_set ?_ GE271.out | refine below_set ?_ GE274.out | refine below_set ?_ GE276.out) | exact HB.out)) hb); clear BK271; clear BK274; clear BK276; clear HB; have BK271 := n0_; have BK274 := n1_; have BK276 := n2_; have HB := n3_; clear n0_ n1_ n2_ n3_; (try clear hb); (try clear hb2); (try clear hk); (try clear hi)))
  go_ret2
  exact ⟨by first | rfl | (simp [errW_none, errW_some] <;> rfl) | (simp [*, errW_none, errW_some] <;> rfl), by repeat (first | (with_reducible first | exact HB.out | apply below_alloc | apply pw_below_drewN | apply below_drew1 | refine below_set ?_ GE271.out | refine below_set ?_ GE274.out | refine below_set ?_ GE276.out) | exact HB.out)⟩
 rw [if_pos c32] at H
 have c32b0 : (t277 == 1) = true := beq_iff_eq.mpr c32
 have c32b1 : (t277 != 1) = false := bne_eq_false_iff_eq.mpr c32
 clear c32
 by_cases c33 : ((rd_T67 ((rd_T65 l0_0 x29_2).f0) x36_3).f1) = 4
 rotate_left
 ·rw [if_neg c33] at H
  have c33b0 : (((rd_T67 ((rd_T65 l0_0 x29_2).f0) x36_3).f1) == 4) = false := beq_eq_false_iff_ne.mpr c33
  have c33b1 : (((rd_T67 ((rd_T65 l0_0 x29_2).f0) x36_3).f1) != 4) = true := bne_iff_ne.mpr c33
  have H' := Aside0.mk H
  clear H
  have p275 : 0 ≤ (x36_3 : Int) := of_decide_eq_true (by first | (with_reducible assumption) | assumption)
  have q275 : x36_3 < (((rd_T65 l0_0 x29_2).f0).length : Int) := of_decide_eq_true (by first | (with_reducible assumption) | assumption)
  obtain ⟨ad275, e275, hx275_0, hx275_1⟩ := at_T67 HR273_0.out x36_3 p275 q275
  (try rw [← Nbq24.out] at hx275_0)
  cases e275
  replace hx275_0 := (HB.out.cell (World.block_lt_of_cell? w _ hx275_0)).trans hx275_0
  replace hx275_1 := (HB.out.cell (World.block_lt_of_cell? w _ hx275_1)).trans hx275_1
  replace p275 := eq_true p275
  replace q275 := eq_true q275
  go_wp2_with (first | ((with_reducible refine gate_dst (N := 7) rfl ?_); refine box_event ?hg (N := 7) ?hd (cs := #[.bool false, .int .i64 0]) (t := 67) ?hr ?_; (case hd => rfl); (case hg => rfl); (case hr => first | (go_simp; done) | (go_simp; rfl)); intro gb276 hg w56 hbox hb; have n0_ := Aside0.mk (blk_below (g := gb271) (o := .cells #[.slice (some ad273) l0_0.length c0_0, .int .i64 a0_1, .int .i64 a0_2] 29 (0, 0)) (by (with_reducible repeat (first | refine blk_drewN ?_ _ | refine blk_drew ?_ | refine blk_alloc ?_ _)); exact BK271.out) hb); have n1_ := Aside0.mk (blk_below (g := gb274) (o := .cells #[.slice (some ad275) ((rd_T65 l0_0 x29_2).f0).length c273_0] 65 (0, 0)) (by (with_reducible repeat (first | refine blk_drewN ?_ _ | refine blk_drew ?_ | refine blk_alloc ?_ _)); exact BK274.out) hb); have n2_ := Aside0.mk (below_step (by repeat (first | (with_reducible first | exact HB.out | apply below_alloc | apply pw_below_drewN | apply below_drew1 | refine below_set ?_ GE271.out | refine below_set ?_ GE274.out) | exact HB.out)) hb); have n3_ := Aside0.mk (hbox); have n4_ := Aside0.mk ((by rw [hg]; exact (below_size (by repeat (first | (with_reducible first | exact HB.out | apply below_alloc | apply pw_below_drewN | apply below_drew1 | refine below_set ?_ GE271.out | refine below_set ?_ GE274.out) | exact HB.out))) : w.heap.size ≤ gb276)); have n5_ := Aside0.mk ((by rw [hg]; exact (below_size (by repeat (first | (with_reducible first | exact HB.out | apply below_alloc | apply pw_below_drewN | apply below_drew1 | refine below_set ?_ GE271.out | refine below_set ?_ GE274.out) | exact HB.out))) : w.heap.size ≤ gb276)); have n6_ := Aside0.mk ((by rw [hg]; exact Nat.ne_of_lt (blk_lt (g := gb271) (o := .cells #[.slice (some ad273) l0_0.length c0_0, .int .i64 a0_1, .int .i64 a0_2] 29 (0, 0)) (by (with_reducible repeat (first | refine blk_drewN ?_ _ | refine blk_drew ?_ | refine blk_alloc ?_ _)); exact BK271.out)) : gb271 ≠ gb276)); have n7_ := Aside0.mk ((by rw [hg]; exact Nat.ne_of_gt (blk_lt (g := gb271) (o := .cells #[.slice (some ad273) l0_0.length c0_0, .int .i64 a0_1, .int .i64 a0_2] 29 (0, 0)) (by (with_reducible repeat (first | refine blk_drewN ?_ _ | refine blk_drew ?_ | refine blk_alloc ?_ _)); exact BK271.out)) : gb276 ≠ gb271)); have n8_ := Aside0.mk ((by rw [hg]; exact Nat.ne_of_lt (blk_lt (g := gb274) (o := .cells #[.slice (some ad275) ((rd_T65 l0_0 x29_2).f0).length c273_0] 65 (0, 0)) (by (with_reducible repeat (first | refine blk_drewN ?_ _ | refine blk_drew ?_ | refine blk_alloc ?_ _)); exact BK274.out)) : gb274 ≠ gb276)); have n9_ := Aside0.mk ((by rw [hg]; exact Nat.ne_of_gt (blk_lt (g := gb274) (o := .cells #[.slice (some ad275) ((rd_T65 l0_0 x29_2).f0).length c273_0] 65 (0, 0)) (by (with_reducible repeat (first | refine blk_drewN ?_ _ | refine blk_drew ?_ | refine blk_alloc ?_ _)); exact BK274.out)) : gb276 ≠ gb274)); clear BK271; clear BK274; clear HB; have BK271 := n0_; have BK274 := n1_; have HB := n2_; have BK276 := n3_; have GW276 := n4_; have GE276 := n5_; have NB271_276 := n6_; have NB276_271 := n7_; have NB274_276 := n8_; have NB276_274 := n9_; clear n0_ n1_ n2_ n3_ n4_ n5_ n6_ n7_ n8_ n9_; clear hb hbox hg; have hnb57 := NB276_271.out; have hnc57 := NB271_276.out; have hnb58 := NB276_274.out; have hnc58 := NB274_276.out; have hcz59_0 : w56.cell? ⟨gb276, 0, none⟩ = some (.bool false) := (blk_cell BK276.out 0).trans rfl; have hcz59_1 : w56.cell? ⟨gb276, 1, none⟩ = some (.int .i64 0) := (blk_cell BK276.out 1).trans rfl; have hfz59_0 := blk_frozen BK276.out 0; have hfz59_1 := blk_frozen BK276.out 1; have hnb60 := NB271_274.out; have hnc60 := NB274_271.out; have hcz61_0 : w56.cell? ⟨gb271, 0, none⟩ = some (.slice (some ad273) l0_0.length c0_0) := (blk_cell BK271.out 0).trans rfl; have hcz61_1 : w56.cell? ⟨gb271, 1, none⟩ = some (.int .i64 a0_1) := (blk_cell BK271.out 1).trans rfl; have hcz61_2 : w56.cell? ⟨gb271, 2, none⟩ = some (.int .i64 a0_2) := (blk_cell BK271.out 2).trans rfl; have hfz61_0 := blk_frozen BK271.out 0; have hfz61_1 := blk_frozen BK271.out 1; have hfz61_2 := blk_frozen BK271.out 2) | (go_at_call 49; (with_reducible refine (impl_Commit_decision.calls _ _ l0_0 a0_1 a0_2 t277 _ ?side1 ?side2 A31.out).mono ?_); (case side1 => exact Kd.C_below HR0_0.out (by repeat (first | (with_reducible first | exact HB.out | apply below_alloc | apply pw_below_drewN | apply below_drew1 | refine below_set ?_ GE271.out | refine below_set ?_ GE274.out | refine below_set ?_ GE276.out) | exact HB.out))); (case side2 => exact HC0_0.out); rintro e w62 ⟨rfl, hb⟩; have n0_ := Aside0.mk (blk_below (g := gb271) (o := .cells #[.slice (some ad273) l0_0.length c0_0, .int .i64 a0_1, .int .i64 a0_2] 29 (0, 0)) (by (with_reducible repeat (first | refine blk_drewN ?_ _ | refine blk_drew ?_ | refine blk_alloc ?_ _)); refine blk_far ?_ NB271_276.out _; (with_reducible repeat (first | refine blk_drewN ?_ _ | refine blk_drew ?_ | refine blk_alloc ?_ _)); refine blk_far ?_ NB271_276.out _; (with_reducible repeat (first | refine blk_drewN ?_ _ | refine blk_drew ?_ | refine blk_alloc ?_ _)); exact BK271.out) hb); have n1_ := Aside0.mk (blk_below (g := gb274) (o := .cells #[.slice (some ad275) ((rd_T65 l0_0 x29_2).f0).length c273_0] 65 (0, 0)) (by (with_reducible repeat (first | refine blk_drewN ?_ _ | refine blk_drew ?_ | refine blk_alloc ?_ _)); refine blk_far ?_ NB274_276.out _; (with_reducible repeat (first | refine blk_drewN ?_ _ | refine blk_drew ?_ | refine blk_alloc ?_ _)); refine blk_far ?_ NB274_276.out _; (with_reducible repeat (first | refine blk_drewN ?_ _ | refine blk_drew ?_ | refine blk_alloc ?_ _)); exact BK274.out) hb); have n2_ := Aside0.mk (blk_below (g := gb276) (o := .cells #[.bool false, .int .i64 ((rd_T67 ((rd_T65 l0_0 x29_2).f0) x36_3).f1)] 67 (0, 0)) (by (with_reducible repeat (first | refine blk_drewN ?_ _ | refine blk_drew ?_ | refine blk_alloc ?_ _)); refine blk_put (cs := #[.bool false, .int .i64 0]) ?_ 1 _ rfl; (with_reducible repeat (first | refine blk_drewN ?_ _ | refine blk_drew ?_ | refine blk_alloc ?_ _)); refine blk_put (cs := #[.bool false, .int .i64 0]) ?_ 0 _ rfl; (with_reducible repeat (first | refine blk_drewN ?_ _ | refine blk_drew ?_ | refine blk_alloc ?_ _)); exact BK276.out) hb); have n3_ := Aside0.mk (below_step (by repeat (first | (with_reducible first | exact HB.out | apply below_alloc | apply pw_below_drewN | apply below_drew1 | refine below_set ?_ GE271.out | refine below_set ?_ GE274.out | refine below_set ?_ GE276.out) | exact HB.out)) hb); clear BK271; clear BK274; clear BK276; clear HB; have BK271 := n0_; have BK274 := n1_; have BK276 := n2_; have HB := n3_; clear n0_ n1_ n2_ n3_; (try clear hb); (try clear hb2); (try clear hk); (try clear hi); have hcz63_0 : w62.cell? ⟨gb276, 0, none⟩ = some (.bool false) := (blk_cell BK276.out 0).trans rfl; have hcz63_1 : w62.cell? ⟨gb276, 1, none⟩ = some (.int .i64 ((rd_T67 ((rd_T65 l0_0 x29_2).f0) x36_3).f1)) := (blk_cell BK276.out 1).trans rfl; have hfz63_0 := blk_frozen BK276.out 0; have hfz63_1 := blk_frozen BK276.out 1))
  go_roundg k3
  case measure => have := HJ3.out; have := HK2.out; have := HK3.out; omega
  case rel => exact ⟨(wrap64 (x36_3 + 1)), (by first | rfl | (simp; done) | (simp [*]; done)), H', ⟨by have := HJ3.out; have := HK2.out; have := HK3.out; omega⟩, ⟨by (with_reducible repeat (first | refine blk_drewN ?_ _ | refine blk_drew ?_ | refine blk_alloc ?_ _)); exact BK271.out⟩, ⟨by (with_reducible repeat (first | refine blk_drewN ?_ _ | refine blk_drew ?_ | refine blk_alloc ?_ _)); exact BK274.out⟩, ⟨by repeat (first | (with_reducible first | exact HB.out | apply below_alloc | apply pw_below_drewN | apply below_drew1 | refine below_set ?_ GE271.out | refine below_set ?_ GE274.out | refine below_set ?_ GE276.out) | exact HB.out)⟩⟩
 rw [if_pos c33] at H
 have c33b0 : (((rd_T67 ((rd_T65 l0_0 x29_2).f0) x36_3).f1) == 4) = true := beq_iff_eq.mpr c33
 have c33b1 : (((rd_T67 ((rd_T65 l0_0 x29_2).f0) x36_3).f1) != 4) = false := bne_eq_false_iff_eq.mpr c33
 clear c33
 replace H := Option.bind_eq_some_iff.mp H
 obtain ⟨t278, A340, H⟩ := H
 replace H : (if t278 = 2 then (impl_AgreesIn.l1 k3 l0_0 (l0_0.length : Int) x29_2 ((rd_T65 l0_0 x29_2).f0) (((rd_T65 l0_0 x29_2).f0).length : Int) (wrap64 (x36_3 + 1)) l0_0 a0_1 a0_2) else (some (false, true))) = some (r1, r2) := H
 have A34 := Aside0.mk A340
 clear A340
 by_cases c35 : t278 = 2
 rotate_left
 ·rw [if_neg c35] at H
  have c35b0 : (t278 == 2) = false := beq_eq_false_iff_ne.mpr c35
  have c35b1 : (t278 != 2) = true := bne_iff_ne.mpr c35
  simp only [Option.some.injEq, Prod.mk.injEq] at H
  obtain ⟨rfl, rfl⟩ := H
  have p275 : 0 ≤ (x36_3 : Int) := of_decide_eq_true (by first | (with_reducible assumption) | assumption)
  have q275 : x36_3 < (((rd_T65 l0_0 x29_2).f0).length : Int) := of_decide_eq_true (by first | (with_reducible assumption) | assumption)
  obtain ⟨ad275, e275, hx275_0, hx275_1⟩ := at_T67 HR273_0.out x36_3 p275 q275
  (try rw [← Nbq24.out] at hx275_0)
  cases e275
  replace hx275_0 := (HB.out.cell (World.block_lt_of_cell? w _ hx275_0)).trans hx275_0
  replace hx275_1 := (HB.out.cell (World.block_lt_of_cell? w _ hx275_1)).trans hx275_1
  replace p275 := eq_true p275
  replace q275 := eq_true q275
  go_wp2_with (first | ((with_reducible refine gate_dst (N := 7) rfl ?_); refine box_event ?hg (N := 7) ?hd (cs := #[.bool false, .int .i64 0]) (t := 67) ?hr ?_; (case hd => rfl); (case hg => rfl); (case hr => first | (go_simp; done) | (go_simp; rfl)); intro gb276 hg w46 hbox hb; have n0_ := Aside0.mk (blk_below (g := gb271) (o := .cells #[.slice (some ad273) l0_0.length c0_0, .int .i64 a0_1, .int .i64 a0_2] 29 (0, 0)) (by (with_reducible repeat (first | refine blk_drewN ?_ _ | refine blk_drew ?_ | refine blk_alloc ?_ _)); exact BK271.out) hb); have n1_ := Aside0.mk (blk_below (g := gb274) (o := .cells #[.slice (some ad275) ((rd_T65 l0_0 x29_2).f0).length c273_0] 65 (0, 0)) (by (with_reducible repeat (first | refine blk_drewN ?_ _ | refine blk_drew ?_ | refine blk_alloc ?_ _)); exact BK274.out) hb); have n2_ := Aside0.mk (below_step (by repeat (first | (with_reducible first | exact HB.out | apply below_alloc | apply pw_below_drewN | apply below_drew1 | refine below_set ?_ GE271.out | refine below_set ?_ GE274.out) | exact HB.out)) hb); have n3_ := Aside0.mk (hbox); have n4_ := Aside0.mk ((by rw [hg]; exact (below_size (by repeat (first | (with_reducible first | exact HB.out | apply below_alloc | apply pw_below_drewN | apply below_drew1 | refine below_set ?_ GE271.out | refine below_set ?_ GE274.out) | exact HB.out))) : w.heap.size ≤ gb276)); have n5_ := Aside0.mk ((by rw [hg]; exact (below_size (by repeat (first | (with_reducible first | exact HB.out | apply below_alloc | apply pw_below_drewN | apply below_drew1 | refine below_set ?_ GE271.out | refine below_set ?_ GE274.out) | exact HB.out))) : w.heap.size ≤ gb276)); have n6_ := Aside0.mk ((by rw [hg]; exact Nat.ne_of_lt (blk_lt (g := gb271) (o := .cells #[.slice (some ad273) l0_0.length c0_0, .int .i64 a0_1, .int .i64 a0_2] 29 (0, 0)) (by (with_reducible repeat (first | refine blk_drewN ?_ _ | refine blk_drew ?_ | refine blk_alloc ?_ _)); exact BK271.out)) : gb271 ≠ gb276)); have n7_ := Aside0.mk ((by rw [hg]; exact Nat.ne_of_gt (blk_lt (g := gb271) (o := .cells #[.slice (some ad273) l0_0.length c0_0, .int .i64 a0_1, .int .i64 a0_2] 29 (0, 0)) (by (with_reducible repeat (first | refine blk_drewN ?_ _ | refine blk_drew ?_ | refine blk_alloc ?_ _)); exact BK271.out)) : gb276 ≠ gb271)); have n8_ := Aside0.mk ((by rw [hg]; exact Nat.ne_of_lt (blk_lt (g := gb274) (o := .cells #[.slice (some ad275) ((rd_T65 l0_0 x29_2).f0).length c273_0] 65 (0, 0)) (by (with_reducible repeat (first | refine blk_drewN ?_ _ | refine blk_drew ?_ | refine blk_alloc ?_ _)); exact BK274.out)) : gb274 ≠ gb276)); have n9_ := Aside0.mk ((by rw [hg]; exact Nat.ne_of_gt (blk_lt (g := gb274) (o := .cells #[.slice (some ad275) ((rd_T65 l0_0 x29_2).f0).length c273_0] 65 (0, 0)) (by (with_reducible repeat (first | refine blk_drewN ?_ _ | refine blk_drew ?_ | refine blk_alloc ?_ _)); exact BK274.out)) : gb276 ≠ gb274)); clear BK271; clear BK274; clear HB; have BK271 := n0_; have BK274 := n1_; have HB := n2_; have BK276 := n3_; have GW276 := n4_; have GE276 := n5_; have NB271_276 := n6_; have NB276_271 := n7_; have NB274_276 := n8_; have NB276_274 := n9_; clear n0_ n1_ n2_ n3_ n4_ n5_ n6_ n7_ n8_ n9_; clear hb hbox hg; have hnb47 := NB276_271.out; have hnc47 := NB271_276.out; have hnb48 := NB276_274.out; have hnc48 := NB274_276.out; have hcz49_0 : w46.cell? ⟨gb276, 0, none⟩ = some (.bool false) := (blk_cell BK276.out 0).trans rfl; have hcz49_1 : w46.cell? ⟨gb276, 1, none⟩ = some (.int .i64 0) := (blk_cell BK276.out 1).trans rfl; have hfz49_0 := blk_frozen BK276.out 0; have hfz49_1 := blk_frozen BK276.out 1; have hnb50 := NB271_274.out; have hnc50 := NB274_271.out; have hcz51_0 : w46.cell? ⟨gb271, 0, none⟩ = some (.slice (some ad273) l0_0.length c0_0) := (blk_cell BK271.out 0).trans rfl; have hcz51_1 : w46.cell? ⟨gb271, 1, none⟩ = some (.int .i64 a0_1) := (blk_cell BK271.out 1).trans rfl; have hcz51_2 : w46.cell? ⟨gb271, 2, none⟩ = some (.int .i64 a0_2) := (blk_cell BK271.out 2).trans rfl; have hfz51_0 := blk_frozen BK271.out 0; have hfz51_1 := blk_frozen BK271.out 1; have hfz51_2 := blk_frozen BK271.out 2) | (go_at_call 49; (with_reducible refine (impl_Commit_decision.calls _ _ l0_0 a0_1 a0_2 t277 _ ?side1 ?side2 A31.out).mono ?_); (case side1 => exact Kd.C_below HR0_0.out (by repeat (first | (with_reducible first | exact HB.out | apply below_alloc | apply pw_below_drewN | apply below_drew1 | refine below_set ?_ GE271.out | refine below_set ?_ GE274.out | refine below_set ?_ GE276.out) | exact HB.out))); (case side2 => exact HC0_0.out); rintro e w52 ⟨rfl, hb⟩; have n0_ := Aside0.mk (blk_below (g := gb271) (o := .cells #[.slice (some ad273) l0_0.length c0_0, .int .i64 a0_1, .int .i64 a0_2] 29 (0, 0)) (by (with_reducible repeat (first | refine blk_drewN ?_ _ | refine blk_drew ?_ | refine blk_alloc ?_ _)); refine blk_far ?_ NB271_276.out _; (with_reducible repeat (first | refine blk_drewN ?_ _ | refine blk_drew ?_ | refine blk_alloc ?_ _)); refine blk_far ?_ NB271_276.out _; (with_reducible repeat (first | refine blk_drewN ?_ _ | refine blk_drew ?_ | refine blk_alloc ?_ _)); exact BK271.out) hb); have n1_ := Aside0.mk (blk_below (g := gb274) (o := .cells #[.slice (some ad275) ((rd_T65 l0_0 x29_2).f0).length c273_0] 65 (0, 0)) (by (with_reducible repeat (first | refine blk_drewN ?_ _ | refine blk_drew ?_ | refine blk_alloc ?_ _)); refine blk_far ?_ NB274_276.out _; (with_reducible repeat (first | refine blk_drewN ?_ _ | refine blk_drew ?_ | refine blk_alloc ?_ _)); refine blk_far ?_ NB274_276.out _; (with_reducible repeat (first | refine blk_drewN ?_ _ | refine blk_drew ?_ | refine blk_alloc ?_ _)); exact BK274.out) hb); have n2_ := Aside0.mk (blk_below (g := gb276) (o := .cells #[.bool false, .int .i64 ((rd_T67 ((rd_T65 l0_0 x29_2).f0) x36_3).f1)] 67 (0, 0)) (by (with_reducible repeat (first | refine blk_drewN ?_ _ | refine blk_drew ?_ | refine blk_alloc ?_ _)); refine blk_put (cs := #[.bool false, .int .i64 0]) ?_ 1 _ rfl; (with_reducible repeat (first | refine blk_drewN ?_ _ | refine blk_drew ?_ | refine blk_alloc ?_ _)); refine blk_put (cs := #[.bool false, .int .i64 0]) ?_ 0 _ rfl; (with_reducible repeat (first | refine blk_drewN ?_ _ | refine blk_drew ?_ | refine blk_alloc ?_ _)); exact BK276.out) hb); have n3_ := Aside0.mk (below_step (by repeat (first | (with_reducible first | exact HB.out | apply below_alloc | apply pw_below_drewN | apply below_drew1 | refine below_set ?_ GE271.out | refine below_set ?_ GE274.out | refine below_set ?_ GE276.out) | exact HB.out)) hb); clear BK271; clear BK274; clear BK276; clear HB; have BK271 := n0_; have BK274 := n1_; have BK276 := n2_; have HB := n3_; clear n0_ n1_ n2_ n3_; (try clear hb); (try clear hb2); (try clear hk); (try clear hi); have hcz53_0 : w52.cell? ⟨gb276, 0, none⟩ = some (.bool false) := (blk_cell BK276.out 0).trans rfl; have hcz53_1 : w52.cell? ⟨gb276, 1, none⟩ = some (.int .i64 ((rd_T67 ((rd_T65 l0_0 x29_2).f0) x36_3).f1)) := (blk_cell BK276.out 1).trans rfl; have hfz53_0 := blk_frozen BK276.out 0; have hfz53_1 := blk_frozen BK276.out 1; have hcz54_0 : w52.cell? ⟨gb271, 0, none⟩ = some (.slice (some ad273) l0_0.length c0_0) := (blk_cell BK271.out 0).trans rfl; have hcz54_1 : w52.cell? ⟨gb271, 1, none⟩ = some (.int .i64 a0_1) := (blk_cell BK271.out 1).trans rfl; have hcz54_2 : w52.cell? ⟨gb271, 2, none⟩ = some (.int .i64 a0_2) := (blk_cell BK271.out 2).trans rfl; have hfz54_0 := blk_frozen BK271.out 0; have hfz54_1 := blk_frozen BK271.out 1; have hfz54_2 := blk_frozen BK271.out 2) | (go_at_call 49; (with_reducible refine (impl_Commit_decision.calls _ _ l0_0 a0_1 a0_2 t278 _ ?side1 ?side2 A34.out).mono ?_); (case side1 => repeat (first | exact (Kd.C_below HR0_0.out HB.out) | (with_reducible refine Kd.C_alloc ?_ _) | (with_reducible refine Kd.C_drewN ?_ _) | (with_reducible refine Kd.C_drew ?_))); (case side2 => exact HC0_0.out); rintro e w55 ⟨rfl, hb⟩; have n0_ := Aside0.mk (blk_below (g := gb271) (o := .cells #[.slice (some ad273) l0_0.length c0_0, .int .i64 a0_1, .int .i64 a0_2] 29 (0, 0)) (by (with_reducible repeat (first | refine blk_drewN ?_ _ | refine blk_drew ?_ | refine blk_alloc ?_ _)); exact BK271.out) hb); have n1_ := Aside0.mk (blk_below (g := gb274) (o := .cells #[.slice (some ad275) ((rd_T65 l0_0 x29_2).f0).length c273_0] 65 (0, 0)) (by (with_reducible repeat (first | refine blk_drewN ?_ _ | refine blk_drew ?_ | refine blk_alloc ?_ _)); exact BK274.out) hb); have n2_ := Aside0.mk (blk_below (g := gb276) (o := .cells #[.bool false, .int .i64 ((rd_T67 ((rd_T65 l0_0 x29_2).f0) x36_3).f1)] 67 (0, 0)) (by (with_reducible repeat (first | refine blk_drewN ?_ _ | refine blk_drew ?_ | refine blk_alloc ?_ _)); exact BK276.out) hb); have n3_ := Aside0.mk (below_step (by repeat (first | (with_reducible first | exact HB.out | apply below_alloc | apply pw_below_drewN | apply below_drew1 | refine below_set ?_ GE271.out | refine below_set ?_ GE274.out | refine below_set ?_ GE276.out) | exact HB.out)) hb); clear BK271; clear BK274; clear BK276; clear HB; have BK271 := n0_; have BK274 := n1_; have BK276 := n2_; have HB := n3_; clear n0_ n1_ n2_ n3_; (try clear hb); (try clear hb2); (try clear hk); (try clear hi)))
  go_ret2
  exact ⟨by first | rfl | (simp [errW_none, errW_some] <;> rfl) | (simp [*, errW_none, errW_some] <;> rfl), by repeat (first | (with_reducible first | exact HB.out | apply below_alloc | apply pw_below_drewN | apply below_drew1 | refine below_set ?_ GE271.out | refine below_set ?_ GE274.out | refine below_set ?_ GE276.out) | exact HB.out)⟩
 rw [if_pos c35] at H
 have c35b0 : (t278 == 2) = true := beq_iff_eq.mpr c35
 have c35b1 : (t278 != 2) = false := bne_eq_false_iff_eq.mpr c35
 clear c35
 have H' := Aside0.mk H
 clear H
 have p275 : 0 ≤ (x36_3 : Int) := of_decide_eq_true (by first | (with_reducible assumption) | assumption)
 have q275 : x36_3 < (((rd_T65 l0_0 x29_2).f0).length : Int) := of_decide_eq_true (by first | (with_reducible assumption) | assumption)
 obtain ⟨ad275, e275, hx275_0, hx275_1⟩ := at_T67 HR273_0.out x36_3 p275 q275
 (try rw [← Nbq24.out] at hx275_0)
 cases e275
 replace hx275_0 := (HB.out.cell (World.block_lt_of_cell? w _ hx275_0)).trans hx275_0
 replace hx275_1 := (HB.out.cell (World.block_lt_of_cell? w _ hx275_1)).trans hx275_1
 replace p275 := eq_true p275
 replace q275 := eq_true q275
 go_wp2_with (first | ((with_reducible refine gate_dst (N := 7) rfl ?_); refine box_event ?hg (N := 7) ?hd (cs := #[.bool false, .int .i64 0]) (t := 67) ?hr ?_; (case hd => rfl); (case hg => rfl); (case hr => first | (go_simp; done) | (go_simp; rfl)); intro gb276 hg w36 hbox hb; have n0_ := Aside0.mk (blk_below (g := gb271) (o := .cells #[.slice (some ad273) l0_0.length c0_0, .int .i64 a0_1, .int .i64 a0_2] 29 (0, 0)) (by (with_reducible repeat (first | refine blk_drewN ?_ _ | refine blk_drew ?_ | refine blk_alloc ?_ _)); exact BK271.out) hb); have n1_ := Aside0.mk (blk_below (g := gb274) (o := .cells #[.slice (some ad275) ((rd_T65 l0_0 x29_2).f0).length c273_0] 65 (0, 0)) (by (with_reducible repeat (first | refine blk_drewN ?_ _ | refine blk_drew ?_ | refine blk_alloc ?_ _)); exact BK274.out) hb); have n2_ := Aside0.mk (below_step (by repeat (first | (with_reducible first | exact HB.out | apply below_alloc | apply pw_below_drewN | apply below_drew1 | refine below_set ?_ GE271.out | refine below_set ?_ GE274.out) | exact HB.out)) hb); have n3_ := Aside0.mk (hbox); have n4_ := Aside0.mk ((by rw [hg]; exact (below_size (by repeat (first | (with_reducible first | exact HB.out | apply below_alloc | apply pw_below_drewN | apply below_drew1 | refine below_set ?_ GE271.out | refine below_set ?_ GE274.out) | exact HB.out))) : w.heap.size ≤ gb276)); have n5_ := Aside0.mk ((by rw [hg]; exact (below_size (by repeat (first | (with_reducible first | exact HB.out | apply below_alloc | apply pw_below_drewN | apply below_drew1 | refine below_set ?_ GE271.out | refine below_set ?_ GE274.out) | exact HB.out))) : w.heap.size ≤ gb276)); have n6_ := Aside0.mk ((by rw [hg]; exact Nat.ne_of_lt (blk_lt (g := gb271) (o := .cells #[.slice (some ad273) l0_0.length c0_0, .int .i64 a0_1, .int .i64 a0_2] 29 (0, 0)) (by (with_reducible repeat (first | refine blk_drewN ?_ _ | refine blk_drew ?_ | refine blk_alloc ?_ _)); exact BK271.out)) : gb271 ≠ gb276)); have n7_ := Aside0.mk ((by rw [hg]; exact Nat.ne_of_gt (blk_lt (g := gb271) (o := .cells #[.slice (some ad273) l0_0.length c0_0, .int .i64 a0_1, .int .i64 a0_2] 29 (0, 0)) (by (with_reducible repeat (first | refine blk_drewN ?_ _ | refine blk_drew ?_ | refine blk_alloc ?_ _)); exact BK271.out)) : gb276 ≠ gb271)); have n8_ := Aside0.mk ((by rw [hg]; exact Nat.ne_of_lt (blk_lt (g := gb274) (o := .cells #[.slice (some ad275) ((rd_T65 l0_0 x29_2).f0).length c273_0] 65 (0, 0)) (by (with_reducible repeat (first | refine blk_drewN ?_ _ | refine blk_drew ?_ | refine blk_alloc ?_ _)); exact BK274.out)) : gb274 ≠ gb276)); have n9_ := Aside0.mk ((by rw [hg]; exact Nat.ne_of_gt (blk_lt (g := gb274) (o := .cells #[.slice (some ad275) ((rd_T65 l0_0 x29_2).f0).length c273_0] 65 (0, 0)) (by (with_reducible repeat (first | refine blk_drewN ?_ _ | refine blk_drew ?_ | refine blk_alloc ?_ _)); exact BK274.out)) : gb276 ≠ gb274)); clear BK271; clear BK274; clear HB; have BK271 := n0_; have BK274 := n1_; have HB := n2_; have BK276 := n3_; have GW276 := n4_; have GE276 := n5_; have NB271_276 := n6_; have NB276_271 := n7_; have NB274_276 := n8_; have NB276_274 := n9_; clear n0_ n1_ n2_ n3_ n4_ n5_ n6_ n7_ n8_ n9_; clear hb hbox hg; have hnb37 := NB276_271.out; have hnc37 := NB271_276.out; have hnb38 := NB276_274.out; have hnc38 := NB274_276.out; have hcz39_0 : w36.cell? ⟨gb276, 0, none⟩ = some (.bool false) := (blk_cell BK276.out 0).trans rfl; have hcz39_1 : w36.cell? ⟨gb276, 1, none⟩ = some (.int .i64 0) := (blk_cell BK276.out 1).trans rfl; have hfz39_0 := blk_frozen BK276.out 0; have hfz39_1 := blk_frozen BK276.out 1; have hnb40 := NB271_274.out; have hnc40 := NB274_271.out; have hcz41_0 : w36.cell? ⟨gb271, 0, none⟩ = some (.slice (some ad273) l0_0.length c0_0) := (blk_cell BK271.out 0).trans rfl; have hcz41_1 : w36.cell? ⟨gb271, 1, none⟩ = some (.int .i64 a0_1) := (blk_cell BK271.out 1).trans rfl; have hcz41_2 : w36.cell? ⟨gb271, 2, none⟩ = some (.int .i64 a0_2) := (blk_cell BK271.out 2).trans rfl; have hfz41_0 := blk_frozen BK271.out 0; have hfz41_1 := blk_frozen BK271.out 1; have hfz41_2 := blk_frozen BK271.out 2) | (go_at_call 49; (with_reducible refine (impl_Commit_decision.calls _ _ l0_0 a0_1 a0_2 t277 _ ?side1 ?side2 A31.out).mono ?_); (case side1 => exact Kd.C_below HR0_0.out (by repeat (first | (with_reducible first | exact HB.out | apply below_alloc | apply pw_below_drewN | apply below_drew1 | refine below_set ?_ GE271.out | refine below_set ?_ GE274.out | refine below_set ?_ GE276.out) | exact HB.out))); (case side2 => exact HC0_0.out); rintro e w42 ⟨rfl, hb⟩; have n0_ := Aside0.mk (blk_below (g := gb271) (o := .cells #[.slice (some ad273) l0_0.length c0_0, .int .i64 a0_1, .int .i64 a0_2] 29 (0, 0)) (by (with_reducible repeat (first | refine blk_drewN ?_ _ | refine blk_drew ?_ | refine blk_alloc ?_ _)); refine blk_far ?_ NB271_276.out _; (with_reducible repeat (first | refine blk_drewN ?_ _ | refine blk_drew ?_ | refine blk_alloc ?_ _)); refine blk_far ?_ NB271_276.out _; (with_reducible repeat (first | refine blk_drewN ?_ _ | refine blk_drew ?_ | refine blk_alloc ?_ _)); exact BK271.out) hb); have n1_ := Aside0.mk (blk_below (g := gb274) (o := .cells #[.slice (some ad275) ((rd_T65 l0_0 x29_2).f0).length c273_0] 65 (0, 0)) (by (with_reducible repeat (first | refine blk_drewN ?_ _ | refine blk_drew ?_ | refine blk_alloc ?_ _)); refine blk_far ?_ NB274_276.out _; (with_reducible repeat (first | refine blk_drewN ?_ _ | refine blk_drew ?_ | refine blk_alloc ?_ _)); refine blk_far ?_ NB274_276.out _; (with_reducible repeat (first | refine blk_drewN ?_ _ | refine blk_drew ?_ | refine blk_alloc ?_ _)); exact BK274.out) hb); have n2_ := Aside0.mk (blk_below (g := gb276) (o := .cells #[.bool false, .int .i64 ((rd_T67 ((rd_T65 l0_0 x29_2).f0) x36_3).f1)] 67 (0, 0)) (by (with_reducible repeat (first | refine blk_drewN ?_ _ | refine blk_drew ?_ | refine blk_alloc ?_ _)); refine blk_put (cs := #[.bool false, .int .i64 0]) ?_ 1 _ rfl; (with_reducible repeat (first | refine blk_drewN ?_ _ | refine blk_drew ?_ | refine blk_alloc ?_ _)); refine blk_put (cs := #[.bool false, .int .i64 0]) ?_ 0 _ rfl; (with_reducible repeat (first | refine blk_drewN ?_ _ | refine blk_drew ?_ | refine blk_alloc ?_ _)); exact BK276.out) hb); have n3_ := Aside0.mk (below_step (by repeat (first | (with_reducible first | exact HB.out | apply below_alloc | apply pw_below_drewN | apply below_drew1 | refine below_set ?_ GE271.out | refine below_set ?_ GE274.out | refine below_set ?_ GE276.out) | exact HB.out)) hb); clear BK271; clear BK274; clear BK276; clear HB; have BK271 := n0_; have BK274 := n1_; have BK276 := n2_; have HB := n3_; clear n0_ n1_ n2_ n3_; (try clear hb); (try clear hb2); (try clear hk); (try clear hi); have hcz43_0 : w42.cell? ⟨gb276, 0, none⟩ = some (.bool false) := (blk_cell BK276.out 0).trans rfl; have hcz43_1 : w42.cell? ⟨gb276, 1, none⟩ = some (.int .i64 ((rd_T67 ((rd_T65 l0_0 x29_2).f0) x36_3).f1)) := (blk_cell BK276.out 1).trans rfl; have hfz43_0 := blk_frozen BK276.out 0; have hfz43_1 := blk_frozen BK276.out 1; have hcz44_0 : w42.cell? ⟨gb271, 0, none⟩ = some (.slice (some ad273) l0_0.length c0_0) := (blk_cell BK271.out 0).trans rfl; have hcz44_1 : w42.cell? ⟨gb271, 1, none⟩ = some (.int .i64 a0_1) := (blk_cell BK271.out 1).trans rfl; have hcz44_2 : w42.cell? ⟨gb271, 2, none⟩ = some (.int .i64 a0_2) := (blk_cell BK271.out 2).trans rfl; have hfz44_0 := blk_frozen BK271.out 0; have hfz44_1 := blk_frozen BK271.out 1; have hfz44_2 := blk_frozen BK271.out 2) | (go_at_call 49; (with_reducible refine (impl_Commit_decision.calls _ _ l0_0 a0_1 a0_2 t278 _ ?side1 ?side2 A34.out).mono ?_); (case side1 => repeat (first | exact (Kd.C_below HR0_0.out HB.out) | (with_reducible refine Kd.C_alloc ?_ _) | (with_reducible refine Kd.C_drewN ?_ _) | (with_reducible refine Kd.C_drew ?_))); (case side2 => exact HC0_0.out); rintro e w45 ⟨rfl, hb⟩; have n0_ := Aside0.mk (blk_below (g := gb271) (o := .cells #[.slice (some ad273) l0_0.length c0_0, .int .i64 a0_1, .int .i64 a0_2] 29 (0, 0)) (by (with_reducible repeat (first | refine blk_drewN ?_ _ | refine blk_drew ?_ | refine blk_alloc ?_ _)); exact BK271.out) hb); have n1_ := Aside0.mk (blk_below (g := gb274) (o := .cells #[.slice (some ad275) ((rd_T65 l0_0 x29_2).f0).length c273_0] 65 (0, 0)) (by (with_reducible repeat (first | refine blk_drewN ?_ _ | refine blk_drew ?_ | refine blk_alloc ?_ _)); exact BK274.out) hb); have n2_ := Aside0.mk (blk_below (g := gb276) (o := .cells #[.bool false, .int .i64 ((rd_T67 ((rd_T65 l0_0 x29_2).f0) x36_3).f1)] 67 (0, 0)) (by (with_reducible repeat (first | refine blk_drewN ?_ _ | refine blk_drew ?_ | refine blk_alloc ?_ _)); exact BK276.out) hb); have n3_ := Aside0.mk (below_step (by repeat (first | (with_reducible first | exact HB.out | apply below_alloc | apply pw_below_drewN | apply below_drew1 | refine below_set ?_ GE271.out | refine below_set ?_ GE274.out | refine below_set ?_ GE276.out) | exact HB.out)) hb); clear BK271; clear BK274; clear BK276; clear HB; have BK271 := n0_; have BK274 := n1_; have BK276 := n2_; have HB := n3_; clear n0_ n1_ n2_ n3_; (try clear hb); (try clear hb2); (try clear hk); (try clear hi)))
 go_roundg k3
 case measure => have := HJ3.out; have := HK2.out; have := HK3.out; omega
 case rel => exact ⟨(wrap64 (x36_3 + 1)), (by first | rfl | (simp; done) | (simp [*]; done)), H', ⟨by have := HJ3.out; have := HK2.out; have := HK3.out; omega⟩, ⟨by (with_reducible repeat (first | refine blk_drewN ?_ _ | refine blk_drew ?_ | refine blk_alloc ?_ _)); exact BK271.out⟩, ⟨by (with_reducible repeat (first | refine blk_drewN ?_ _ | refine blk_drew ?_ | refine blk_alloc ?_ _)); exact BK274.out⟩, ⟨by repeat (first | (with_reducible first | exact HB.out | apply below_alloc | apply pw_below_drewN | apply below_drew1 | refine below_set ?_ GE271.out | refine below_set ?_ GE274.out | refine below_set ?_ GE276.out) | exact HB.out)⟩⟩

end Go.Proofs.Ytniaodllgeloiaa.PK
