/- What this text proves: the machine calls of these functions return what the plain functions say. Conditions: as each theorem says. Printed by a program of this session out of the translation. -/
import Derived.Test.YtniaodllgeloiaaPMPx0
import Derived.Test.YtniaodllgeloiaaPMPx2
import Derived.Test.YtniaodllgeloiaaPMPx3
namespace Go.Proofs.Ytniaodllgeloiaa.PMP
open Go.RowKit Go.Proofs.YtniaodllgeloiaaW.PrintWords Go.Proofs.YtniaodllgeloiaaW.PrintLast Go.Proofs.YtniaodllgeloiaaW.PrintMore
attribute [local go_sem] max2_int min2_int max_two min_two max_three min_three max_four min_four   -- for this text's walks alone
set_option linter.unusedVariables false
set_option linter.unusedSimpArgs false

/-! ### spec_GoodConfig: function 30 -/
mutual
def spec_GoodConfig.j0 : Nat → Bool → Int → List Int → List (S80) → Option (Bool)
 | 0, _, _, _, _ => none
 | k + 1, x23, x156000, x156001, x156002 => if x23 = true then (some false) else (spec_GoodConfig.l0 k x156002 (x156002.length : Int) 0 x156000 x156001 x156002)
def spec_GoodConfig.l0 : Nat → List (S80) → Int → Int → Int → List Int → List (S80) → Option (Bool)
 | 0, _, _, _, _, _, _ => none
 | k + 1, x25, x26, x27, x156000, x156001, x156002 => if x27 < x26 then (if 0 ≤ x27 then (if x27 < (x25.length : Int) then ((spec_l1In.f ((rd_T80 x25 x27).f0) (-1) 11).bind fun t161 => (if t161 = true then ((spec_l16Rising.f k ((rd_T80 x25 x27).f1) 11).bind fun t162 => (if t162 = true then ((spec_l1Has.f k ((rd_T80 x25 x27).f1) ((rd_T80 x25 x27).f0)).bind fun t163 => (if t163 = true then (spec_GoodConfig.j2 k x25 x26 x27 true x156000 x156001 x156002 ((rd_T80 x25 x27).f0) ((rd_T80 x25 x27).f1)) else ((spec_l1Has.f k x156001 ((rd_T80 x25 x27).f0)).bind fun t164 => (if t164 = true then (spec_GoodConfig.j2 k x25 x26 x27 true x156000 x156001 x156002 ((rd_T80 x25 x27).f0) ((rd_T80 x25 x27).f1)) else (if ((rd_T80 x25 x27).f0) = (-1) then (spec_GoodConfig.j2 k x25 x26 x27 (decide ((((rd_T80 x25 x27).f1).length : Int) > 0)) x156000 x156001 x156002 ((rd_T80 x25 x27).f0) ((rd_T80 x25 x27).f1)) else (spec_GoodConfig.j2 k x25 x26 x27 false x156000 x156001 x156002 ((rd_T80 x25 x27).f0) ((rd_T80 x25 x27).f1))))))) else (spec_GoodConfig.j2 k x25 x26 x27 true x156000 x156001 x156002 ((rd_T80 x25 x27).f0) ((rd_T80 x25 x27).f1)))) else (spec_GoodConfig.j2 k x25 x26 x27 true x156000 x156001 x156002 ((rd_T80 x25 x27).f0) ((rd_T80 x25 x27).f1)))) else (none)) else (none)) else (some true)
def spec_GoodConfig.j2 : Nat → List (S80) → Int → Int → Bool → Int → List Int → List (S80) → Int → List Int → Option (Bool)
 | 0, _, _, _, _, _, _, _, _, _ => none
 | k + 1, x25, x26, x27, x65, x156000, x156001, x156002, x161000, x161001 => if x65 = true then (some false) else (spec_GoodConfig.l1 k x25 x26 x27 x161001 (x161001.length : Int) 0 x156000 x156001 x156002)
def spec_GoodConfig.l1 : Nat → List (S80) → Int → Int → List Int → Int → Int → Int → List Int → List (S80) → Option (Bool)
 | 0, _, _, _, _, _, _, _, _, _ => none
 | k + 1, x25, x26, x27, x67, x68, x69, x156000, x156001, x156002 => if x69 < x68 then (if 0 ≤ x69 then (if x69 < (x67.length : Int) then ((spec_l1Has.f k x156001 (rd x67 x69)).bind fun t166 => (if t166 = true then (some false) else (spec_GoodConfig.l1 k x25 x26 x27 x67 x68 (wrap64 (x69 + 1)) x156000 x156001 x156002))) else (none)) else (none)) else (spec_GoodConfig.l0 k x25 x26 (wrap64 (x27 + 1)) x156000 x156001 x156002)
end
def spec_GoodConfig.f (k : Nat) (a0_0 : Int) (l0_1 : List Int) (l0_2 : List (S80)) : Option (Bool) := (spec_l1In.f a0_0 1 1000000).bind fun t156 => (if t156 = true then ((spec_l16Rising.f k l0_1 12).bind fun t157 => (if t157 = true then ((spec_l1In.f (l0_2.length : Int) 1 8).bind fun t158 => (spec_GoodConfig.j0 k (!t158) a0_0 l0_1 l0_2)) else (spec_GoodConfig.j0 k true a0_0 l0_1 l0_2))) else (spec_GoodConfig.j0 k true a0_0 l0_1 l0_2))
theorem spec_GoodConfig.mono_l : ∀ k, (∀ y0 y1 y2 y3, LeO (spec_GoodConfig.j0 k y0 y1 y2 y3) (spec_GoodConfig.j0 (k + 1) y0 y1 y2 y3)) ∧ (∀ y0 y1 y2 y3 y4 y5, LeO (spec_GoodConfig.l0 k y0 y1 y2 y3 y4 y5) (spec_GoodConfig.l0 (k + 1) y0 y1 y2 y3 y4 y5)) ∧ (∀ y0 y1 y2 y3 y4 y5 y6 y7 y8, LeO (spec_GoodConfig.j2 k y0 y1 y2 y3 y4 y5 y6 y7 y8) (spec_GoodConfig.j2 (k + 1) y0 y1 y2 y3 y4 y5 y6 y7 y8)) ∧ (∀ y0 y1 y2 y3 y4 y5 y6 y7 y8, LeO (spec_GoodConfig.l1 k y0 y1 y2 y3 y4 y5 y6 y7 y8) (spec_GoodConfig.l1 (k + 1) y0 y1 y2 y3 y4 y5 y6 y7 y8))
 | 0 => ⟨fun _ _ _ _ r h => by simp [spec_GoodConfig.j0] at h, fun _ _ _ _ _ _ r h => by simp [spec_GoodConfig.l0] at h, fun _ _ _ _ _ _ _ _ _ r h => by simp [spec_GoodConfig.j2] at h, fun _ _ _ _ _ _ _ _ _ r h => by simp [spec_GoodConfig.l1] at h⟩
 | k + 1 => by
  obtain ⟨ih0, ih1, ih2, ih3⟩ := spec_GoodConfig.mono_l k
  refine ⟨?_, ?_, ?_, ?_⟩
  ·intro y0 y1 y2 y3
   unfold spec_GoodConfig.j0
   repeat' first
   | (with_reducible exact ih0 _ _ _ _)
   | (with_reducible exact ih1 _ _ _ _ _ _)
   | (with_reducible exact ih2 _ _ _ _ _ _ _ _ _)
   | (with_reducible exact ih3 _ _ _ _ _ _ _ _ _)
   | (with_reducible exact spec_l16Rising.mono _ _ _)
   | (with_reducible exact spec_l1Has.mono _ _ _)
   | (with_reducible exact LeO.refl _)
   | (with_reducible exact LeO.none _)
   | (with_reducible refine LeO.ite ?_ ?_)
   | (with_reducible refine LeO.bind ?_ (fun _ => ?_))
   | exact ih0 _ _ _ _
   | exact ih1 _ _ _ _ _ _
   | exact ih2 _ _ _ _ _ _ _ _ _
   | exact ih3 _ _ _ _ _ _ _ _ _
   | exact spec_l16Rising.mono _ _ _
   | exact spec_l1Has.mono _ _ _
   | exact LeO.none _
   | refine LeO.ite ?_ ?_
   | refine LeO.bind ?_ (fun _ => ?_)
  ·intro y0 y1 y2 y3 y4 y5
   unfold spec_GoodConfig.l0
   repeat' first
   | (with_reducible exact ih0 _ _ _ _)
   | (with_reducible exact ih1 _ _ _ _ _ _)
   | (with_reducible exact ih2 _ _ _ _ _ _ _ _ _)
   | (with_reducible exact ih3 _ _ _ _ _ _ _ _ _)
   | (with_reducible exact spec_l16Rising.mono _ _ _)
   | (with_reducible exact spec_l1Has.mono _ _ _)
   | (with_reducible exact LeO.refl _)
   | (with_reducible exact LeO.none _)
   | (with_reducible refine LeO.ite ?_ ?_)
   | (with_reducible refine LeO.bind ?_ (fun _ => ?_))
   | exact ih0 _ _ _ _
   | exact ih1 _ _ _ _ _ _
   | exact ih2 _ _ _ _ _ _ _ _ _
   | exact ih3 _ _ _ _ _ _ _ _ _
   | exact spec_l16Rising.mono _ _ _
   | exact spec_l1Has.mono _ _ _
   | exact LeO.none _
   | refine LeO.ite ?_ ?_
   | refine LeO.bind ?_ (fun _ => ?_)
  ·intro y0 y1 y2 y3 y4 y5 y6 y7 y8
   unfold spec_GoodConfig.j2
   repeat' first
   | (with_reducible exact ih0 _ _ _ _)
   | (with_reducible exact ih1 _ _ _ _ _ _)
   | (with_reducible exact ih2 _ _ _ _ _ _ _ _ _)
   | (with_reducible exact ih3 _ _ _ _ _ _ _ _ _)
   | (with_reducible exact spec_l16Rising.mono _ _ _)
   | (with_reducible exact spec_l1Has.mono _ _ _)
   | (with_reducible exact LeO.refl _)
   | (with_reducible exact LeO.none _)
   | (with_reducible refine LeO.ite ?_ ?_)
   | (with_reducible refine LeO.bind ?_ (fun _ => ?_))
   | exact ih0 _ _ _ _
   | exact ih1 _ _ _ _ _ _
   | exact ih2 _ _ _ _ _ _ _ _ _
   | exact ih3 _ _ _ _ _ _ _ _ _
   | exact spec_l16Rising.mono _ _ _
   | exact spec_l1Has.mono _ _ _
   | exact LeO.none _
   | refine LeO.ite ?_ ?_
   | refine LeO.bind ?_ (fun _ => ?_)
  ·intro y0 y1 y2 y3 y4 y5 y6 y7 y8
   unfold spec_GoodConfig.l1
   repeat' first
   | (with_reducible exact ih0 _ _ _ _)
   | (with_reducible exact ih1 _ _ _ _ _ _)
   | (with_reducible exact ih2 _ _ _ _ _ _ _ _ _)
   | (with_reducible exact ih3 _ _ _ _ _ _ _ _ _)
   | (with_reducible exact spec_l16Rising.mono _ _ _)
   | (with_reducible exact spec_l1Has.mono _ _ _)
   | (with_reducible exact LeO.refl _)
   | (with_reducible exact LeO.none _)
   | (with_reducible refine LeO.ite ?_ ?_)
   | (with_reducible refine LeO.bind ?_ (fun _ => ?_))
   | exact ih0 _ _ _ _
   | exact ih1 _ _ _ _ _ _
   | exact ih2 _ _ _ _ _ _ _ _ _
   | exact ih3 _ _ _ _ _ _ _ _ _
   | exact spec_l16Rising.mono _ _ _
   | exact spec_l1Has.mono _ _ _
   | exact LeO.none _
   | refine LeO.ite ?_ ?_
   | refine LeO.bind ?_ (fun _ => ?_)
theorem spec_GoodConfig.mono : ∀ a0 a1 a2 k, LeO (spec_GoodConfig.f k a0 a1 a2) (spec_GoodConfig.f (k + 1) a0 a1 a2) := by
 intro a0 a1 a2 k
 obtain ⟨ih0, ih1, ih2, ih3⟩ := spec_GoodConfig.mono_l k
 unfold spec_GoodConfig.f
 repeat' first
   | (with_reducible exact ih0 _ _ _ _)
   | (with_reducible exact ih1 _ _ _ _ _ _)
   | (with_reducible exact ih2 _ _ _ _ _ _ _ _ _)
   | (with_reducible exact ih3 _ _ _ _ _ _ _ _ _)
   | (with_reducible exact spec_l16Rising.mono _ _ _)
   | (with_reducible exact spec_l1Has.mono _ _ _)
   | (with_reducible exact LeO.refl _)
   | (with_reducible exact LeO.none _)
   | (with_reducible refine LeO.ite ?_ ?_)
   | (with_reducible refine LeO.bind ?_ (fun _ => ?_))
   | exact ih0 _ _ _ _
   | exact ih1 _ _ _ _ _ _
   | exact ih2 _ _ _ _ _ _ _ _ _
   | exact ih3 _ _ _ _ _ _ _ _ _
   | exact spec_l16Rising.mono _ _ _
   | exact spec_l1Has.mono _ _ _
   | exact LeO.none _
   | refine LeO.ite ?_ ?_
   | refine LeO.bind ?_ (fun _ => ?_)
set_option maxHeartbeats 8000000 in
set_option maxRecDepth 100000 in
theorem spec_GoodConfig.calls (k : Nat) (a0_0 : Int) (A0_1 : Option Addr) (c0_1 : Nat) (l0_1 : List Int) (A0_2 : Option Addr) (c0_2 : Nat) (l0_2 : List (S80)) (r : Bool) (w : World) (hr0_1 : Kd.C (Kd.int .i64) w A0_1 l0_1.length l0_1) (hc0_1 : l0_1.length ≤ c0_1) (hr0_2 : Kd.C k80 w A0_2 l0_2.length l0_2) (hc0_2 : l0_2.length ≤ c0_2) (h : spec_GoodConfig.f k a0_0 l0_1 l0_2 = some r) :
  Calls Try.prog 30 #[.agg #[.int .i64 a0_0, .slice A0_1 l0_1.length c0_1, .slice A0_2 l0_2.length c0_2]] w fun e w' => e = .returned (.bool r) ∧ Below w.heap.size w w' := by
 have hu52 := Try.underlying52
 have hu80 := Try.underlying80
 have HR0_1 := Aside0.mk hr0_1
 have HC0_1 := Aside0.mk hc0_1
 clear hr0_1 hc0_1
 have HR0_2 := Aside0.mk hr0_2
 have HC0_2 := Aside0.mk hc0_2
 clear hr0_2 hc0_2
 have HB := Aside0.mk (Below.refl w.heap.size w)
 have H : ((spec_l1In.f a0_0 1 1000000).bind fun t156 => (if t156 = true then ((spec_l16Rising.f k l0_1 12).bind fun t157 => (if t157 = true then ((spec_l1In.f (l0_2.length : Int) 1 8).bind fun t158 => (spec_GoodConfig.j0 k (!t158) a0_0 l0_1 l0_2)) else (spec_GoodConfig.j0 k true a0_0 l0_1 l0_2))) else (spec_GoodConfig.j0 k true a0_0 l0_1 l0_2))) = some r := h
 clear h
 have HC2 := Aside0.mk H
 clear H
 go_enter Try.func30, Try.ntmps30
 go_upto_region 1 with (first | ((with_reducible refine gate_dst (N := 1) rfl ?_); (try (refine gate_guard (by rfl) ?_; dsimp only)); refine box_event ?hg (N := 1) ?hd (cs := #[.int .i64 a0_0, .slice A0_1 l0_1.length c0_1, .slice A0_2 l0_2.length c0_2]) (t := 52) ?hr ?_; (case hd => rfl); (case hg => rfl); (case hr => first | (go_simp; done) | (go_simp; rfl)); intro gb155 hg w3 hbox hb; have n0_ := Aside0.mk (below_step (by repeat (first | (with_reducible first | exact HB.out | apply below_alloc | apply pw_below_drewN | apply below_drew1) | exact HB.out)) hb); have n1_ := Aside0.mk (hbox); have n2_ := Aside0.mk ((by rw [hg]; exact (below_size (by repeat (first | (with_reducible first | exact HB.out | apply below_alloc | apply pw_below_drewN | apply below_drew1) | exact HB.out))) : w.heap.size ≤ gb155)); have n3_ := Aside0.mk ((by rw [hg]; exact (below_size (by repeat (first | (with_reducible first | exact HB.out | apply below_alloc | apply pw_below_drewN | apply below_drew1) | exact HB.out))) : w.heap.size ≤ gb155)); clear HB; have HB := n0_; have BK155 := n1_; have GW155 := n2_; have GE155 := n3_; clear n0_ n1_ n2_ n3_; clear hb hbox hg))
 (try simp only [Act.put, List.setIfInBounds_toArray, List.set_cons_zero, List.set_cons_succ])
 go_cut [23] (fun v23 wc => ∃ (kq : Nat) (x23_1 : Bool), v23 = .bool x23_1 ∧ Aside0 (spec_GoodConfig.j0 kq x23_1 a0_0 l0_1 l0_2 = some r) ∧ Aside0 (kq ≤ k) ∧ Aside0 (wc.heap[gb155]? = some (.cells #[.int .i64 a0_0, (.slice A0_1 l0_1.length c0_1), (.slice A0_2 l0_2.length c0_2)] 52 (0, 0))) ∧ Aside0 (Below w.heap.size w wc))
 case first =>
  have H := HC2.out
  clear HC2
  replace H := Option.bind_eq_some_iff.mp H
  obtain ⟨t156, A40, H⟩ := H
  replace H : (if t156 = true then ((spec_l16Rising.f k l0_1 12).bind fun t157 => (if t157 = true then ((spec_l1In.f (l0_2.length : Int) 1 8).bind fun t158 => (spec_GoodConfig.j0 k (!t158) a0_0 l0_1 l0_2)) else (spec_GoodConfig.j0 k true a0_0 l0_1 l0_2))) else (spec_GoodConfig.j0 k true a0_0 l0_1 l0_2)) = some r := H
  have A4 := Aside0.mk A40
  clear A40
  by_cases c5 : t156 = true
  rotate_left
  ·replace c5 := Bool.eq_false_iff.mpr c5
   subst c5
   have H1 : (spec_GoodConfig.j0 k true a0_0 l0_1 l0_2) = some r := by rw [if_neg (show ¬ (false = true) by decide)] at H; exact H
   clear H
   have H := H1
   clear H1
   have H' := Aside0.mk H
   clear H
   have hcz11_0 : w3.cell? ⟨gb155, 0, none⟩ = some (.int .i64 a0_0) := (blk_cell BK155.out 0).trans rfl
   have hcz11_1 : w3.cell? ⟨gb155, 1, none⟩ = some (.slice A0_1 l0_1.length c0_1) := (blk_cell BK155.out 1).trans rfl
   have hcz11_2 : w3.cell? ⟨gb155, 2, none⟩ = some (.slice A0_2 l0_2.length c0_2) := (blk_cell BK155.out 2).trans rfl
   have hfz11_0 := blk_frozen BK155.out 0
   have hfz11_1 := blk_frozen BK155.out 1
   have hfz11_2 := blk_frozen BK155.out 2
   go_wp2_with (first | ((with_reducible refine gate_callee (f := 41) rfl ?_); refine goesL_ (some 9) rfl rfl Try.func41 (by kernel_rfl) rfl #[.int .i64 a0_0, .int .i64 1, .int .i64 1000000] rfl (by (try simp only [List.map_toArray, List.map_cons, List.map_nil]); first | done | rfl | (simp only [List.length_drop, List.length_take]; rfl)) ?_; (with_reducible refine (spec_l1In.calls a0_0 1 1000000 false _ A4.out).mono ?_); rintro e w' ⟨rfl, ⟨nd, rfl⟩⟩; refine ⟨_, rfl, ?_⟩))
   go_meet
   case rel => exact ⟨_, (true), (by first | rfl | (simp; done) | (simp [*]; done)), H', ⟨by first | omega | exact Nat.le_refl _⟩, ⟨by (with_reducible repeat (first | refine blk_drewN ?_ _ | refine blk_drew ?_ | refine blk_alloc ?_ _)); exact BK155.out⟩, ⟨by repeat (first | (with_reducible first | exact HB.out | apply below_alloc | apply pw_below_drewN | apply below_drew1 | refine below_set ?_ GE155.out) | exact HB.out)⟩⟩
  subst c5
  have H1 : ((spec_l16Rising.f k l0_1 12).bind fun t157 => (if t157 = true then ((spec_l1In.f (l0_2.length : Int) 1 8).bind fun t158 => (spec_GoodConfig.j0 k (!t158) a0_0 l0_1 l0_2)) else (spec_GoodConfig.j0 k true a0_0 l0_1 l0_2))) = some r := by rw [if_pos rfl] at H; exact H
  clear H
  have H := H1
  clear H1
  replace H := Option.bind_eq_some_iff.mp H
  obtain ⟨t157, A60, H⟩ := H
  replace H : (if t157 = true then ((spec_l1In.f (l0_2.length : Int) 1 8).bind fun t158 => (spec_GoodConfig.j0 k (!t158) a0_0 l0_1 l0_2)) else (spec_GoodConfig.j0 k true a0_0 l0_1 l0_2)) = some r := H
  have A6 := Aside0.mk A60
  clear A60
  by_cases c7 : t157 = true
  rotate_left
  ·replace c7 := Bool.eq_false_iff.mpr c7
   subst c7
   have H1 : (spec_GoodConfig.j0 k true a0_0 l0_1 l0_2) = some r := by rw [if_neg (show ¬ (false = true) by decide)] at H; exact H
   clear H
   have H := H1
   clear H1
   have H' := Aside0.mk H
   clear H
   have hcz10_0 : w3.cell? ⟨gb155, 0, none⟩ = some (.int .i64 a0_0) := (blk_cell BK155.out 0).trans rfl
   have hcz10_1 : w3.cell? ⟨gb155, 1, none⟩ = some (.slice A0_1 l0_1.length c0_1) := (blk_cell BK155.out 1).trans rfl
   have hcz10_2 : w3.cell? ⟨gb155, 2, none⟩ = some (.slice A0_2 l0_2.length c0_2) := (blk_cell BK155.out 2).trans rfl
   have hfz10_0 := blk_frozen BK155.out 0
   have hfz10_1 := blk_frozen BK155.out 1
   have hfz10_2 := blk_frozen BK155.out 2
   go_wp2_with (first | ((with_reducible refine gate_callee (f := 41) rfl ?_); refine goesL_ (some 9) rfl rfl Try.func41 (by kernel_rfl) rfl #[.int .i64 a0_0, .int .i64 1, .int .i64 1000000] rfl (by (try simp only [List.map_toArray, List.map_cons, List.map_nil]); first | done | rfl | (simp only [List.length_drop, List.length_take]; rfl)) ?_; (with_reducible refine (spec_l1In.calls a0_0 1 1000000 true _ A4.out).mono ?_); rintro e w' ⟨rfl, ⟨nd, rfl⟩⟩; refine ⟨_, rfl, ?_⟩) | (go_at_call 56; (with_reducible refine (spec_l16Rising.calls k _ _ l0_1 12 false _ ?side1 ?side2 A6.out).mono ?_); (case side1 => repeat (first | exact (Kd.C_below HR0_1.out (by repeat (first | (with_reducible first | exact HB.out | apply below_alloc | apply pw_below_drewN | apply below_drew1 | refine below_set ?_ GE155.out) | exact HB.out))) | (with_reducible refine Kd.C_alloc ?_ _) | (with_reducible refine Kd.C_drewN ?_ _) | (with_reducible refine Kd.C_drew ?_))); (case side2 => exact HC0_1.out); rintro e w' ⟨rfl, ⟨nd, rfl⟩⟩))
   go_meet
   case rel => exact ⟨_, (true), (by first | rfl | (simp; done) | (simp [*]; done)), H', ⟨by first | omega | exact Nat.le_refl _⟩, ⟨by (with_reducible repeat (first | refine blk_drewN ?_ _ | refine blk_drew ?_ | refine blk_alloc ?_ _)); exact BK155.out⟩, ⟨by repeat (first | (with_reducible first | exact HB.out | apply below_alloc | apply pw_below_drewN | apply below_drew1 | refine below_set ?_ GE155.out) | exact HB.out)⟩⟩
  subst c7
  have H1 : ((spec_l1In.f (l0_2.length : Int) 1 8).bind fun t158 => (spec_GoodConfig.j0 k (!t158) a0_0 l0_1 l0_2)) = some r := by rw [if_pos rfl] at H; exact H
  clear H
  have H := H1
  clear H1
  replace H := Option.bind_eq_some_iff.mp H
  obtain ⟨t158, A80, H⟩ := H
  replace H : (spec_GoodConfig.j0 k (!t158) a0_0 l0_1 l0_2) = some r := H
  have A8 := Aside0.mk A80
  clear A80
  have H' := Aside0.mk H
  clear H
  have hcz9_0 : w3.cell? ⟨gb155, 0, none⟩ = some (.int .i64 a0_0) := (blk_cell BK155.out 0).trans rfl
  have hcz9_1 : w3.cell? ⟨gb155, 1, none⟩ = some (.slice A0_1 l0_1.length c0_1) := (blk_cell BK155.out 1).trans rfl
  have hcz9_2 : w3.cell? ⟨gb155, 2, none⟩ = some (.slice A0_2 l0_2.length c0_2) := (blk_cell BK155.out 2).trans rfl
  have hfz9_0 := blk_frozen BK155.out 0
  have hfz9_1 := blk_frozen BK155.out 1
  have hfz9_2 := blk_frozen BK155.out 2
  go_wp2_with (first | ((with_reducible refine gate_callee (f := 41) rfl ?_); refine goesL_ (some 9) rfl rfl Try.func41 (by kernel_rfl) rfl #[.int .i64 a0_0, .int .i64 1, .int .i64 1000000] rfl (by (try simp only [List.map_toArray, List.map_cons, List.map_nil]); first | done | rfl | (simp only [List.length_drop, List.length_take]; rfl)) ?_; (with_reducible refine (spec_l1In.calls a0_0 1 1000000 true _ A4.out).mono ?_); rintro e w' ⟨rfl, ⟨nd, rfl⟩⟩; refine ⟨_, rfl, ?_⟩) | (go_at_call 56; (with_reducible refine (spec_l16Rising.calls k _ _ l0_1 12 true _ ?side1 ?side2 A6.out).mono ?_); (case side1 => repeat (first | exact (Kd.C_below HR0_1.out (by repeat (first | (with_reducible first | exact HB.out | apply below_alloc | apply pw_below_drewN | apply below_drew1 | refine below_set ?_ GE155.out) | exact HB.out))) | (with_reducible refine Kd.C_alloc ?_ _) | (with_reducible refine Kd.C_drewN ?_ _) | (with_reducible refine Kd.C_drew ?_))); (case side2 => exact HC0_1.out); rintro e w' ⟨rfl, ⟨nd, rfl⟩⟩) | (go_at_call 41; (with_reducible refine (spec_l1In.calls (l0_2.length : Int) 1 8 t158 _ A8.out).mono ?_); rintro e w' ⟨rfl, ⟨nd, rfl⟩⟩))
  go_meet
  case rel => exact ⟨_, (!t158), (by first | rfl | (simp; done) | (simp [*]; done)), H', ⟨by first | omega | exact Nat.le_refl _⟩, ⟨by (with_reducible repeat (first | refine blk_drewN ?_ _ | refine blk_drew ?_ | refine blk_alloc ?_ _)); exact BK155.out⟩, ⟨by repeat (first | (with_reducible first | exact HB.out | apply below_alloc | apply pw_below_drewN | apply below_drew1 | refine below_set ?_ GE155.out) | exact HB.out)⟩⟩
 clear HC2
 try clear p2
 try clear c3
 try clear c4
 try clear c5
 try clear c7
 try clear hcz10_0
 try clear hcz10_1
 try clear hcz10_2
 try clear hcz11_0
 try clear hcz11_1
 try clear hcz11_2
 try clear hcz9_0
 try clear hcz9_1
 try clear hcz9_2
 try clear hfz10_0
 try clear hfz10_1
 try clear hfz10_2
 try clear hfz11_0
 try clear hfz11_1
 try clear hfz11_2
 try clear hfz9_0
 try clear hfz9_1
 try clear hfz9_2
 obtain ⟨kq, x23_1, rfl, HA, HJ1, BK155, HB⟩ := hcut
 cases kq with
 | zero => exact absurd HA.out (by simp [spec_GoodConfig.j0])
 | succ kj1 => ?_
 have H := HA.out
 clear HA
 simp only [spec_GoodConfig.j0] at H
 by_cases c12 : x23_1 = true
 ·subst c12
  have H1 : (some false) = some r := by rw [if_pos rfl] at H; exact H
  clear H
  have H := H1
  clear H1
  obtain rfl := Option.some.inj H
  go_wp2
  go_ret
  exact ⟨by first | rfl | (simp [errW_none, errW_some] <;> rfl) | (simp [*, errW_none, errW_some] <;> rfl), by repeat (first | (with_reducible first | exact HB.out | apply below_alloc | apply pw_below_drewN | apply below_drew1 | refine below_set ?_ GE155.out) | exact HB.out)⟩
 replace c12 := Bool.eq_false_iff.mpr c12
 subst c12
 have H1 : (spec_GoodConfig.l0 kj1 l0_2 (l0_2.length : Int) 0 a0_0 l0_1 l0_2) = some r := by rw [if_neg (show ¬ (false = true) by decide)] at H; exact H
 clear H
 have H := H1
 clear H1
 have H' := Aside0.mk H
 clear H
 have hcz13_0 : wc.cell? ⟨gb155, 0, none⟩ = some (.int .i64 a0_0) := (blk_cell BK155.out 0).trans rfl
 have hcz13_1 : wc.cell? ⟨gb155, 1, none⟩ = some (.slice A0_1 l0_1.length c0_1) := (blk_cell BK155.out 1).trans rfl
 have hcz13_2 : wc.cell? ⟨gb155, 2, none⟩ = some (.slice A0_2 l0_2.length c0_2) := (blk_cell BK155.out 2).trans rfl
 have hfz13_0 := blk_frozen BK155.out 0
 have hfz13_1 := blk_frozen BK155.out 1
 have hfz13_2 := blk_frozen BK155.out 2
 go_wp2
 go_loopg [27] kj1 (fun kq v27 w' => ∃ (x27_2 : Int), v27 = .int .i64 x27_2 ∧ Aside0 (spec_GoodConfig.l0 kq l0_2 (l0_2.length : Int) x27_2 a0_0 l0_1 l0_2 = some r) ∧ Aside0 (kq ≤ kj1) ∧ Aside0 (w'.heap[gb155]? = some (.cells #[.int .i64 a0_0, (.slice A0_1 l0_1.length c0_1), (.slice A0_2 l0_2.length c0_2)] 52 (0, 0))) ∧ Aside0 (Below w.heap.size w w'))
 case atStart => exact ⟨(0), (by first | rfl | (simp; done) | (simp [*]; done)), H', ⟨Nat.le_refl _⟩, ⟨by (with_reducible repeat (first | refine blk_drewN ?_ _ | refine blk_drew ?_ | refine blk_alloc ?_ _)); exact BK155.out⟩, ⟨by repeat (first | (with_reducible first | exact HB.out | apply below_alloc | apply pw_below_drewN | apply below_drew1 | refine below_set ?_ GE155.out) | exact HB.out)⟩⟩
 clear H'
 try clear c1
 try clear p2
 try clear c3
 try clear c4
 try clear c5
 try clear c7
 try clear c12
 try clear hcz10_0
 try clear hcz10_1
 try clear hcz10_2
 try clear hcz11_0
 try clear hcz11_1
 try clear hcz11_2
 try clear hcz13_0
 try clear hcz13_1
 try clear hcz13_2
 try clear hcz9_0
 try clear hcz9_1
 try clear hcz9_2
 try clear hfz10_0
 try clear hfz10_1
 try clear hfz10_2
 try clear hfz11_0
 try clear hfz11_1
 try clear hfz11_2
 try clear hfz13_0
 try clear hfz13_1
 try clear hfz13_2
 try clear hfz9_0
 try clear hfz9_1
 try clear hfz9_2
 try clear p2
 obtain ⟨x27_2, rfl, HA, HK2, BK155, HB⟩ := hrel
 cases gk with
 | zero => exact absurd HA.out (by simp [spec_GoodConfig.l0])
 | succ k2 => ?_
 have H := HA.out
 clear HA
 simp only [spec_GoodConfig.l0] at H
 by_cases c14 : x27_2 < (l0_2.length : Int)
 rotate_left
 ·rw [if_neg c14] at H
  have c14b0 : decide (x27_2 < (l0_2.length : Int)) = false := decide_eq_false c14
  clear c14
  obtain rfl := Option.some.inj H
  go_wp2
  go_ret
  exact ⟨by first | rfl | (simp [errW_none, errW_some] <;> rfl) | (simp [*, errW_none, errW_some] <;> rfl), by repeat (first | (with_reducible first | exact HB.out | apply below_alloc | apply pw_below_drewN | apply below_drew1 | refine below_set ?_ GE155.out) | exact HB.out)⟩
 rw [if_pos c14] at H
 have c14b0 : decide (x27_2 < (l0_2.length : Int)) = true := decide_eq_true c14
 clear c14
 by_cases c15 : 0 ≤ x27_2
 rotate_left
 ·rw [if_neg c15] at H
  exact absurd H (by simp)
 rw [if_pos c15] at H
 have c15b0 : decide (0 ≤ x27_2) = true := decide_eq_true c15
 clear c15
 by_cases c16 : x27_2 < (l0_2.length : Int)
 rotate_left
 ·rw [if_neg c16] at H
  exact absurd H (by simp)
 rw [if_pos c16] at H
 have c16b0 : decide (x27_2 < (l0_2.length : Int)) = true := decide_eq_true c16
 clear c16
 have HC17 := Aside0.mk H
 clear H
 have p159 : 0 ≤ (x27_2 : Int) := of_decide_eq_true (by first | (with_reducible assumption) | assumption)
 have q159 : x27_2 < (l0_2.length : Int) := of_decide_eq_true (by first | (with_reducible assumption) | assumption)
 obtain ⟨ad159, A159_1, c159_1, e159, hx159_0, hx159_1, hl159_1, hi159_1⟩ := at_T80 HR0_2.out x27_2 p159 q159
 cases e159
 replace hx159_0 := (HB.out.cell (World.block_lt_of_cell? w _ hx159_0)).trans hx159_0
 replace hx159_1 := (HB.out.cell (World.block_lt_of_cell? w _ hx159_1)).trans hx159_1
 have HR159_1 := Aside0.mk hi159_1
 have HC159_1 := Aside0.mk hl159_1
 clear hi159_1 hl159_1
 replace p159 := eq_true p159
 replace q159 := eq_true q159
 go_upto_region 6 with (first | ((with_reducible refine gate_dst (N := 4) rfl ?_); (try (refine gate_guard (by rfl) ?_; dsimp only)); refine box_event ?hg (N := 4) ?hd (cs := #[.int .i64 0, .slice none 0 0]) (t := 80) ?hr ?_; (case hd => rfl); (case hg => rfl); (case hr => first | (go_simp; done) | (go_simp; rfl)); intro gb160 hg w18 hbox hb; have n0_ := Aside0.mk (blk_below (g := gb155) (o := .cells #[.int .i64 a0_0, .slice A0_1 l0_1.length c0_1, .slice (some ad159) l0_2.length c0_2] 52 (0, 0)) (by (with_reducible repeat (first | refine blk_drewN ?_ _ | refine blk_drew ?_ | refine blk_alloc ?_ _)); exact BK155.out) hb); have n1_ := Aside0.mk (below_step (by repeat (first | (with_reducible first | exact HB.out | apply below_alloc | apply pw_below_drewN | apply below_drew1 | refine below_set ?_ GE155.out) | exact HB.out)) hb); have n2_ := Aside0.mk (hbox); have n3_ := Aside0.mk ((by rw [hg]; exact (below_size (by repeat (first | (with_reducible first | exact HB.out | apply below_alloc | apply pw_below_drewN | apply below_drew1 | refine below_set ?_ GE155.out) | exact HB.out))) : w.heap.size ≤ gb160)); have n4_ := Aside0.mk ((by rw [hg]; exact (below_size (by repeat (first | (with_reducible first | exact HB.out | apply below_alloc | apply pw_below_drewN | apply below_drew1 | refine below_set ?_ GE155.out) | exact HB.out))) : w.heap.size ≤ gb160)); have n5_ := Aside0.mk ((by rw [hg]; exact Nat.ne_of_lt (blk_lt (g := gb155) (o := .cells #[.int .i64 a0_0, .slice A0_1 l0_1.length c0_1, .slice (some ad159) l0_2.length c0_2] 52 (0, 0)) (by (with_reducible repeat (first | refine blk_drewN ?_ _ | refine blk_drew ?_ | refine blk_alloc ?_ _)); exact BK155.out)) : gb155 ≠ gb160)); have n6_ := Aside0.mk ((by rw [hg]; exact Nat.ne_of_gt (blk_lt (g := gb155) (o := .cells #[.int .i64 a0_0, .slice A0_1 l0_1.length c0_1, .slice (some ad159) l0_2.length c0_2] 52 (0, 0)) (by (with_reducible repeat (first | refine blk_drewN ?_ _ | refine blk_drew ?_ | refine blk_alloc ?_ _)); exact BK155.out)) : gb160 ≠ gb155)); clear BK155; clear HB; have BK155 := n0_; have HB := n1_; have BK160 := n2_; have GW160 := n3_; have GE160 := n4_; have NB155_160 := n5_; have NB160_155 := n6_; clear n0_ n1_ n2_ n3_ n4_ n5_ n6_; clear hb hbox hg; have hnb19 := NB160_155.out; have hnc19 := NB155_160.out; have hcz20_0 : w18.cell? ⟨gb160, 0, none⟩ = some (.int .i64 0) := (blk_cell BK160.out 0).trans rfl; have hcz20_1 : w18.cell? ⟨gb160, 1, none⟩ = some (.slice none 0 0) := (blk_cell BK160.out 1).trans rfl; have hfz20_0 := blk_frozen BK160.out 0; have hfz20_1 := blk_frozen BK160.out 1))
 (try simp only [Act.put, List.setIfInBounds_toArray, List.set_cons_zero, List.set_cons_succ])
 go_cut [65] (fun v65 wc => ∃ (kq : Nat) (x65_16 : Bool), v65 = .bool x65_16 ∧ Aside0 (spec_GoodConfig.j2 kq l0_2 (l0_2.length : Int) x27_2 x65_16 a0_0 l0_1 l0_2 ((rd_T80 l0_2 x27_2).f0) ((rd_T80 l0_2 x27_2).f1) = some r) ∧ Aside0 (kq ≤ k2) ∧ Aside0 (wc.heap[gb155]? = some (.cells #[.int .i64 a0_0, (.slice A0_1 l0_1.length c0_1), (.slice (some ad159) l0_2.length c0_2)] 52 (0, 0))) ∧ Aside0 (wc.heap[gb160]? = some (.cells #[.int .i64 ((rd_T80 l0_2 x27_2).f0), (.slice A159_1 ((rd_T80 l0_2 x27_2).f1).length c159_1)] 80 (0, 0))) ∧ Aside0 (Below w.heap.size w wc))
 case first =>
  have H := HC17.out
  clear HC17
  replace H := Option.bind_eq_some_iff.mp H
  obtain ⟨t161, A210, H⟩ := H
  replace H : (if t161 = true then ((spec_l16Rising.f k2 ((rd_T80 l0_2 x27_2).f1) 11).bind fun t162 => (if t162 = true then ((spec_l1Has.f k2 ((rd_T80 l0_2 x27_2).f1) ((rd_T80 l0_2 x27_2).f0)).bind fun t163 => (if t163 = true then (spec_GoodConfig.j2 k2 l0_2 (l0_2.length : Int) x27_2 true a0_0 l0_1 l0_2 ((rd_T80 l0_2 x27_2).f0) ((rd_T80 l0_2 x27_2).f1)) else ((spec_l1Has.f k2 l0_1 ((rd_T80 l0_2 x27_2).f0)).bind fun t164 => (if t164 = true then (spec_GoodConfig.j2 k2 l0_2 (l0_2.length : Int) x27_2 true a0_0 l0_1 l0_2 ((rd_T80 l0_2 x27_2).f0) ((rd_T80 l0_2 x27_2).f1)) else (if ((rd_T80 l0_2 x27_2).f0) = (-1) then (spec_GoodConfig.j2 k2 l0_2 (l0_2.length : Int) x27_2 (decide ((((rd_T80 l0_2 x27_2).f1).length : Int) > 0)) a0_0 l0_1 l0_2 ((rd_T80 l0_2 x27_2).f0) ((rd_T80 l0_2 x27_2).f1)) else (spec_GoodConfig.j2 k2 l0_2 (l0_2.length : Int) x27_2 false a0_0 l0_1 l0_2 ((rd_T80 l0_2 x27_2).f0) ((rd_T80 l0_2 x27_2).f1))))))) else (spec_GoodConfig.j2 k2 l0_2 (l0_2.length : Int) x27_2 true a0_0 l0_1 l0_2 ((rd_T80 l0_2 x27_2).f0) ((rd_T80 l0_2 x27_2).f1)))) else (spec_GoodConfig.j2 k2 l0_2 (l0_2.length : Int) x27_2 true a0_0 l0_1 l0_2 ((rd_T80 l0_2 x27_2).f0) ((rd_T80 l0_2 x27_2).f1))) = some r := H
  have A21 := Aside0.mk A210
  clear A210
  by_cases c22 : t161 = true
  rotate_left
  ·replace c22 := Bool.eq_false_iff.mpr c22
   subst c22
   have H1 : (spec_GoodConfig.j2 k2 l0_2 (l0_2.length : Int) x27_2 true a0_0 l0_1 l0_2 ((rd_T80 l0_2 x27_2).f0) ((rd_T80 l0_2 x27_2).f1)) = some r := by rw [if_neg (show ¬ (false = true) by decide)] at H; exact H
   clear H
   have H := H1
   clear H1
   have H' := Aside0.mk H
   clear H
   have hnb43 := NB160_155.out
   have hnc43 := NB155_160.out
   have hcz44_0 : w18.cell? ⟨gb160, 0, none⟩ = some (.int .i64 0) := (blk_cell BK160.out 0).trans rfl
   have hcz44_1 : w18.cell? ⟨gb160, 1, none⟩ = some (.slice none 0 0) := (blk_cell BK160.out 1).trans rfl
   have hfz44_0 := blk_frozen BK160.out 0
   have hfz44_1 := blk_frozen BK160.out 1
   go_wp2_with (first | ((with_reducible refine gate_callee (f := 41) rfl ?_); refine goesL_ (some 33) rfl rfl Try.func41 (by kernel_rfl) rfl #[.int .i64 ((rd_T80 l0_2 x27_2).f0), .int .i64 (-1), .int .i64 11] rfl (by (try simp only [List.map_toArray, List.map_cons, List.map_nil]); first | done | rfl | (simp only [List.length_drop, List.length_take]; rfl)) ?_; (with_reducible refine (spec_l1In.calls ((rd_T80 l0_2 x27_2).f0) (-1) 11 false _ A21.out).mono ?_); rintro e w' ⟨rfl, ⟨nd, rfl⟩⟩; refine ⟨_, rfl, ?_⟩))
   go_meet
   case rel => exact ⟨_, (true), (by first | rfl | (simp; done) | (simp [*]; done)), H', ⟨by have := HJ1.out; have := HK2.out; first | omega | exact Nat.le_refl _⟩, ⟨by (with_reducible repeat (first | refine blk_drewN ?_ _ | refine blk_drew ?_ | refine blk_alloc ?_ _)); refine blk_far ?_ NB155_160.out _; (with_reducible repeat (first | refine blk_drewN ?_ _ | refine blk_drew ?_ | refine blk_alloc ?_ _)); refine blk_far ?_ NB155_160.out _; (with_reducible repeat (first | refine blk_drewN ?_ _ | refine blk_drew ?_ | refine blk_alloc ?_ _)); exact BK155.out⟩, ⟨by (with_reducible repeat (first | refine blk_drewN ?_ _ | refine blk_drew ?_ | refine blk_alloc ?_ _)); refine blk_put (cs := #[.int .i64 ((rd_T80 l0_2 x27_2).f0), .slice none 0 0]) ?_ 1 _ rfl; (with_reducible repeat (first | refine blk_drewN ?_ _ | refine blk_drew ?_ | refine blk_alloc ?_ _)); refine blk_put (cs := #[.int .i64 0, .slice none 0 0]) ?_ 0 _ rfl; (with_reducible repeat (first | refine blk_drewN ?_ _ | refine blk_drew ?_ | refine blk_alloc ?_ _)); exact BK160.out⟩, ⟨by repeat (first | (with_reducible first | exact HB.out | apply below_alloc | apply pw_below_drewN | apply below_drew1 | refine below_set ?_ GE155.out | refine below_set ?_ GE160.out) | exact HB.out)⟩⟩
  subst c22
  have H1 : ((spec_l16Rising.f k2 ((rd_T80 l0_2 x27_2).f1) 11).bind fun t162 => (if t162 = true then ((spec_l1Has.f k2 ((rd_T80 l0_2 x27_2).f1) ((rd_T80 l0_2 x27_2).f0)).bind fun t163 => (if t163 = true then (spec_GoodConfig.j2 k2 l0_2 (l0_2.length : Int) x27_2 true a0_0 l0_1 l0_2 ((rd_T80 l0_2 x27_2).f0) ((rd_T80 l0_2 x27_2).f1)) else ((spec_l1Has.f k2 l0_1 ((rd_T80 l0_2 x27_2).f0)).bind fun t164 => (if t164 = true then (spec_GoodConfig.j2 k2 l0_2 (l0_2.length : Int) x27_2 true a0_0 l0_1 l0_2 ((rd_T80 l0_2 x27_2).f0) ((rd_T80 l0_2 x27_2).f1)) else (if ((rd_T80 l0_2 x27_2).f0) = (-1) then (spec_GoodConfig.j2 k2 l0_2 (l0_2.length : Int) x27_2 (decide ((((rd_T80 l0_2 x27_2).f1).length : Int) > 0)) a0_0 l0_1 l0_2 ((rd_T80 l0_2 x27_2).f0) ((rd_T80 l0_2 x27_2).f1)) else (spec_GoodConfig.j2 k2 l0_2 (l0_2.length : Int) x27_2 false a0_0 l0_1 l0_2 ((rd_T80 l0_2 x27_2).f0) ((rd_T80 l0_2 x27_2).f1))))))) else (spec_GoodConfig.j2 k2 l0_2 (l0_2.length : Int) x27_2 true a0_0 l0_1 l0_2 ((rd_T80 l0_2 x27_2).f0) ((rd_T80 l0_2 x27_2).f1)))) = some r := by rw [if_pos rfl] at H; exact H
  clear H
  have H := H1
  clear H1
  replace H := Option.bind_eq_some_iff.mp H
  obtain ⟨t162, A230, H⟩ := H
  replace H : (if t162 = true then ((spec_l1Has.f k2 ((rd_T80 l0_2 x27_2).f1) ((rd_T80 l0_2 x27_2).f0)).bind fun t163 => (if t163 = true then (spec_GoodConfig.j2 k2 l0_2 (l0_2.length : Int) x27_2 true a0_0 l0_1 l0_2 ((rd_T80 l0_2 x27_2).f0) ((rd_T80 l0_2 x27_2).f1)) else ((spec_l1Has.f k2 l0_1 ((rd_T80 l0_2 x27_2).f0)).bind fun t164 => (if t164 = true then (spec_GoodConfig.j2 k2 l0_2 (l0_2.length : Int) x27_2 true a0_0 l0_1 l0_2 ((rd_T80 l0_2 x27_2).f0) ((rd_T80 l0_2 x27_2).f1)) else (if ((rd_T80 l0_2 x27_2).f0) = (-1) then (spec_GoodConfig.j2 k2 l0_2 (l0_2.length : Int) x27_2 (decide ((((rd_T80 l0_2 x27_2).f1).length : Int) > 0)) a0_0 l0_1 l0_2 ((rd_T80 l0_2 x27_2).f0) ((rd_T80 l0_2 x27_2).f1)) else (spec_GoodConfig.j2 k2 l0_2 (l0_2.length : Int) x27_2 false a0_0 l0_1 l0_2 ((rd_T80 l0_2 x27_2).f0) ((rd_T80 l0_2 x27_2).f1))))))) else (spec_GoodConfig.j2 k2 l0_2 (l0_2.length : Int) x27_2 true a0_0 l0_1 l0_2 ((rd_T80 l0_2 x27_2).f0) ((rd_T80 l0_2 x27_2).f1))) = some r := H
  have A23 := Aside0.mk A230
  clear A230
  by_cases c24 : t162 = true
  rotate_left
  ·replace c24 := Bool.eq_false_iff.mpr c24
   subst c24
   have H1 : (spec_GoodConfig.j2 k2 l0_2 (l0_2.length : Int) x27_2 true a0_0 l0_1 l0_2 ((rd_T80 l0_2 x27_2).f0) ((rd_T80 l0_2 x27_2).f1)) = some r := by rw [if_neg (show ¬ (false = true) by decide)] at H; exact H
   clear H
   have H := H1
   clear H1
   have H' := Aside0.mk H
   clear H
   have hnb41 := NB160_155.out
   have hnc41 := NB155_160.out
   have hcz42_0 : w18.cell? ⟨gb160, 0, none⟩ = some (.int .i64 0) := (blk_cell BK160.out 0).trans rfl
   have hcz42_1 : w18.cell? ⟨gb160, 1, none⟩ = some (.slice none 0 0) := (blk_cell BK160.out 1).trans rfl
   have hfz42_0 := blk_frozen BK160.out 0
   have hfz42_1 := blk_frozen BK160.out 1
   go_wp2_with (first | ((with_reducible refine gate_callee (f := 41) rfl ?_); refine goesL_ (some 33) rfl rfl Try.func41 (by kernel_rfl) rfl #[.int .i64 ((rd_T80 l0_2 x27_2).f0), .int .i64 (-1), .int .i64 11] rfl (by (try simp only [List.map_toArray, List.map_cons, List.map_nil]); first | done | rfl | (simp only [List.length_drop, List.length_take]; rfl)) ?_; (with_reducible refine (spec_l1In.calls ((rd_T80 l0_2 x27_2).f0) (-1) 11 true _ A21.out).mono ?_); rintro e w' ⟨rfl, ⟨nd, rfl⟩⟩; refine ⟨_, rfl, ?_⟩) | (go_at_call 56; (with_reducible refine (spec_l16Rising.calls k2 _ _ ((rd_T80 l0_2 x27_2).f1) 11 false _ ?side1 ?side2 A23.out).mono ?_); (case side1 => exact Kd.C_below HR159_1.out (by repeat (first | (with_reducible first | exact HB.out | apply below_alloc | apply pw_below_drewN | apply below_drew1 | refine below_set ?_ GE155.out | refine below_set ?_ GE160.out) | exact HB.out))); (case side2 => exact HC159_1.out); rintro e w' ⟨rfl, ⟨nd, rfl⟩⟩))
   go_meet
   case rel => exact ⟨_, (true), (by first | rfl | (simp; done) | (simp [*]; done)), H', ⟨by have := HJ1.out; have := HK2.out; first | omega | exact Nat.le_refl _⟩, ⟨by (with_reducible repeat (first | refine blk_drewN ?_ _ | refine blk_drew ?_ | refine blk_alloc ?_ _)); refine blk_far ?_ NB155_160.out _; (with_reducible repeat (first | refine blk_drewN ?_ _ | refine blk_drew ?_ | refine blk_alloc ?_ _)); refine blk_far ?_ NB155_160.out _; (with_reducible repeat (first | refine blk_drewN ?_ _ | refine blk_drew ?_ | refine blk_alloc ?_ _)); exact BK155.out⟩, ⟨by (with_reducible repeat (first | refine blk_drewN ?_ _ | refine blk_drew ?_ | refine blk_alloc ?_ _)); refine blk_put (cs := #[.int .i64 ((rd_T80 l0_2 x27_2).f0), .slice none 0 0]) ?_ 1 _ rfl; (with_reducible repeat (first | refine blk_drewN ?_ _ | refine blk_drew ?_ | refine blk_alloc ?_ _)); refine blk_put (cs := #[.int .i64 0, .slice none 0 0]) ?_ 0 _ rfl; (with_reducible repeat (first | refine blk_drewN ?_ _ | refine blk_drew ?_ | refine blk_alloc ?_ _)); exact BK160.out⟩, ⟨by repeat (first | (with_reducible first | exact HB.out | apply below_alloc | apply pw_below_drewN | apply below_drew1 | refine below_set ?_ GE155.out | refine below_set ?_ GE160.out) | exact HB.out)⟩⟩
  subst c24
  have H1 : ((spec_l1Has.f k2 ((rd_T80 l0_2 x27_2).f1) ((rd_T80 l0_2 x27_2).f0)).bind fun t163 => (if t163 = true then (spec_GoodConfig.j2 k2 l0_2 (l0_2.length : Int) x27_2 true a0_0 l0_1 l0_2 ((rd_T80 l0_2 x27_2).f0) ((rd_T80 l0_2 x27_2).f1)) else ((spec_l1Has.f k2 l0_1 ((rd_T80 l0_2 x27_2).f0)).bind fun t164 => (if t164 = true then (spec_GoodConfig.j2 k2 l0_2 (l0_2.length : Int) x27_2 true a0_0 l0_1 l0_2 ((rd_T80 l0_2 x27_2).f0) ((rd_T80 l0_2 x27_2).f1)) else (if ((rd_T80 l0_2 x27_2).f0) = (-1) then (spec_GoodConfig.j2 k2 l0_2 (l0_2.length : Int) x27_2 (decide ((((rd_T80 l0_2 x27_2).f1).length : Int) > 0)) a0_0 l0_1 l0_2 ((rd_T80 l0_2 x27_2).f0) ((rd_T80 l0_2 x27_2).f1)) else (spec_GoodConfig.j2 k2 l0_2 (l0_2.length : Int) x27_2 false a0_0 l0_1 l0_2 ((rd_T80 l0_2 x27_2).f0) ((rd_T80 l0_2 x27_2).f1))))))) = some r := by rw [if_pos rfl] at H; exact H
  clear H
  have H := H1
  clear H1
  replace H := Option.bind_eq_some_iff.mp H
  obtain ⟨t163, A250, H⟩ := H
  replace H : (if t163 = true then (spec_GoodConfig.j2 k2 l0_2 (l0_2.length : Int) x27_2 true a0_0 l0_1 l0_2 ((rd_T80 l0_2 x27_2).f0) ((rd_T80 l0_2 x27_2).f1)) else ((spec_l1Has.f k2 l0_1 ((rd_T80 l0_2 x27_2).f0)).bind fun t164 => (if t164 = true then (spec_GoodConfig.j2 k2 l0_2 (l0_2.length : Int) x27_2 true a0_0 l0_1 l0_2 ((rd_T80 l0_2 x27_2).f0) ((rd_T80 l0_2 x27_2).f1)) else (if ((rd_T80 l0_2 x27_2).f0) = (-1) then (spec_GoodConfig.j2 k2 l0_2 (l0_2.length : Int) x27_2 (decide ((((rd_T80 l0_2 x27_2).f1).length : Int) > 0)) a0_0 l0_1 l0_2 ((rd_T80 l0_2 x27_2).f0) ((rd_T80 l0_2 x27_2).f1)) else (spec_GoodConfig.j2 k2 l0_2 (l0_2.length : Int) x27_2 false a0_0 l0_1 l0_2 ((rd_T80 l0_2 x27_2).f0) ((rd_T80 l0_2 x27_2).f1)))))) = some r := H
  have A25 := Aside0.mk A250
  clear A250
  by_cases c26 : t163 = true
  ·subst c26
   have H1 : (spec_GoodConfig.j2 k2 l0_2 (l0_2.length : Int) x27_2 true a0_0 l0_1 l0_2 ((rd_T80 l0_2 x27_2).f0) ((rd_T80 l0_2 x27_2).f1)) = some r := by rw [if_pos rfl] at H; exact H
   clear H
   have H := H1
   clear H1
   have H' := Aside0.mk H
   clear H
   have hnb27 := NB160_155.out
   have hnc27 := NB155_160.out
   have hcz28_0 : w18.cell? ⟨gb160, 0, none⟩ = some (.int .i64 0) := (blk_cell BK160.out 0).trans rfl
   have hcz28_1 : w18.cell? ⟨gb160, 1, none⟩ = some (.slice none 0 0) := (blk_cell BK160.out 1).trans rfl
   have hfz28_0 := blk_frozen BK160.out 0
   have hfz28_1 := blk_frozen BK160.out 1
   go_wp2_with (first | ((with_reducible refine gate_callee (f := 41) rfl ?_); refine goesL_ (some 33) rfl rfl Try.func41 (by kernel_rfl) rfl #[.int .i64 ((rd_T80 l0_2 x27_2).f0), .int .i64 (-1), .int .i64 11] rfl (by (try simp only [List.map_toArray, List.map_cons, List.map_nil]); first | done | rfl | (simp only [List.length_drop, List.length_take]; rfl)) ?_; (with_reducible refine (spec_l1In.calls ((rd_T80 l0_2 x27_2).f0) (-1) 11 true _ A21.out).mono ?_); rintro e w' ⟨rfl, ⟨nd, rfl⟩⟩; refine ⟨_, rfl, ?_⟩) | (go_at_call 56; (with_reducible refine (spec_l16Rising.calls k2 _ _ ((rd_T80 l0_2 x27_2).f1) 11 true _ ?side1 ?side2 A23.out).mono ?_); (case side1 => exact Kd.C_below HR159_1.out (by repeat (first | (with_reducible first | exact HB.out | apply below_alloc | apply pw_below_drewN | apply below_drew1 | refine below_set ?_ GE155.out | refine below_set ?_ GE160.out) | exact HB.out))); (case side2 => exact HC159_1.out); rintro e w' ⟨rfl, ⟨nd, rfl⟩⟩) | (go_at_call 57; (with_reducible refine (spec_l1Has.calls k2 _ _ ((rd_T80 l0_2 x27_2).f1) ((rd_T80 l0_2 x27_2).f0) true _ ?side1 ?side2 A25.out).mono ?_); (case side1 => exact Kd.C_below HR159_1.out (by repeat (first | (with_reducible first | exact HB.out | apply below_alloc | apply pw_below_drewN | apply below_drew1 | refine below_set ?_ GE155.out | refine below_set ?_ GE160.out) | exact HB.out))); (case side2 => exact HC159_1.out); rintro e w' ⟨rfl, ⟨nd, rfl⟩⟩))
   go_meet
   case rel => exact ⟨_, (true), (by first | rfl | (simp; done) | (simp [*]; done)), H', ⟨by have := HJ1.out; have := HK2.out; first | omega | exact Nat.le_refl _⟩, ⟨by (with_reducible repeat (first | refine blk_drewN ?_ _ | refine blk_drew ?_ | refine blk_alloc ?_ _)); refine blk_far ?_ NB155_160.out _; (with_reducible repeat (first | refine blk_drewN ?_ _ | refine blk_drew ?_ | refine blk_alloc ?_ _)); refine blk_far ?_ NB155_160.out _; (with_reducible repeat (first | refine blk_drewN ?_ _ | refine blk_drew ?_ | refine blk_alloc ?_ _)); exact BK155.out⟩, ⟨by (with_reducible repeat (first | refine blk_drewN ?_ _ | refine blk_drew ?_ | refine blk_alloc ?_ _)); refine blk_put (cs := #[.int .i64 ((rd_T80 l0_2 x27_2).f0), .slice none 0 0]) ?_ 1 _ rfl; (with_reducible repeat (first | refine blk_drewN ?_ _ | refine blk_drew ?_ | refine blk_alloc ?_ _)); refine blk_put (cs := #[.int .i64 0, .slice none 0 0]) ?_ 0 _ rfl; (with_reducible repeat (first | refine blk_drewN ?_ _ | refine blk_drew ?_ | refine blk_alloc ?_ _)); exact BK160.out⟩, ⟨by repeat (first | (with_reducible first | exact HB.out | apply below_alloc | apply pw_below_drewN | apply below_drew1 | refine below_set ?_ GE155.out | refine below_set ?_ GE160.out) | exact HB.out)⟩⟩
  replace c26 := Bool.eq_false_iff.mpr c26
  subst c26
  have H1 : ((spec_l1Has.f k2 l0_1 ((rd_T80 l0_2 x27_2).f0)).bind fun t164 => (if t164 = true then (spec_GoodConfig.j2 k2 l0_2 (l0_2.length : Int) x27_2 true a0_0 l0_1 l0_2 ((rd_T80 l0_2 x27_2).f0) ((rd_T80 l0_2 x27_2).f1)) else (if ((rd_T80 l0_2 x27_2).f0) = (-1) then (spec_GoodConfig.j2 k2 l0_2 (l0_2.length : Int) x27_2 (decide ((((rd_T80 l0_2 x27_2).f1).length : Int) > 0)) a0_0 l0_1 l0_2 ((rd_T80 l0_2 x27_2).f0) ((rd_T80 l0_2 x27_2).f1)) else (spec_GoodConfig.j2 k2 l0_2 (l0_2.length : Int) x27_2 false a0_0 l0_1 l0_2 ((rd_T80 l0_2 x27_2).f0) ((rd_T80 l0_2 x27_2).f1))))) = some r := by rw [if_neg (show ¬ (false = true) by decide)] at H; exact H
  clear H
  have H := H1
  clear H1
  replace H := Option.bind_eq_some_iff.mp H
  obtain ⟨t164, A290, H⟩ := H
  replace H : (if t164 = true then (spec_GoodConfig.j2 k2 l0_2 (l0_2.length : Int) x27_2 true a0_0 l0_1 l0_2 ((rd_T80 l0_2 x27_2).f0) ((rd_T80 l0_2 x27_2).f1)) else (if ((rd_T80 l0_2 x27_2).f0) = (-1) then (spec_GoodConfig.j2 k2 l0_2 (l0_2.length : Int) x27_2 (decide ((((rd_T80 l0_2 x27_2).f1).length : Int) > 0)) a0_0 l0_1 l0_2 ((rd_T80 l0_2 x27_2).f0) ((rd_T80 l0_2 x27_2).f1)) else (spec_GoodConfig.j2 k2 l0_2 (l0_2.length : Int) x27_2 false a0_0 l0_1 l0_2 ((rd_T80 l0_2 x27_2).f0) ((rd_T80 l0_2 x27_2).f1)))) = some r := H
  have A29 := Aside0.mk A290
  clear A290
  by_cases c30 : t164 = true
  ·subst c30
   have H1 : (spec_GoodConfig.j2 k2 l0_2 (l0_2.length : Int) x27_2 true a0_0 l0_1 l0_2 ((rd_T80 l0_2 x27_2).f0) ((rd_T80 l0_2 x27_2).f1)) = some r := by rw [if_pos rfl] at H; exact H
   clear H
   have H := H1
   clear H1
   have H' := Aside0.mk H
   clear H
   have hnb31 := NB160_155.out
   have hnc31 := NB155_160.out
   have hcz32_0 : w18.cell? ⟨gb160, 0, none⟩ = some (.int .i64 0) := (blk_cell BK160.out 0).trans rfl
   have hcz32_1 : w18.cell? ⟨gb160, 1, none⟩ = some (.slice none 0 0) := (blk_cell BK160.out 1).trans rfl
   have hfz32_0 := blk_frozen BK160.out 0
   have hfz32_1 := blk_frozen BK160.out 1
   go_wp2_with (first | ((with_reducible refine gate_callee (f := 41) rfl ?_); refine goesL_ (some 33) rfl rfl Try.func41 (by kernel_rfl) rfl #[.int .i64 ((rd_T80 l0_2 x27_2).f0), .int .i64 (-1), .int .i64 11] rfl (by (try simp only [List.map_toArray, List.map_cons, List.map_nil]); first | done | rfl | (simp only [List.length_drop, List.length_take]; rfl)) ?_; (with_reducible refine (spec_l1In.calls ((rd_T80 l0_2 x27_2).f0) (-1) 11 true _ A21.out).mono ?_); rintro e w' ⟨rfl, ⟨nd, rfl⟩⟩; refine ⟨_, rfl, ?_⟩) | (go_at_call 56; (with_reducible refine (spec_l16Rising.calls k2 _ _ ((rd_T80 l0_2 x27_2).f1) 11 true _ ?side1 ?side2 A23.out).mono ?_); (case side1 => exact Kd.C_below HR159_1.out (by repeat (first | (with_reducible first | exact HB.out | apply below_alloc | apply pw_below_drewN | apply below_drew1 | refine below_set ?_ GE155.out | refine below_set ?_ GE160.out) | exact HB.out))); (case side2 => exact HC159_1.out); rintro e w' ⟨rfl, ⟨nd, rfl⟩⟩) | (go_at_call 57; (with_reducible refine (spec_l1Has.calls k2 _ _ ((rd_T80 l0_2 x27_2).f1) ((rd_T80 l0_2 x27_2).f0) false _ ?side1 ?side2 A25.out).mono ?_); (case side1 => exact Kd.C_below HR159_1.out (by repeat (first | (with_reducible first | exact HB.out | apply below_alloc | apply pw_below_drewN | apply below_drew1 | refine below_set ?_ GE155.out | refine below_set ?_ GE160.out) | exact HB.out))); (case side2 => exact HC159_1.out); rintro e w' ⟨rfl, ⟨nd, rfl⟩⟩; have hcz33_0 : w18.cell? ⟨gb155, 0, none⟩ = some (.int .i64 a0_0) := (blk_cell BK155.out 0).trans rfl; have hcz33_1 : w18.cell? ⟨gb155, 1, none⟩ = some (.slice A0_1 l0_1.length c0_1) := (blk_cell BK155.out 1).trans rfl; have hcz33_2 : w18.cell? ⟨gb155, 2, none⟩ = some (.slice (some ad159) l0_2.length c0_2) := (blk_cell BK155.out 2).trans rfl; have hfz33_0 := blk_frozen BK155.out 0; have hfz33_1 := blk_frozen BK155.out 1; have hfz33_2 := blk_frozen BK155.out 2) | (go_at_call 57; (with_reducible refine (spec_l1Has.calls k2 _ _ l0_1 ((rd_T80 l0_2 x27_2).f0) true _ ?side1 ?side2 A29.out).mono ?_); (case side1 => exact Kd.C_below HR0_1.out (by repeat (first | (with_reducible first | exact HB.out | apply below_alloc | apply pw_below_drewN | apply below_drew1 | refine below_set ?_ GE155.out | refine below_set ?_ GE160.out) | exact HB.out))); (case side2 => exact HC0_1.out); rintro e w' ⟨rfl, ⟨nd, rfl⟩⟩))
   go_meet
   case rel => exact ⟨_, (true), (by first | rfl | (simp; done) | (simp [*]; done)), H', ⟨by have := HJ1.out; have := HK2.out; first | omega | exact Nat.le_refl _⟩, ⟨by (with_reducible repeat (first | refine blk_drewN ?_ _ | refine blk_drew ?_ | refine blk_alloc ?_ _)); refine blk_far ?_ NB155_160.out _; (with_reducible repeat (first | refine blk_drewN ?_ _ | refine blk_drew ?_ | refine blk_alloc ?_ _)); refine blk_far ?_ NB155_160.out _; (with_reducible repeat (first | refine blk_drewN ?_ _ | refine blk_drew ?_ | refine blk_alloc ?_ _)); exact BK155.out⟩, ⟨by (with_reducible repeat (first | refine blk_drewN ?_ _ | refine blk_drew ?_ | refine blk_alloc ?_ _)); refine blk_put (cs := #[.int .i64 ((rd_T80 l0_2 x27_2).f0), .slice none 0 0]) ?_ 1 _ rfl; (with_reducible repeat (first | refine blk_drewN ?_ _ | refine blk_drew ?_ | refine blk_alloc ?_ _)); refine blk_put (cs := #[.int .i64 0, .slice none 0 0]) ?_ 0 _ rfl; (with_reducible repeat (first | refine blk_drewN ?_ _ | refine blk_drew ?_ | refine blk_alloc ?_ _)); exact BK160.out⟩, ⟨by repeat (first | (with_reducible first | exact HB.out | apply below_alloc | apply pw_below_drewN | apply below_drew1 | refine below_set ?_ GE155.out | refine below_set ?_ GE160.out) | exact HB.out)⟩⟩
  replace c30 := Bool.eq_false_iff.mpr c30
  subst c30
  have H1 : (if ((rd_T80 l0_2 x27_2).f0) = (-1) then (spec_GoodConfig.j2 k2 l0_2 (l0_2.length : Int) x27_2 (decide ((((rd_T80 l0_2 x27_2).f1).length : Int) > 0)) a0_0 l0_1 l0_2 ((rd_T80 l0_2 x27_2).f0) ((rd_T80 l0_2 x27_2).f1)) else (spec_GoodConfig.j2 k2 l0_2 (l0_2.length : Int) x27_2 false a0_0 l0_1 l0_2 ((rd_T80 l0_2 x27_2).f0) ((rd_T80 l0_2 x27_2).f1))) = some r := by rw [if_neg (show ¬ (false = true) by decide)] at H; exact H
  clear H
  have H := H1
  clear H1
  by_cases c34 : ((rd_T80 l0_2 x27_2).f0) = (-1)
  rotate_left
  ·rw [if_neg c34] at H
   have c34b0 : (((rd_T80 l0_2 x27_2).f0) == (-1)) = false := beq_eq_false_iff_ne.mpr c34
   have c34b1 : (((rd_T80 l0_2 x27_2).f0) != (-1)) = true := bne_iff_ne.mpr c34
   (first | rw [c34b0] | (simp only [i64_w, i32_w]; rw [c34b0]) | skip)
   have H' := Aside0.mk H
   clear H
   have hnb38 := NB160_155.out
   have hnc38 := NB155_160.out
   have hcz39_0 : w18.cell? ⟨gb160, 0, none⟩ = some (.int .i64 0) := (blk_cell BK160.out 0).trans rfl
   have hcz39_1 : w18.cell? ⟨gb160, 1, none⟩ = some (.slice none 0 0) := (blk_cell BK160.out 1).trans rfl
   have hfz39_0 := blk_frozen BK160.out 0
   have hfz39_1 := blk_frozen BK160.out 1
   go_wp2_with (first | ((with_reducible refine gate_callee (f := 41) rfl ?_); refine goesL_ (some 33) rfl rfl Try.func41 (by kernel_rfl) rfl #[.int .i64 ((rd_T80 l0_2 x27_2).f0), .int .i64 (-1), .int .i64 11] rfl (by (try simp only [List.map_toArray, List.map_cons, List.map_nil]); first | done | rfl | (simp only [List.length_drop, List.length_take]; rfl)) ?_; (with_reducible refine (spec_l1In.calls ((rd_T80 l0_2 x27_2).f0) (-1) 11 true _ A21.out).mono ?_); rintro e w' ⟨rfl, ⟨nd, rfl⟩⟩; refine ⟨_, rfl, ?_⟩) | (go_at_call 56; (with_reducible refine (spec_l16Rising.calls k2 _ _ ((rd_T80 l0_2 x27_2).f1) 11 true _ ?side1 ?side2 A23.out).mono ?_); (case side1 => exact Kd.C_below HR159_1.out (by repeat (first | (with_reducible first | exact HB.out | apply below_alloc | apply pw_below_drewN | apply below_drew1 | refine below_set ?_ GE155.out | refine below_set ?_ GE160.out) | exact HB.out))); (case side2 => exact HC159_1.out); rintro e w' ⟨rfl, ⟨nd, rfl⟩⟩) | (go_at_call 57; (with_reducible refine (spec_l1Has.calls k2 _ _ ((rd_T80 l0_2 x27_2).f1) ((rd_T80 l0_2 x27_2).f0) false _ ?side1 ?side2 A25.out).mono ?_); (case side1 => exact Kd.C_below HR159_1.out (by repeat (first | (with_reducible first | exact HB.out | apply below_alloc | apply pw_below_drewN | apply below_drew1 | refine below_set ?_ GE155.out | refine below_set ?_ GE160.out) | exact HB.out))); (case side2 => exact HC159_1.out); rintro e w' ⟨rfl, ⟨nd, rfl⟩⟩; have hcz40_0 : w18.cell? ⟨gb155, 0, none⟩ = some (.int .i64 a0_0) := (blk_cell BK155.out 0).trans rfl; have hcz40_1 : w18.cell? ⟨gb155, 1, none⟩ = some (.slice A0_1 l0_1.length c0_1) := (blk_cell BK155.out 1).trans rfl; have hcz40_2 : w18.cell? ⟨gb155, 2, none⟩ = some (.slice (some ad159) l0_2.length c0_2) := (blk_cell BK155.out 2).trans rfl; have hfz40_0 := blk_frozen BK155.out 0; have hfz40_1 := blk_frozen BK155.out 1; have hfz40_2 := blk_frozen BK155.out 2) | (go_at_call 57; (with_reducible refine (spec_l1Has.calls k2 _ _ l0_1 ((rd_T80 l0_2 x27_2).f0) false _ ?side1 ?side2 A29.out).mono ?_); (case side1 => exact Kd.C_below HR0_1.out (by repeat (first | (with_reducible first | exact HB.out | apply below_alloc | apply pw_below_drewN | apply below_drew1 | refine below_set ?_ GE155.out | refine below_set ?_ GE160.out) | exact HB.out))); (case side2 => exact HC0_1.out); rintro e w' ⟨rfl, ⟨nd, rfl⟩⟩))
   go_meet
   case rel => exact ⟨_, (false), (by first | rfl | (simp; done) | (simp [*]; done)), H', ⟨by have := HJ1.out; have := HK2.out; first | omega | exact Nat.le_refl _⟩, ⟨by (with_reducible repeat (first | refine blk_drewN ?_ _ | refine blk_drew ?_ | refine blk_alloc ?_ _)); refine blk_far ?_ NB155_160.out _; (with_reducible repeat (first | refine blk_drewN ?_ _ | refine blk_drew ?_ | refine blk_alloc ?_ _)); refine blk_far ?_ NB155_160.out _; (with_reducible repeat (first | refine blk_drewN ?_ _ | refine blk_drew ?_ | refine blk_alloc ?_ _)); exact BK155.out⟩, ⟨by (with_reducible repeat (first | refine blk_drewN ?_ _ | refine blk_drew ?_ | refine blk_alloc ?_ _)); refine blk_put (cs := #[.int .i64 ((rd_T80 l0_2 x27_2).f0), .slice none 0 0]) ?_ 1 _ rfl; (with_reducible repeat (first | refine blk_drewN ?_ _ | refine blk_drew ?_ | refine blk_alloc ?_ _)); refine blk_put (cs := #[.int .i64 0, .slice none 0 0]) ?_ 0 _ rfl; (with_reducible repeat (first | refine blk_drewN ?_ _ | refine blk_drew ?_ | refine blk_alloc ?_ _)); exact BK160.out⟩, ⟨by repeat (first | (with_reducible first | exact HB.out | apply below_alloc | apply pw_below_drewN | apply below_drew1 | refine below_set ?_ GE155.out | refine below_set ?_ GE160.out) | exact HB.out)⟩⟩
  rw [if_pos c34] at H
  have c34b0 : (((rd_T80 l0_2 x27_2).f0) == (-1)) = true := beq_iff_eq.mpr c34
  have c34b1 : (((rd_T80 l0_2 x27_2).f0) != (-1)) = false := bne_eq_false_iff_eq.mpr c34
  clear c34
  (first | rw [c34b0] | (simp only [i64_w, i32_w]; rw [c34b0]) | skip)
  have H' := Aside0.mk H
  clear H
  have hnb35 := NB160_155.out
  have hnc35 := NB155_160.out
  have hcz36_0 : w18.cell? ⟨gb160, 0, none⟩ = some (.int .i64 0) := (blk_cell BK160.out 0).trans rfl
  have hcz36_1 : w18.cell? ⟨gb160, 1, none⟩ = some (.slice none 0 0) := (blk_cell BK160.out 1).trans rfl
  have hfz36_0 := blk_frozen BK160.out 0
  have hfz36_1 := blk_frozen BK160.out 1
  go_wp2_with (first | ((with_reducible refine gate_callee (f := 41) rfl ?_); refine goesL_ (some 33) rfl rfl Try.func41 (by kernel_rfl) rfl #[.int .i64 ((rd_T80 l0_2 x27_2).f0), .int .i64 (-1), .int .i64 11] rfl (by (try simp only [List.map_toArray, List.map_cons, List.map_nil]); first | done | rfl | (simp only [List.length_drop, List.length_take]; rfl)) ?_; (with_reducible refine (spec_l1In.calls ((rd_T80 l0_2 x27_2).f0) (-1) 11 true _ A21.out).mono ?_); rintro e w' ⟨rfl, ⟨nd, rfl⟩⟩; refine ⟨_, rfl, ?_⟩) | (go_at_call 56; (with_reducible refine (spec_l16Rising.calls k2 _ _ ((rd_T80 l0_2 x27_2).f1) 11 true _ ?side1 ?side2 A23.out).mono ?_); (case side1 => exact Kd.C_below HR159_1.out (by repeat (first | (with_reducible first | exact HB.out | apply below_alloc | apply pw_below_drewN | apply below_drew1 | refine below_set ?_ GE155.out | refine below_set ?_ GE160.out) | exact HB.out))); (case side2 => exact HC159_1.out); rintro e w' ⟨rfl, ⟨nd, rfl⟩⟩) | (go_at_call 57; (with_reducible refine (spec_l1Has.calls k2 _ _ ((rd_T80 l0_2 x27_2).f1) ((rd_T80 l0_2 x27_2).f0) false _ ?side1 ?side2 A25.out).mono ?_); (case side1 => exact Kd.C_below HR159_1.out (by repeat (first | (with_reducible first | exact HB.out | apply below_alloc | apply pw_below_drewN | apply below_drew1 | refine below_set ?_ GE155.out | refine below_set ?_ GE160.out) | exact HB.out))); (case side2 => exact HC159_1.out); rintro e w' ⟨rfl, ⟨nd, rfl⟩⟩; have hcz37_0 : w18.cell? ⟨gb155, 0, none⟩ = some (.int .i64 a0_0) := (blk_cell BK155.out 0).trans rfl; have hcz37_1 : w18.cell? ⟨gb155, 1, none⟩ = some (.slice A0_1 l0_1.length c0_1) := (blk_cell BK155.out 1).trans rfl; have hcz37_2 : w18.cell? ⟨gb155, 2, none⟩ = some (.slice (some ad159) l0_2.length c0_2) := (blk_cell BK155.out 2).trans rfl; have hfz37_0 := blk_frozen BK155.out 0; have hfz37_1 := blk_frozen BK155.out 1; have hfz37_2 := blk_frozen BK155.out 2) | (go_at_call 57; (with_reducible refine (spec_l1Has.calls k2 _ _ l0_1 ((rd_T80 l0_2 x27_2).f0) false _ ?side1 ?side2 A29.out).mono ?_); (case side1 => exact Kd.C_below HR0_1.out (by repeat (first | (with_reducible first | exact HB.out | apply below_alloc | apply pw_below_drewN | apply below_drew1 | refine below_set ?_ GE155.out | refine below_set ?_ GE160.out) | exact HB.out))); (case side2 => exact HC0_1.out); rintro e w' ⟨rfl, ⟨nd, rfl⟩⟩))
  go_meet
  case rel => exact ⟨_, (decide ((((rd_T80 l0_2 x27_2).f1).length : Int) > 0)), (by first | rfl | (simp; done) | (simp [*]; done)), H', ⟨by have := HJ1.out; have := HK2.out; first | omega | exact Nat.le_refl _⟩, ⟨by (with_reducible repeat (first | refine blk_drewN ?_ _ | refine blk_drew ?_ | refine blk_alloc ?_ _)); refine blk_far ?_ NB155_160.out _; (with_reducible repeat (first | refine blk_drewN ?_ _ | refine blk_drew ?_ | refine blk_alloc ?_ _)); refine blk_far ?_ NB155_160.out _; (with_reducible repeat (first | refine blk_drewN ?_ _ | refine blk_drew ?_ | refine blk_alloc ?_ _)); exact BK155.out⟩, ⟨by (with_reducible repeat (first | refine blk_drewN ?_ _ | refine blk_drew ?_ | refine blk_alloc ?_ _)); refine blk_put (cs := #[.int .i64 ((rd_T80 l0_2 x27_2).f0), .slice none 0 0]) ?_ 1 _ rfl; (with_reducible repeat (first | refine blk_drewN ?_ _ | refine blk_drew ?_ | refine blk_alloc ?_ _)); refine blk_put (cs := #[.int .i64 0, .slice none 0 0]) ?_ 0 _ rfl; (with_reducible repeat (first | refine blk_drewN ?_ _ | refine blk_drew ?_ | refine blk_alloc ?_ _)); exact BK160.out⟩, ⟨by repeat (first | (with_reducible first | exact HB.out | apply below_alloc | apply pw_below_drewN | apply below_drew1 | refine below_set ?_ GE155.out | refine below_set ?_ GE160.out) | exact HB.out)⟩⟩
 clear HC17
 try clear c1
 try clear p1
 try clear q1
 try clear hx1
 try clear c2
 try clear p2
 try clear c3
 try clear c4
 try clear c5
 try clear c7
 try clear c12
 try clear c14
 try clear c14b0
 try clear c15
 try clear c15b0
 try clear p15
 try clear q15
 try clear hx15
 try clear c16
 try clear c16b0
 try clear c19
 try clear c22
 try clear c24
 try clear c26
 try clear c27
 try clear c30
 try clear c31
 try clear c34
 try clear c34b0
 try clear c34b1
 try clear c35
 try clear c38
 try clear c41
 try clear c43
 try clear hcz10_0
 try clear hcz10_1
 try clear hcz10_2
 try clear hcz11_0
 try clear hcz11_1
 try clear hcz11_2
 try clear hcz13_0
 try clear hcz13_1
 try clear hcz13_2
 try clear hcz20_0
 try clear hcz20_1
 try clear hcz28_0
 try clear hcz28_1
 try clear hcz32_0
 try clear hcz32_1
 try clear hcz33_0
 try clear hcz33_1
 try clear hcz33_2
 try clear hcz36_0
 try clear hcz36_1
 try clear hcz37_0
 try clear hcz37_1
 try clear hcz37_2
 try clear hcz39_0
 try clear hcz39_1
 try clear hcz40_0
 try clear hcz40_1
 try clear hcz40_2
 try clear hcz42_0
 try clear hcz42_1
 try clear hcz44_0
 try clear hcz44_1
 try clear hcz9_0
 try clear hcz9_1
 try clear hcz9_2
 try clear hfz10_0
 try clear hfz10_1
 try clear hfz10_2
 try clear hfz11_0
 try clear hfz11_1
 try clear hfz11_2
 try clear hfz13_0
 try clear hfz13_1
 try clear hfz13_2
 try clear hfz20_0
 try clear hfz20_1
 try clear hfz28_0
 try clear hfz28_1
 try clear hfz32_0
 try clear hfz32_1
 try clear hfz33_0
 try clear hfz33_1
 try clear hfz33_2
 try clear hfz36_0
 try clear hfz36_1
 try clear hfz37_0
 try clear hfz37_1
 try clear hfz37_2
 try clear hfz39_0
 try clear hfz39_1
 try clear hfz40_0
 try clear hfz40_1
 try clear hfz40_2
 try clear hfz42_0
 try clear hfz42_1
 try clear hfz44_0
 try clear hfz44_1
 try clear hfz9_0
 try clear hfz9_1
 try clear hfz9_2
 try clear hx159_0
 try clear hx159_1
 try clear p159
 try clear p2
 try clear q159
 obtain ⟨kq, x65_16, rfl, HA, HJ16, BK155, BK160, HB⟩ := hcut
 cases kq with
 | zero => exact absurd HA.out (by simp [spec_GoodConfig.j2])
 | succ kj16 => ?_
 have H := HA.out
 clear HA
 simp only [spec_GoodConfig.j2] at H
 by_cases c45 : x65_16 = true
 ·subst c45
  have H1 : (some false) = some r := by rw [if_pos rfl] at H; exact H
  clear H
  have H := H1
  clear H1
  obtain rfl := Option.some.inj H
  go_wp2
  go_ret
  exact ⟨by first | rfl | (simp [errW_none, errW_some] <;> rfl) | (simp [*, errW_none, errW_some] <;> rfl), by repeat (first | (with_reducible first | exact HB.out | apply below_alloc | apply pw_below_drewN | apply below_drew1 | refine below_set ?_ GE155.out | refine below_set ?_ GE160.out) | exact HB.out)⟩
 replace c45 := Bool.eq_false_iff.mpr c45
 subst c45
 have H1 : (spec_GoodConfig.l1 kj16 l0_2 (l0_2.length : Int) x27_2 ((rd_T80 l0_2 x27_2).f1) (((rd_T80 l0_2 x27_2).f1).length : Int) 0 a0_0 l0_1 l0_2) = some r := by rw [if_neg (show ¬ (false = true) by decide)] at H; exact H
 clear H
 have H := H1
 clear H1
 have H' := Aside0.mk H
 clear H
 have hnb46 := NB160_155.out
 have hnc46 := NB155_160.out
 have hcz47_0 : wc.cell? ⟨gb160, 0, none⟩ = some (.int .i64 ((rd_T80 l0_2 x27_2).f0)) := (blk_cell BK160.out 0).trans rfl
 have hcz47_1 : wc.cell? ⟨gb160, 1, none⟩ = some (.slice A159_1 ((rd_T80 l0_2 x27_2).f1).length c159_1) := (blk_cell BK160.out 1).trans rfl
 have hfz47_0 := blk_frozen BK160.out 0
 have hfz47_1 := blk_frozen BK160.out 1
 go_wp2
 go_loopg [69] kj16 (fun kq v69 w' => ∃ (x69_4 : Int), v69 = .int .i64 x69_4 ∧ Aside0 (spec_GoodConfig.l1 kq l0_2 (l0_2.length : Int) x27_2 ((rd_T80 l0_2 x27_2).f1) (((rd_T80 l0_2 x27_2).f1).length : Int) x69_4 a0_0 l0_1 l0_2 = some r) ∧ Aside0 (kq ≤ kj16) ∧ Aside0 (w'.heap[gb155]? = some (.cells #[.int .i64 a0_0, (.slice A0_1 l0_1.length c0_1), (.slice (some ad159) l0_2.length c0_2)] 52 (0, 0))) ∧ Aside0 (w'.heap[gb160]? = some (.cells #[.int .i64 ((rd_T80 l0_2 x27_2).f0), (.slice A159_1 ((rd_T80 l0_2 x27_2).f1).length c159_1)] 80 (0, 0))) ∧ Aside0 (Below w.heap.size w w'))
 case atStart => exact ⟨(0), (by first | rfl | (simp; done) | (simp [*]; done)), H', ⟨Nat.le_refl _⟩, ⟨by (with_reducible repeat (first | refine blk_drewN ?_ _ | refine blk_drew ?_ | refine blk_alloc ?_ _)); exact BK155.out⟩, ⟨by (with_reducible repeat (first | refine blk_drewN ?_ _ | refine blk_drew ?_ | refine blk_alloc ?_ _)); exact BK160.out⟩, ⟨by repeat (first | (with_reducible first | exact HB.out | apply below_alloc | apply pw_below_drewN | apply below_drew1 | refine below_set ?_ GE155.out | refine below_set ?_ GE160.out) | exact HB.out)⟩⟩
 clear H'
 try clear c1
 try clear p1
 try clear q1
 try clear hx1
 try clear c2
 try clear p2
 try clear c3
 try clear c4
 try clear c5
 try clear c7
 try clear c12
 try clear c14
 try clear c14b0
 try clear c15
 try clear c15b0
 try clear p15
 try clear q15
 try clear hx15
 try clear c16
 try clear c16b0
 try clear c19
 try clear c22
 try clear c24
 try clear c26
 try clear c27
 try clear c30
 try clear c31
 try clear c34
 try clear c34b0
 try clear c34b1
 try clear c35
 try clear c38
 try clear c41
 try clear c43
 try clear c45
 try clear c46
 try clear hcz10_0
 try clear hcz10_1
 try clear hcz10_2
 try clear hcz11_0
 try clear hcz11_1
 try clear hcz11_2
 try clear hcz13_0
 try clear hcz13_1
 try clear hcz13_2
 try clear hcz20_0
 try clear hcz20_1
 try clear hcz28_0
 try clear hcz28_1
 try clear hcz32_0
 try clear hcz32_1
 try clear hcz33_0
 try clear hcz33_1
 try clear hcz33_2
 try clear hcz36_0
 try clear hcz36_1
 try clear hcz37_0
 try clear hcz37_1
 try clear hcz37_2
 try clear hcz39_0
 try clear hcz39_1
 try clear hcz40_0
 try clear hcz40_1
 try clear hcz40_2
 try clear hcz42_0
 try clear hcz42_1
 try clear hcz44_0
 try clear hcz44_1
 try clear hcz47_0
 try clear hcz47_1
 try clear hcz9_0
 try clear hcz9_1
 try clear hcz9_2
 try clear hfz10_0
 try clear hfz10_1
 try clear hfz10_2
 try clear hfz11_0
 try clear hfz11_1
 try clear hfz11_2
 try clear hfz13_0
 try clear hfz13_1
 try clear hfz13_2
 try clear hfz20_0
 try clear hfz20_1
 try clear hfz28_0
 try clear hfz28_1
 try clear hfz32_0
 try clear hfz32_1
 try clear hfz33_0
 try clear hfz33_1
 try clear hfz33_2
 try clear hfz36_0
 try clear hfz36_1
 try clear hfz37_0
 try clear hfz37_1
 try clear hfz37_2
 try clear hfz39_0
 try clear hfz39_1
 try clear hfz40_0
 try clear hfz40_1
 try clear hfz40_2
 try clear hfz42_0
 try clear hfz42_1
 try clear hfz44_0
 try clear hfz44_1
 try clear hfz47_0
 try clear hfz47_1
 try clear hfz9_0
 try clear hfz9_1
 try clear hfz9_2
 try clear hx159_0
 try clear hx159_1
 try clear p1
 try clear p15
 try clear p159
 try clear p2
 try clear q1
 try clear q15
 try clear q159
 obtain ⟨x69_4, rfl, HA, HK4, BK155, BK160, HB⟩ := hrel
 cases gk with
 | zero => exact absurd HA.out (by simp [spec_GoodConfig.l1])
 | succ k4 => ?_
 have H := HA.out
 clear HA
 simp only [spec_GoodConfig.l1] at H
 by_cases c48 : x69_4 < (((rd_T80 l0_2 x27_2).f1).length : Int)
 rotate_left
 ·rw [if_neg c48] at H
  have c48b0 : decide (x69_4 < (((rd_T80 l0_2 x27_2).f1).length : Int)) = false := decide_eq_false c48
  clear c48
  have H' := Aside0.mk H
  clear H
  go_wp2
  go_roundg k4
  case measure => have := HJ1.out; have := HK2.out; have := HJ16.out; have := HK4.out; omega
  case rel => exact ⟨(wrap64 (x27_2 + 1)), (by first | rfl | (simp; done) | (simp [*]; done)), H', ⟨by have := HJ1.out; have := HK2.out; have := HJ16.out; have := HK4.out; omega⟩, ⟨by (with_reducible repeat (first | refine blk_drewN ?_ _ | refine blk_drew ?_ | refine blk_alloc ?_ _)); exact BK155.out⟩, ⟨by repeat (first | (with_reducible first | exact HB.out | apply below_alloc | apply pw_below_drewN | apply below_drew1 | refine below_set ?_ GE155.out | refine below_set ?_ GE160.out) | exact HB.out)⟩⟩
 rw [if_pos c48] at H
 have c48b0 : decide (x69_4 < (((rd_T80 l0_2 x27_2).f1).length : Int)) = true := decide_eq_true c48
 clear c48
 by_cases c49 : 0 ≤ x69_4
 rotate_left
 ·rw [if_neg c49] at H
  exact absurd H (by simp)
 rw [if_pos c49] at H
 have c49b0 : decide (0 ≤ x69_4) = true := decide_eq_true c49
 clear c49
 by_cases c50 : x69_4 < (((rd_T80 l0_2 x27_2).f1).length : Int)
 rotate_left
 ·rw [if_neg c50] at H
  exact absurd H (by simp)
 rw [if_pos c50] at H
 have c50b0 : decide (x69_4 < (((rd_T80 l0_2 x27_2).f1).length : Int)) = true := decide_eq_true c50
 clear c50
 replace H := Option.bind_eq_some_iff.mp H
 obtain ⟨t166, A510, H⟩ := H
 replace H : (if t166 = true then (some false) else (spec_GoodConfig.l1 k4 l0_2 (l0_2.length : Int) x27_2 ((rd_T80 l0_2 x27_2).f1) (((rd_T80 l0_2 x27_2).f1).length : Int) (wrap64 (x69_4 + 1)) a0_0 l0_1 l0_2)) = some r := H
 have A51 := Aside0.mk A510
 clear A510
 by_cases c52 : t166 = true
 ·subst c52
  have H1 : (some false) = some r := by rw [if_pos rfl] at H; exact H
  clear H
  have H := H1
  clear H1
  obtain rfl := Option.some.inj H
  have p165 : 0 ≤ (x69_4 : Int) := of_decide_eq_true (by first | (with_reducible assumption) | assumption)
  have q165 : x69_4 < (((rd_T80 l0_2 x27_2).f1).length : Int) := of_decide_eq_true (by first | (with_reducible assumption) | assumption)
  obtain ⟨ad165, e165, hx165_0⟩ := Kd.at_int HR159_1.out x69_4 p165 q165
  cases e165
  replace hx165_0 := (HB.out.cell (World.block_lt_of_cell? w _ hx165_0)).trans hx165_0
  replace p165 := eq_true p165
  replace q165 := eq_true q165
  have hnb53 := NB155_160.out
  have hnc53 := NB160_155.out
  have hcz54_0 : wr.cell? ⟨gb155, 0, none⟩ = some (.int .i64 a0_0) := (blk_cell BK155.out 0).trans rfl
  have hcz54_1 : wr.cell? ⟨gb155, 1, none⟩ = some (.slice A0_1 l0_1.length c0_1) := (blk_cell BK155.out 1).trans rfl
  have hcz54_2 : wr.cell? ⟨gb155, 2, none⟩ = some (.slice (some ad159) l0_2.length c0_2) := (blk_cell BK155.out 2).trans rfl
  have hfz54_0 := blk_frozen BK155.out 0
  have hfz54_1 := blk_frozen BK155.out 1
  have hfz54_2 := blk_frozen BK155.out 2
  go_wp2_with (first | ((with_reducible refine gate_callee (f := 57) rfl ?_); refine goesL_ (some 76) rfl rfl Try.func57 (by kernel_rfl) rfl #[.slice A0_1 l0_1.length c0_1, .int .i64 (rd ((rd_T80 l0_2 x27_2).f1) x69_4)] rfl (by (try simp only [List.map_toArray, List.map_cons, List.map_nil]); first | done | rfl | (simp only [List.length_drop, List.length_take]; rfl)) ?_; (with_reducible refine (spec_l1Has.calls k4 _ _ l0_1 (rd ((rd_T80 l0_2 x27_2).f1) x69_4) true _ ?side1 ?side2 A51.out).mono ?_); (case side1 => repeat (first | exact (Kd.C_below HR0_1.out HB.out) | (with_reducible refine Kd.C_alloc ?_ _) | (with_reducible refine Kd.C_drewN ?_ _) | (with_reducible refine Kd.C_drew ?_))); (case side2 => exact HC0_1.out); rintro e w' ⟨rfl, ⟨nd, rfl⟩⟩; refine ⟨_, rfl, ?_⟩))
  go_ret
  exact ⟨by first | rfl | (simp [errW_none, errW_some] <;> rfl) | (simp [*, errW_none, errW_some] <;> rfl), by repeat (first | (with_reducible first | exact HB.out | apply below_alloc | apply pw_below_drewN | apply below_drew1 | refine below_set ?_ GE155.out | refine below_set ?_ GE160.out) | exact HB.out)⟩
 replace c52 := Bool.eq_false_iff.mpr c52
 subst c52
 have H1 : (spec_GoodConfig.l1 k4 l0_2 (l0_2.length : Int) x27_2 ((rd_T80 l0_2 x27_2).f1) (((rd_T80 l0_2 x27_2).f1).length : Int) (wrap64 (x69_4 + 1)) a0_0 l0_1 l0_2) = some r := by rw [if_neg (show ¬ (false = true) by decide)] at H; exact H
 clear H
 have H := H1
 clear H1
 have H' := Aside0.mk H
 clear H
 have p165 : 0 ≤ (x69_4 : Int) := of_decide_eq_true (by first | (with_reducible assumption) | assumption)
 have q165 : x69_4 < (((rd_T80 l0_2 x27_2).f1).length : Int) := of_decide_eq_true (by first | (with_reducible assumption) | assumption)
 obtain ⟨ad165, e165, hx165_0⟩ := Kd.at_int HR159_1.out x69_4 p165 q165
 cases e165
 replace hx165_0 := (HB.out.cell (World.block_lt_of_cell? w _ hx165_0)).trans hx165_0
 replace p165 := eq_true p165
 replace q165 := eq_true q165
 have hnb55 := NB155_160.out
 have hnc55 := NB160_155.out
 have hcz56_0 : wr.cell? ⟨gb155, 0, none⟩ = some (.int .i64 a0_0) := (blk_cell BK155.out 0).trans rfl
 have hcz56_1 : wr.cell? ⟨gb155, 1, none⟩ = some (.slice A0_1 l0_1.length c0_1) := (blk_cell BK155.out 1).trans rfl
 have hcz56_2 : wr.cell? ⟨gb155, 2, none⟩ = some (.slice (some ad159) l0_2.length c0_2) := (blk_cell BK155.out 2).trans rfl
 have hfz56_0 := blk_frozen BK155.out 0
 have hfz56_1 := blk_frozen BK155.out 1
 have hfz56_2 := blk_frozen BK155.out 2
 go_wp2_with (first | ((with_reducible refine gate_callee (f := 57) rfl ?_); refine goesL_ (some 76) rfl rfl Try.func57 (by kernel_rfl) rfl #[.slice A0_1 l0_1.length c0_1, .int .i64 (rd ((rd_T80 l0_2 x27_2).f1) x69_4)] rfl (by (try simp only [List.map_toArray, List.map_cons, List.map_nil]); first | done | rfl | (simp only [List.length_drop, List.length_take]; rfl)) ?_; (with_reducible refine (spec_l1Has.calls k4 _ _ l0_1 (rd ((rd_T80 l0_2 x27_2).f1) x69_4) false _ ?side1 ?side2 A51.out).mono ?_); (case side1 => repeat (first | exact (Kd.C_below HR0_1.out HB.out) | (with_reducible refine Kd.C_alloc ?_ _) | (with_reducible refine Kd.C_drewN ?_ _) | (with_reducible refine Kd.C_drew ?_))); (case side2 => exact HC0_1.out); rintro e w' ⟨rfl, ⟨nd, rfl⟩⟩; refine ⟨_, rfl, ?_⟩))
 go_roundg k4
 case measure => have := HJ1.out; have := HK2.out; have := HJ16.out; have := HK4.out; omega
 case rel => exact ⟨(wrap64 (x69_4 + 1)), (by first | rfl | (simp; done) | (simp [*]; done)), H', ⟨by have := HJ1.out; have := HK2.out; have := HJ16.out; have := HK4.out; omega⟩, ⟨by (with_reducible repeat (first | refine blk_drewN ?_ _ | refine blk_drew ?_ | refine blk_alloc ?_ _)); exact BK155.out⟩, ⟨by (with_reducible repeat (first | refine blk_drewN ?_ _ | refine blk_drew ?_ | refine blk_alloc ?_ _)); exact BK160.out⟩, ⟨by repeat (first | (with_reducible first | exact HB.out | apply below_alloc | apply pw_below_drewN | apply below_drew1 | refine below_set ?_ GE155.out | refine below_set ?_ GE160.out) | exact HB.out)⟩⟩

end Go.Proofs.Ytniaodllgeloiaa.PMP
