/- What this text proves: the machine calls of these functions return what the plain functions say. Conditions: as each theorem says. Printed by a program of this session out of the translation. -/
import Derived.Test.YtcloilddgimamaaPFCx0
import Derived.Test.YtcloilddgimamaaPFCx1
namespace Go.Proofs.Ytcloilddgimamaa.PFC
open Go.RowKit Go.Proofs.YtcloilddgimamaaW.PrintWords Go.Proofs.YtcloilddgimamaaW.PrintLast Go.Proofs.YtcloilddgimamaaW.PrintMore
attribute [local go_sem] max2_int min2_int max_two min_two max_three min_three max_four min_four   -- for this text's walks alone
set_option linter.unusedVariables false
set_option linter.unusedSimpArgs false

/-! ### impl_CountBy: function 28 -/
def impl_CountBy.j0 : Nat → Int → Int → Bool → List Int → List Int → Option (List Int × List Int × Bool)
 | 0, _, _, _, _, _ => none
 | k + 1, x1, x2, x21, x178000, x178001 => if x21 = true then (some (([] : List Int), ([] : List Int), false)) else ((some (([] : List Int) : List Int)).bind fun y182 => (if y182.length + x178000.length < 17592186044416 then ((some (y182 ++ x178000 : List Int)).bind fun y185 => ((some (([] : List Int) : List Int)).bind fun y188 => (if y188.length + x178001.length < 17592186044416 then ((some (y188 ++ x178001 : List Int)).bind fun y191 => (if x2 > 0 then (if 0 ≤ x1 then (if x1 < (y185.length : Int) then ((some (y185.set (x1 : Int).toNat (wrap64 ((rd y185 x1) + x2)) : List Int)).bind fun y196 => ((impl_isCounter.f y196 y191).bind fun t197 => (if t197 = true then (some (y196, y191, true)) else (some (([] : List Int), ([] : List Int), false))))) else (none)) else (none)) else (if 0 ≤ x1 then (if x1 < (y191.length : Int) then ((some (y191.set (x1 : Int).toNat (wrap64 ((rd y191 x1) - x2)) : List Int)).bind fun y199 => ((impl_isCounter.f y185 y199).bind fun t200 => (if t200 = true then (some (y185, y199, true)) else (some (([] : List Int), ([] : List Int), false))))) else (none)) else (none)))) else (none)))) else (none)))
def impl_CountBy.f (k : Nat) (l0_0 : List Int) (l0_1 : List Int) (a1 : Int) (a2 : Int) : Option (List Int × List Int × Bool) := (impl_isCounter.f l0_0 l0_1).bind fun t179 => (if t179 = true then ((impl_in.f a1 0 5).bind fun t180 => (if t180 = true then ((impl_in.f a2 (-1000) 1000).bind fun t181 => (impl_CountBy.j0 k a1 a2 (!t181) l0_0 l0_1)) else (impl_CountBy.j0 k a1 a2 true l0_0 l0_1))) else (impl_CountBy.j0 k a1 a2 true l0_0 l0_1))
theorem impl_CountBy.mono_l : ∀ k, (∀ y0 y1 y2 y3 y4, LeO (impl_CountBy.j0 k y0 y1 y2 y3 y4) (impl_CountBy.j0 (k + 1) y0 y1 y2 y3 y4))
 | 0 => fun _ _ _ _ _ r h => by simp [impl_CountBy.j0] at h
 | k + 1 => by
  have ih0 := impl_CountBy.mono_l k
  ·intro y0 y1 y2 y3 y4
   unfold impl_CountBy.j0
   repeat' first
   | (with_reducible exact ih0 _ _ _ _ _)
   | (with_reducible exact LeO.refl _)
   | (with_reducible exact LeO.none _)
   | (with_reducible refine LeO.ite ?_ ?_)
   | (with_reducible refine LeO.bind ?_ (fun _ => ?_))
   | exact ih0 _ _ _ _ _
   | exact LeO.none _
   | refine LeO.ite ?_ ?_
   | refine LeO.bind ?_ (fun _ => ?_)
theorem impl_CountBy.mono : ∀ a0 a1 a2 a3 k, LeO (impl_CountBy.f k a0 a1 a2 a3) (impl_CountBy.f (k + 1) a0 a1 a2 a3) := by
 intro a0 a1 a2 a3 k
 have ih0 := impl_CountBy.mono_l k
 unfold impl_CountBy.f
 repeat' first
   | (with_reducible exact ih0 _ _ _ _ _)
   | (with_reducible exact LeO.refl _)
   | (with_reducible exact LeO.none _)
   | (with_reducible refine LeO.ite ?_ ?_)
   | (with_reducible refine LeO.bind ?_ (fun _ => ?_))
   | exact ih0 _ _ _ _ _
   | exact LeO.none _
   | refine LeO.ite ?_ ?_
   | refine LeO.bind ?_ (fun _ => ?_)
def impl_CountBy.T3 : Bool × List (List Nat × List Nat) := (true, [([], []), ([], []), ([1], [1]), ([0, 2], [0, 2]), ([], []), ([], []), ([5], [5]), ([4, 6, 3], [4, 6]), ([3, 7], [3, 7]), ([], []), ([9, 8, 7, 0, 1, 2, 3, 4, 5, 6, 7, 8, 9], [8, 9])])
def impl_CountBy.B3 : List Nat := [0, 0, 2, 7, 0, 0, 32, 127, 255, 0, 1023]
theorem impl_CountBy.tab3 : rtab .any (opsOf Try.f28 3) = impl_CountBy.T3 := by kernel_rfl
theorem impl_CountBy.bits3 : waitsOk impl_CountBy.T3.2 impl_CountBy.B3 = true := by kernel_rfl
set_option maxHeartbeats 8000000 in
set_option maxRecDepth 100000 in
theorem impl_CountBy.calls (k : Nat) (A0_0 : Option Addr) (c0_0 : Nat) (l0_0 : List Int) (A0_1 : Option Addr) (c0_1 : Nat) (l0_1 : List Int) (a1 : Int) (a2 : Int) (r1 : List Int) (r2 : List Int) (r3 : Bool) (w : World) (hr0_0 : Kd.C (Kd.int .i64) w A0_0 l0_0.length l0_0) (hc0_0 : l0_0.length ≤ c0_0) (hr0_1 : Kd.C (Kd.int .i64) w A0_1 l0_1.length l0_1) (hc0_1 : l0_1.length ≤ c0_1) (h : impl_CountBy.f k l0_0 l0_1 a1 a2 = some (r1, r2, r3)) :
  Calls Try.prog 28 #[.agg #[.slice A0_0 l0_0.length c0_0, .slice A0_1 l0_1.length c0_1], .int .i64 a1, .int .i64 a2] w fun e w' => ∃ v0_ v1_ : Value, e = .returned (.tuple #[.agg #[v0_, v1_], .bool r3]) ∧ Kd.R (Kd.int .i64) 3 w' w.heap.size (fun k_ => some k_ ≠ (v1_ : Value).ownBlock) v0_ r1 ∧ Kd.R (Kd.int .i64) 3 w' w.heap.size (fun k_ => some k_ ≠ (v0_ : Value).ownBlock) v1_ r2 ∧ Below w.heap.size w w' := by
 have hu27 := Try.underlying27
 have HR0_0 := Aside0.mk hr0_0
 have HC0_0 := Aside0.mk hc0_0
 clear hr0_0 hc0_0
 have HR0_1 := Aside0.mk hr0_1
 have HC0_1 := Aside0.mk hc0_1
 clear hr0_1 hc0_1
 have HB := Aside0.mk (Below.refl w.heap.size w)
 have H : ((impl_isCounter.f l0_0 l0_1).bind fun t179 => (if t179 = true then ((impl_in.f a1 0 5).bind fun t180 => (if t180 = true then ((impl_in.f a2 (-1000) 1000).bind fun t181 => (impl_CountBy.j0 k a1 a2 (!t181) l0_0 l0_1)) else (impl_CountBy.j0 k a1 a2 true l0_0 l0_1))) else (impl_CountBy.j0 k a1 a2 true l0_0 l0_1))) = some (r1, r2, r3) := h
 clear h
 have HC4 := Aside0.mk H
 clear H
 go_enter Try.func28, Try.ntmps28
 go_upto_region 1 with (first | ((with_reducible refine gate_dst (N := 3) rfl ?_); refine box_event rfl (N := 3) rfl (cs := #[.slice A0_0 l0_0.length c0_0, .slice A0_1 l0_1.length c0_1]) (t := 27) gs_ ?_; intro gb177 hg w5 hbox hb; have BK177 := Aside0.mk (hbox); have GW177 := Aside0.mk ((by rw [hg]; exact bz_ : w.heap.size ≤ gb177)); have GE177 := GW177; replace HB := Aside0.mk (below_step bl_ hb); clear hb hbox hg) | ((with_reducible refine gate_dst (N := 6) rfl ?_); refine box_event rfl (N := 6) rfl (cs := #[.slice none 0 0, .slice none 0 0]) (t := 27) gs_ ?_; intro gb178 hg w6 hbox hb; have BK178 := Aside0.mk (hbox); have GW178 := Aside0.mk ((by rw [hg]; exact bz_ : w.heap.size ≤ gb178)); have GE178 := GW178; replace HB := Aside0.mk (below_step bl_ hb); have NB177_178 := nl_ hg BK177; have NB178_177 := nm_ hg BK177; replace BK177 := bb_ BK177 hb; clear hb hbox hg))
 (try simp only [Act.put, List.setIfInBounds_toArray, List.set_cons_zero, List.set_cons_succ])
 go_cut [21] (fun v21 wc => ∃ (kq : Nat) (x21_3 : Bool), v21 = .bool x21_3 ∧ Aside0 (impl_CountBy.j0 kq a1 a2 x21_3 l0_0 l0_1 = some (r1, r2, r3)) ∧ Aside0 (kq ≤ k) ∧ Aside0 (wc.heap[gb177]? = some (.cells #[(.slice A0_0 l0_0.length c0_0), (.slice A0_1 l0_1.length c0_1)] 27 (0, 0))) ∧ Aside0 (wc.heap[gb178]? = some (.cells #[(.slice none 0 0), (.slice none 0 0)] 27 (0, 0))) ∧ Aside0 (Below w.heap.size w wc))
 case first =>
  have H := HC4.out
  clear HC4
  replace H := Option.bind_eq_some_iff.mp H
  obtain ⟨t179, A70, H⟩ := H
  replace H : (if t179 = true then ((impl_in.f a1 0 5).bind fun t180 => (if t180 = true then ((impl_in.f a2 (-1000) 1000).bind fun t181 => (impl_CountBy.j0 k a1 a2 (!t181) l0_0 l0_1)) else (impl_CountBy.j0 k a1 a2 true l0_0 l0_1))) else (impl_CountBy.j0 k a1 a2 true l0_0 l0_1)) = some (r1, r2, r3) := H
  have A7 := Aside0.mk A70
  clear A70
  by_cases c8 : t179 = true
  rotate_left
  ·replace c8 := Bool.eq_false_iff.mpr c8
   subst c8
   have H1 : (impl_CountBy.j0 k a1 a2 true l0_0 l0_1) = some (r1, r2, r3) := by rw [if_neg (show ¬ (false = true) by decide)] at H; exact H
   clear H
   have H := H1
   clear H1
   have H' := Aside0.mk H
   clear H
   have hnb18 := NB177_178.out
   have hnc18 := NB178_177.out
   have hcz19_0 : w6.cell? ⟨gb177, 0, none⟩ = some (.slice A0_0 l0_0.length c0_0) := bc_ BK177.out 0
   have hcz19_1 : w6.cell? ⟨gb177, 1, none⟩ = some (.slice A0_1 l0_1.length c0_1) := bc_ BK177.out 1
   have hfz19_0 := blk_frozen BK177.out 0
   have hfz19_1 := blk_frozen BK177.out 1
   go_wp2_with (first | ((with_reducible refine gate_callee (f := 35) rfl ?_); refine goesL_ (some 10) rfl rfl Try.func35 (by kernel_rfl) rfl #[.agg #[.slice A0_0 l0_0.length c0_0, .slice A0_1 l0_1.length c0_1]] rfl nc_ ?_; (with_reducible refine (impl_isCounter.calls _ _ l0_0 _ _ l0_1 false _ ?side1 ?side2 ?side3 ?side4 A7.out).mono ?_); (case side1 => exact kc_ (Kd.C_below HR0_0.out HB.out)); (case side2 => exact HC0_0.out); (case side3 => exact kc_ (Kd.C_below HR0_1.out HB.out)); (case side4 => exact HC0_1.out); rintro e w20 ⟨rfl, hb⟩; refine ⟨_, rfl, ?_⟩; replace BK177 := bb_ BK177 hb; replace BK178 := bb_ BK178 hb; replace HB := Aside0.mk (below_step bl_ hb); clear hb))
   go_meet
   case rel => exact ⟨_, (true), (by first | rfl | (simp; done) | (simp [*]; done)), H', ⟨by first | omega | exact Nat.le_refl _⟩, ⟨by exact kb_ BK177.out⟩, ⟨by exact kb_ BK178.out⟩, ⟨bl_⟩⟩
  subst c8
  have H1 : ((impl_in.f a1 0 5).bind fun t180 => (if t180 = true then ((impl_in.f a2 (-1000) 1000).bind fun t181 => (impl_CountBy.j0 k a1 a2 (!t181) l0_0 l0_1)) else (impl_CountBy.j0 k a1 a2 true l0_0 l0_1))) = some (r1, r2, r3) := by rw [if_pos rfl] at H; exact H
  clear H
  have H := H1
  clear H1
  replace H := Option.bind_eq_some_iff.mp H
  obtain ⟨t180, A90, H⟩ := H
  replace H : (if t180 = true then ((impl_in.f a2 (-1000) 1000).bind fun t181 => (impl_CountBy.j0 k a1 a2 (!t181) l0_0 l0_1)) else (impl_CountBy.j0 k a1 a2 true l0_0 l0_1)) = some (r1, r2, r3) := H
  have A9 := Aside0.mk A90
  clear A90
  by_cases c10 : t180 = true
  rotate_left
  ·replace c10 := Bool.eq_false_iff.mpr c10
   subst c10
   have H1 : (impl_CountBy.j0 k a1 a2 true l0_0 l0_1) = some (r1, r2, r3) := by rw [if_neg (show ¬ (false = true) by decide)] at H; exact H
   clear H
   have H := H1
   clear H1
   have H' := Aside0.mk H
   clear H
   have hnb15 := NB177_178.out
   have hnc15 := NB178_177.out
   have hcz16_0 : w6.cell? ⟨gb177, 0, none⟩ = some (.slice A0_0 l0_0.length c0_0) := bc_ BK177.out 0
   have hcz16_1 : w6.cell? ⟨gb177, 1, none⟩ = some (.slice A0_1 l0_1.length c0_1) := bc_ BK177.out 1
   have hfz16_0 := blk_frozen BK177.out 0
   have hfz16_1 := blk_frozen BK177.out 1
   go_wp2_with (first | ((with_reducible refine gate_callee (f := 35) rfl ?_); refine goesL_ (some 10) rfl rfl Try.func35 (by kernel_rfl) rfl #[.agg #[.slice A0_0 l0_0.length c0_0, .slice A0_1 l0_1.length c0_1]] rfl nc_ ?_; (with_reducible refine (impl_isCounter.calls _ _ l0_0 _ _ l0_1 true _ ?side1 ?side2 ?side3 ?side4 A7.out).mono ?_); (case side1 => exact kc_ (Kd.C_below HR0_0.out HB.out)); (case side2 => exact HC0_0.out); (case side3 => exact kc_ (Kd.C_below HR0_1.out HB.out)); (case side4 => exact HC0_1.out); rintro e w17 ⟨rfl, hb⟩; refine ⟨_, rfl, ?_⟩; replace BK177 := bb_ BK177 hb; replace BK178 := bb_ BK178 hb; replace HB := Aside0.mk (below_step bl_ hb); clear hb) | (go_at_call 48; (with_reducible refine (impl_in.calls a1 0 5 false _ A9.out).mono ?_); rintro e w' ⟨rfl, ⟨nd, rfl⟩⟩))
   go_meet
   case rel => exact ⟨_, (true), (by first | rfl | (simp; done) | (simp [*]; done)), H', ⟨by first | omega | exact Nat.le_refl _⟩, ⟨by exact kb_ BK177.out⟩, ⟨by exact kb_ BK178.out⟩, ⟨bl_⟩⟩
  subst c10
  have H1 : ((impl_in.f a2 (-1000) 1000).bind fun t181 => (impl_CountBy.j0 k a1 a2 (!t181) l0_0 l0_1)) = some (r1, r2, r3) := by rw [if_pos rfl] at H; exact H
  clear H
  have H := H1
  clear H1
  replace H := Option.bind_eq_some_iff.mp H
  obtain ⟨t181, A110, H⟩ := H
  replace H : (impl_CountBy.j0 k a1 a2 (!t181) l0_0 l0_1) = some (r1, r2, r3) := H
  have A11 := Aside0.mk A110
  clear A110
  have H' := Aside0.mk H
  clear H
  have hnb12 := NB177_178.out
  have hnc12 := NB178_177.out
  have hcz13_0 : w6.cell? ⟨gb177, 0, none⟩ = some (.slice A0_0 l0_0.length c0_0) := bc_ BK177.out 0
  have hcz13_1 : w6.cell? ⟨gb177, 1, none⟩ = some (.slice A0_1 l0_1.length c0_1) := bc_ BK177.out 1
  have hfz13_0 := blk_frozen BK177.out 0
  have hfz13_1 := blk_frozen BK177.out 1
  go_wp2_with (first | ((with_reducible refine gate_callee (f := 35) rfl ?_); refine goesL_ (some 10) rfl rfl Try.func35 (by kernel_rfl) rfl #[.agg #[.slice A0_0 l0_0.length c0_0, .slice A0_1 l0_1.length c0_1]] rfl nc_ ?_; (with_reducible refine (impl_isCounter.calls _ _ l0_0 _ _ l0_1 true _ ?side1 ?side2 ?side3 ?side4 A7.out).mono ?_); (case side1 => exact kc_ (Kd.C_below HR0_0.out HB.out)); (case side2 => exact HC0_0.out); (case side3 => exact kc_ (Kd.C_below HR0_1.out HB.out)); (case side4 => exact HC0_1.out); rintro e w14 ⟨rfl, hb⟩; refine ⟨_, rfl, ?_⟩; replace BK177 := bb_ BK177 hb; replace BK178 := bb_ BK178 hb; replace HB := Aside0.mk (below_step bl_ hb); clear hb) | (go_at_call 48; (with_reducible refine (impl_in.calls a1 0 5 true _ A9.out).mono ?_); rintro e w' ⟨rfl, ⟨nd, rfl⟩⟩) | (go_at_call 48; (with_reducible refine (impl_in.calls a2 (-1000) 1000 t181 _ A11.out).mono ?_); rintro e w' ⟨rfl, ⟨nd, rfl⟩⟩))
  go_meet
  case rel => exact ⟨_, (!t181), (by first | rfl | (simp; done) | (simp [*]; done)), H', ⟨by first | omega | exact Nat.le_refl _⟩, ⟨by exact kb_ BK177.out⟩, ⟨by exact kb_ BK178.out⟩, ⟨bl_⟩⟩
 clear HC4
 try clear c1
 try clear c2
 try clear p2
 try clear c3
 try clear c8
 try clear c10
 try clear c12
 try clear c15
 try clear c18
 try clear hcz13_0
 try clear hcz13_1
 try clear hcz16_0
 try clear hcz16_1
 try clear hcz19_0
 try clear hcz19_1
 try clear hfz13_0
 try clear hfz13_1
 try clear hfz16_0
 try clear hfz16_1
 try clear hfz19_0
 try clear hfz19_1
 obtain ⟨kq, x21_3, rfl, HA, HJ3, BK177, BK178, HB⟩ := hcut
 cases kq with
 | zero => exact absurd HA.out (by simp [impl_CountBy.j0])
 | succ kj3 => ?_
 have H := HA.out
 clear HA
 simp only [impl_CountBy.j0] at H
 by_cases c21 : x21_3 = true
 ·subst c21
  have H1 : (some (([] : List Int), ([] : List Int), false)) = some (r1, r2, r3) := by rw [if_pos rfl] at H; exact H
  clear H
  have H := H1
  clear H1
  simp only [Option.some.injEq, Prod.mk.injEq] at H
  obtain ⟨rfl, rfl, rfl⟩ := H
  have hnb22 := NB178_177.out
  have hnc22 := NB177_178.out
  have hcz23_0 : wc.cell? ⟨gb178, 0, none⟩ = some (.slice none 0 0) := bc_ BK178.out 0
  have hcz23_1 : wc.cell? ⟨gb178, 1, none⟩ = some (.slice none 0 0) := bc_ BK178.out 1
  have hfz23_0 := blk_frozen BK178.out 0
  have hfz23_1 := blk_frozen BK178.out 1
  go_wp2
  refine bodyPost_ret (results_ct rfl _ _ gb178 27 #[.slice none 0 0, .slice none 0 0] (0, 0) _ rfl (by (with_reducible repeat (first | refine blk_drewN ?_ _ | refine blk_drew ?_ | refine blk_alloc ?_ _)); refine blk_put (cs := #[.slice none 0 0, .slice none 0 0]) ?_ 1 _ rfl; (with_reducible repeat (first | refine blk_drewN ?_ _ | refine blk_drew ?_ | refine blk_alloc ?_ _)); refine blk_put (cs := #[.slice none 0 0, .slice none 0 0]) ?_ 0 _ rfl; exact kb_ BK178.out) Try.underlying27 rfl (by kernel_rfl)) rfl ?_
  exact ⟨_, _, ng_, by first | exact Kd.R_nil _ _ _ _ _ | exact Kd.N_nil _ _ _ _ _ | exact Kd.V_nil _ _ _ _ _ | exact Kd.Q_nil _ _ _ _ _ | exact Kd.S_nil _ _ _ _ _, by first | exact Kd.R_nil _ _ _ _ _ | exact Kd.N_nil _ _ _ _ _ | exact Kd.V_nil _ _ _ _ _ | exact Kd.Q_nil _ _ _ _ _ | exact Kd.S_nil _ _ _ _ _, bl_⟩
 replace c21 := Bool.eq_false_iff.mpr c21
 subst c21
 have H1 : ((some (([] : List Int) : List Int)).bind fun y182 => (if y182.length + l0_0.length < 17592186044416 then ((some (y182 ++ l0_0 : List Int)).bind fun y185 => ((some (([] : List Int) : List Int)).bind fun y188 => (if y188.length + l0_1.length < 17592186044416 then ((some (y188 ++ l0_1 : List Int)).bind fun y191 => (if a2 > 0 then (if 0 ≤ a1 then (if a1 < (y185.length : Int) then ((some (y185.set (a1 : Int).toNat (wrap64 ((rd y185 a1) + a2)) : List Int)).bind fun y196 => ((impl_isCounter.f y196 y191).bind fun t197 => (if t197 = true then (some (y196, y191, true)) else (some (([] : List Int), ([] : List Int), false))))) else (none)) else (none)) else (if 0 ≤ a1 then (if a1 < (y191.length : Int) then ((some (y191.set (a1 : Int).toNat (wrap64 ((rd y191 a1) - a2)) : List Int)).bind fun y199 => ((impl_isCounter.f y185 y199).bind fun t200 => (if t200 = true then (some (y185, y199, true)) else (some (([] : List Int), ([] : List Int), false))))) else (none)) else (none)))) else (none)))) else (none))) = some (r1, r2, r3) := by rw [if_neg (show ¬ (false = true) by decide)] at H; exact H
 clear H
 have H := H1
 clear H1
 obtain ⟨y182, hy182⟩ : ∃ y_ : List Int, y_ = (([] : List Int)) := ⟨_, rfl⟩
 replace H : (if y182.length + l0_0.length < 17592186044416 then ((some (y182 ++ l0_0 : List Int)).bind fun y185 => ((some (([] : List Int) : List Int)).bind fun y188 => (if y188.length + l0_1.length < 17592186044416 then ((some (y188 ++ l0_1 : List Int)).bind fun y191 => (if a2 > 0 then (if 0 ≤ a1 then (if a1 < (y185.length : Int) then ((some (y185.set (a1 : Int).toNat (wrap64 ((rd y185 a1) + a2)) : List Int)).bind fun y196 => ((impl_isCounter.f y196 y191).bind fun t197 => (if t197 = true then (some (y196, y191, true)) else (some (([] : List Int), ([] : List Int), false))))) else (none)) else (none)) else (if 0 ≤ a1 then (if a1 < (y191.length : Int) then ((some (y191.set (a1 : Int).toNat (wrap64 ((rd y191 a1) - a2)) : List Int)).bind fun y199 => ((impl_isCounter.f y185 y199).bind fun t200 => (if t200 = true then (some (y185, y199, true)) else (some (([] : List Int), ([] : List Int), false))))) else (none)) else (none)))) else (none)))) else (none)) = some (r1, r2, r3) := by first | (rw [hy182]; with_reducible exact H) | (have H2_ := (Option.bind_some _ _).symm.trans H; rw [hy182]; with_reducible exact H2_) | (have H2_ := (Option.bind_some _ _).symm.trans H; with_reducible exact H2_) | with_reducible exact H | (rw [hy182]; exact H) | exact H
 have Ny182 := Aside0.mk hy182
 clear hy182
 by_cases c24 : y182.length + l0_0.length < 17592186044416
 rotate_left
 ·rw [if_neg c24] at H
  exact absurd H (by simp)
 rw [if_pos c24] at H
 have LMc24 := Aside0.mk c24
 clear c24
 obtain ⟨y185, hy185⟩ : ∃ y_ : List Int, y_ = (y182 ++ l0_0) := ⟨_, rfl⟩
 replace H : ((some (([] : List Int) : List Int)).bind fun y188 => (if y188.length + l0_1.length < 17592186044416 then ((some (y188 ++ l0_1 : List Int)).bind fun y191 => (if a2 > 0 then (if 0 ≤ a1 then (if a1 < (y185.length : Int) then ((some (y185.set (a1 : Int).toNat (wrap64 ((rd y185 a1) + a2)) : List Int)).bind fun y196 => ((impl_isCounter.f y196 y191).bind fun t197 => (if t197 = true then (some (y196, y191, true)) else (some (([] : List Int), ([] : List Int), false))))) else (none)) else (none)) else (if 0 ≤ a1 then (if a1 < (y191.length : Int) then ((some (y191.set (a1 : Int).toNat (wrap64 ((rd y191 a1) - a2)) : List Int)).bind fun y199 => ((impl_isCounter.f y185 y199).bind fun t200 => (if t200 = true then (some (y185, y199, true)) else (some (([] : List Int), ([] : List Int), false))))) else (none)) else (none)))) else (none))) = some (r1, r2, r3) := by first | (rw [hy185]; with_reducible exact H) | (have H2_ := (Option.bind_some _ _).symm.trans H; rw [hy185]; with_reducible exact H2_) | (have H2_ := (Option.bind_some _ _).symm.trans H; with_reducible exact H2_) | with_reducible exact H | (rw [hy185]; exact H) | exact H
 have Ny185 := Aside0.mk hy185
 clear hy185
 obtain ⟨y188, hy188⟩ : ∃ y_ : List Int, y_ = (([] : List Int)) := ⟨_, rfl⟩
 replace H : (if y188.length + l0_1.length < 17592186044416 then ((some (y188 ++ l0_1 : List Int)).bind fun y191 => (if a2 > 0 then (if 0 ≤ a1 then (if a1 < (y185.length : Int) then ((some (y185.set (a1 : Int).toNat (wrap64 ((rd y185 a1) + a2)) : List Int)).bind fun y196 => ((impl_isCounter.f y196 y191).bind fun t197 => (if t197 = true then (some (y196, y191, true)) else (some (([] : List Int), ([] : List Int), false))))) else (none)) else (none)) else (if 0 ≤ a1 then (if a1 < (y191.length : Int) then ((some (y191.set (a1 : Int).toNat (wrap64 ((rd y191 a1) - a2)) : List Int)).bind fun y199 => ((impl_isCounter.f y185 y199).bind fun t200 => (if t200 = true then (some (y185, y199, true)) else (some (([] : List Int), ([] : List Int), false))))) else (none)) else (none)))) else (none)) = some (r1, r2, r3) := by first | (rw [hy188]; with_reducible exact H) | (have H2_ := (Option.bind_some _ _).symm.trans H; rw [hy188]; with_reducible exact H2_) | (have H2_ := (Option.bind_some _ _).symm.trans H; with_reducible exact H2_) | with_reducible exact H | (rw [hy188]; exact H) | exact H
 have Ny188 := Aside0.mk hy188
 clear hy188
 by_cases c25 : y188.length + l0_1.length < 17592186044416
 rotate_left
 ·rw [if_neg c25] at H
  exact absurd H (by simp)
 rw [if_pos c25] at H
 have LMc25 := Aside0.mk c25
 clear c25
 obtain ⟨y191, hy191⟩ : ∃ y_ : List Int, y_ = (y188 ++ l0_1) := ⟨_, rfl⟩
 replace H : (if a2 > 0 then (if 0 ≤ a1 then (if a1 < (y185.length : Int) then ((some (y185.set (a1 : Int).toNat (wrap64 ((rd y185 a1) + a2)) : List Int)).bind fun y196 => ((impl_isCounter.f y196 y191).bind fun t197 => (if t197 = true then (some (y196, y191, true)) else (some (([] : List Int), ([] : List Int), false))))) else (none)) else (none)) else (if 0 ≤ a1 then (if a1 < (y191.length : Int) then ((some (y191.set (a1 : Int).toNat (wrap64 ((rd y191 a1) - a2)) : List Int)).bind fun y199 => ((impl_isCounter.f y185 y199).bind fun t200 => (if t200 = true then (some (y185, y199, true)) else (some (([] : List Int), ([] : List Int), false))))) else (none)) else (none))) = some (r1, r2, r3) := by first | (rw [hy191]; with_reducible exact H) | (have H2_ := (Option.bind_some _ _).symm.trans H; rw [hy191]; with_reducible exact H2_) | (have H2_ := (Option.bind_some _ _).symm.trans H; with_reducible exact H2_) | with_reducible exact H | (rw [hy191]; exact H) | exact H
 have Ny191 := Aside0.mk hy191
 clear hy191
 by_cases c26 : a2 > 0
 ·rw [if_pos c26] at H
  have c26b0 : decide (0 < a2) = true := decide_eq_true c26
  clear c26
  by_cases c27 : 0 ≤ a1
  rotate_left
  ·rw [if_neg c27] at H
   exact absurd H (by simp)
  rw [if_pos c27] at H
  have c27b0 : decide (0 ≤ a1) = true := decide_eq_true c27
  clear c27
  by_cases c28 : a1 < (y185.length : Int)
  rotate_left
  ·rw [if_neg c28] at H
   exact absurd H (by simp)
  rw [if_pos c28] at H
  have c28b0 : decide (a1 < (y185.length : Int)) = true := decide_eq_true c28
  clear c28
  obtain ⟨y196, hy196⟩ : ∃ y_ : List Int, y_ = (y185.set (a1 : Int).toNat (wrap64 ((rd y185 a1) + a2))) := ⟨_, rfl⟩
  replace H : ((impl_isCounter.f y196 y191).bind fun t197 => (if t197 = true then (some (y196, y191, true)) else (some (([] : List Int), ([] : List Int), false)))) = some (r1, r2, r3) := by first | (rw [hy196]; with_reducible exact H) | (have H2_ := (Option.bind_some _ _).symm.trans H; rw [hy196]; with_reducible exact H2_) | (have H2_ := (Option.bind_some _ _).symm.trans H; with_reducible exact H2_) | with_reducible exact H | (rw [hy196]; exact H) | exact H
  have Ny196 := Aside0.mk hy196
  clear hy196
  replace H := Option.bind_eq_some_iff.mp H
  obtain ⟨t197, A300, H⟩ := H
  replace H : (if t197 = true then (some (y196, y191, true)) else (some (([] : List Int), ([] : List Int), false))) = some (r1, r2, r3) := H
  have A30 := Aside0.mk A300
  clear A300
  by_cases c31 : t197 = true
  rotate_left
  ·replace c31 := Bool.eq_false_iff.mpr c31
   subst c31
   have H1 : (some (([] : List Int), ([] : List Int), false)) = some (r1, r2, r3) := by rw [if_neg (show ¬ (false = true) by decide)] at H; exact H
   clear H
   have H := H1
   clear H1
   simp only [Option.some.injEq, Prod.mk.injEq] at H
   obtain ⟨rfl, rfl, rfl⟩ := H
   try go_wp2
   replace BK177 := Aside0.mk (blk_drew BK177.out)
   replace BK178 := Aside0.mk (blk_drew BK178.out)
   replace HB := Aside0.mk (below_drew1 HB.out)
   refine start_ (n := 11) (S := fun w' => w'.cell? ⟨gb177, 0, none⟩ = some (.slice A0_0 l0_0.length c0_0) ∧ w'.cell? ⟨gb177, 1, none⟩ = some (.slice A0_1 l0_1.length c0_1)) (ds := []) #[false, false, false, false, false, false, false, false, false, false, false] (by kernel_rfl) rfl rfl ⟨bc_ BK177.out 0, bc_ BK177.out 1⟩ (fun hHeld => ?_); refine with_tabW impl_CountBy.tab3 impl_CountBy.bits3 (fun HT_ HW_ => ?_)
   generalize wc.drew = w58 at BK177 BK178 HB hHeld ⊢
   refine pu_ 1 (some 24) (h := ?_)
   refine pu_ 5 (some 28) (h := ?_)
   refine tk2_ 2 (some 25) (h := ?_)
   refine tk2_ 6 (some 29) (h := ?_)
   refine join_ (σ := Value × Value × Value × Value × Nat) 1 #[true, true, true, true, true, true, true, true, true, true, false] (fun s_ => [(23, s_.1), (26, s_.2.1), (27, s_.2.2.1), (30, s_.2.2.2.1), (8, .pointer (some ⟨s_.2.2.2.2, 0, none⟩)), (31, .agg #[s_.2.1, s_.2.2.2.1])]) (fun s_ w' => (w'.cell? ⟨gb177, 0, none⟩ = some (.slice A0_0 l0_0.length c0_0) ∧ w'.cell? ⟨gb177, 1, none⟩ = some (.slice A0_1 l0_1.length c0_1)) ∧ (Kd.R (Kd.int .i64) 3 w' w.heap.size (fun k_ => some k_ ≠ (s_.2.2.2.1 : Value).ownBlock) s_.2.1 y185) ∧ (Kd.R (Kd.int .i64) 3 w' w.heap.size (fun k_ => some k_ ≠ (s_.2.1 : Value).ownBlock) s_.2.2.2.1 y191) ∧ (w'.heap[gb177]? = some (.cells #[.slice A0_0 l0_0.length c0_0, .slice A0_1 l0_1.length c0_1] 27 (0, 0))) ∧ (w'.heap[gb178]? = some (.cells #[.slice none 0 0, .slice none 0 0] 27 (0, 0))) ∧ (w'.heap[s_.2.2.2.2]? = some (.cells #[.slice none 0 0, .slice none 0 0] 27 (0, 0))) ∧ (w.heap.size ≤ s_.2.2.2.2) ∧ (w.heap.size ≤ s_.2.2.2.2) ∧ (gb177 ≠ s_.2.2.2.2) ∧ (s_.2.2.2.2 ≠ gb177) ∧ (gb178 ≠ s_.2.2.2.2) ∧ (s_.2.2.2.2 ≠ gb178) ∧ (Below w.heap.size w w')) ?_ ?_
   rotate_left
   ·intro hJ0_3_4_7_9
    refine join_ (σ := Value × Value × Value × Value) 2 #[true, true, true, true, true, true, true, true, true, false, false] (fun s_ => [(23, s_.1), (26, s_.2.1), (27, s_.2.2.1), (30, s_.2.2.2), (31, .agg #[s_.2.1, s_.2.2.2])]) (fun s_ w' => (w'.cell? ⟨gb177, 0, none⟩ = some (.slice A0_0 l0_0.length c0_0) ∧ w'.cell? ⟨gb177, 1, none⟩ = some (.slice A0_1 l0_1.length c0_1)) ∧ (Kd.R (Kd.int .i64) 3 w' w.heap.size (fun k_ => some k_ ≠ (s_.2.2.2 : Value).ownBlock) s_.2.1 y185) ∧ (Kd.R (Kd.int .i64) 3 w' w.heap.size (fun k_ => some k_ ≠ (s_.2.1 : Value).ownBlock) s_.2.2.2 y191) ∧ (w'.heap[gb177]? = some (.cells #[.slice A0_0 l0_0.length c0_0, .slice A0_1 l0_1.length c0_1] 27 (0, 0))) ∧ (w'.heap[gb178]? = some (.cells #[.slice none 0 0, .slice none 0 0] 27 (0, 0))) ∧ (Below w.heap.size w w')) ?_ ?_
    rotate_left
    ·intro hJ0_3_4_7
     refine join_ (σ := Value × Value × Value × Nat) 3 #[true, true, true, true, true, true, true, false, false, true, false] (fun s_ => [(23, s_.1), (26, s_.2.1), (27, s_.2.2.1), (8, .pointer (some ⟨s_.2.2.2, 0, none⟩))]) (fun s_ w' => (w'.cell? ⟨gb177, 0, none⟩ = some (.slice A0_0 l0_0.length c0_0) ∧ w'.cell? ⟨gb177, 1, none⟩ = some (.slice A0_1 l0_1.length c0_1)) ∧ (Kd.R (Kd.int .i64) 3 w' w.heap.size (fun k_ => some k_ ≠ (s_.2.2.1 : Value).ownBlock) s_.2.1 y185) ∧ (Kd.R (Kd.int .i64) 3 w' w.heap.size (fun k_ => some k_ ≠ (s_.2.1 : Value).ownBlock) s_.2.2.1 y188) ∧ (w'.heap[gb177]? = some (.cells #[.slice A0_0 l0_0.length c0_0, .slice A0_1 l0_1.length c0_1] 27 (0, 0))) ∧ (w'.heap[gb178]? = some (.cells #[.slice none 0 0, .slice none 0 0] 27 (0, 0))) ∧ (w'.heap[s_.2.2.2]? = some (.cells #[.slice none 0 0, .slice none 0 0] 27 (0, 0))) ∧ (w.heap.size ≤ s_.2.2.2) ∧ (w.heap.size ≤ s_.2.2.2) ∧ (gb177 ≠ s_.2.2.2) ∧ (s_.2.2.2 ≠ gb177) ∧ (gb178 ≠ s_.2.2.2) ∧ (s_.2.2.2 ≠ gb178) ∧ (Below w.heap.size w w')) ?_ ?_
     rotate_left
     ·intro hJ0_3_4_9
      refine join_ (σ := Value × Value × Value) 4 #[true, true, true, true, true, true, true, false, false, false, false] (fun s_ => [(23, s_.1), (26, s_.2.1), (27, s_.2.2)]) (fun s_ w' => (w'.cell? ⟨gb177, 0, none⟩ = some (.slice A0_0 l0_0.length c0_0) ∧ w'.cell? ⟨gb177, 1, none⟩ = some (.slice A0_1 l0_1.length c0_1)) ∧ (Kd.R (Kd.int .i64) 3 w' w.heap.size (fun k_ => some k_ ≠ (s_.2.2 : Value).ownBlock) s_.2.1 y185) ∧ (Kd.R (Kd.int .i64) 3 w' w.heap.size (fun k_ => some k_ ≠ (s_.2.1 : Value).ownBlock) s_.2.2 y188) ∧ (w'.heap[gb177]? = some (.cells #[.slice A0_0 l0_0.length c0_0, .slice A0_1 l0_1.length c0_1] 27 (0, 0))) ∧ (w'.heap[gb178]? = some (.cells #[.slice none 0 0, .slice none 0 0] 27 (0, 0))) ∧ (Below w.heap.size w w')) ?_ ?_
      rotate_left
      ·intro hJ0_3_4
       refine join_ (σ := Value × Value × Nat) 4 #[true, true, true, true, false, true, true, false, false, true, false] (fun s_ => [(23, s_.1), (26, s_.2.1), (8, .pointer (some ⟨s_.2.2, 0, none⟩))]) (fun s_ w' => (w'.cell? ⟨gb177, 0, none⟩ = some (.slice A0_0 l0_0.length c0_0) ∧ w'.cell? ⟨gb177, 1, none⟩ = some (.slice A0_1 l0_1.length c0_1)) ∧ (Kd.R (Kd.int .i64) 3 w' w.heap.size (fun _ => True) s_.2.1 y185) ∧ (w'.heap[gb177]? = some (.cells #[.slice A0_0 l0_0.length c0_0, .slice A0_1 l0_1.length c0_1] 27 (0, 0))) ∧ (w'.heap[gb178]? = some (.cells #[.slice none 0 0, .slice none 0 0] 27 (0, 0))) ∧ (w'.heap[s_.2.2]? = some (.cells #[.slice none 0 0, .slice none 0 0] 27 (0, 0))) ∧ (w.heap.size ≤ s_.2.2) ∧ (w.heap.size ≤ s_.2.2) ∧ (gb177 ≠ s_.2.2) ∧ (s_.2.2 ≠ gb177) ∧ (gb178 ≠ s_.2.2) ∧ (s_.2.2 ≠ gb178) ∧ (Below w.heap.size w w')) ?_ ?_
       rotate_left
       ·intro hJ0_3_9
        refine join_ (σ := Value × Value × Nat) 4 #[true, true, true, false, true, true, true, false, false, true, false] (fun s_ => [(23, s_.1), (27, s_.2.1), (8, .pointer (some ⟨s_.2.2, 0, none⟩))]) (fun s_ w' => (w'.cell? ⟨gb177, 0, none⟩ = some (.slice A0_0 l0_0.length c0_0) ∧ w'.cell? ⟨gb177, 1, none⟩ = some (.slice A0_1 l0_1.length c0_1)) ∧ (Kd.R (Kd.int .i64) 3 w' w.heap.size (fun k_ => some k_ ≠ (s_.2.1 : Value).ownBlock) s_.1 y182) ∧ (Kd.R (Kd.int .i64) 3 w' w.heap.size (fun k_ => some k_ ≠ (s_.1 : Value).ownBlock) s_.2.1 y188) ∧ (w'.heap[gb177]? = some (.cells #[.slice A0_0 l0_0.length c0_0, .slice A0_1 l0_1.length c0_1] 27 (0, 0))) ∧ (w'.heap[gb178]? = some (.cells #[.slice none 0 0, .slice none 0 0] 27 (0, 0))) ∧ (w'.heap[s_.2.2]? = some (.cells #[.slice none 0 0, .slice none 0 0] 27 (0, 0))) ∧ (w.heap.size ≤ s_.2.2) ∧ (w.heap.size ≤ s_.2.2) ∧ (gb177 ≠ s_.2.2) ∧ (s_.2.2 ≠ gb177) ∧ (gb178 ≠ s_.2.2) ∧ (s_.2.2 ≠ gb178) ∧ (Below w.heap.size w w')) ?_ ?_
        rotate_left
        ·intro hJ0_4_9
         refine join_ (σ := Value × Value) 5 #[true, true, true, true, false, true, true, false, false, false, false] (fun s_ => [(23, s_.1), (26, s_.2)]) (fun s_ w' => (w'.cell? ⟨gb177, 0, none⟩ = some (.slice A0_0 l0_0.length c0_0) ∧ w'.cell? ⟨gb177, 1, none⟩ = some (.slice A0_1 l0_1.length c0_1)) ∧ (Kd.R (Kd.int .i64) 3 w' w.heap.size (fun _ => True) s_.2 y185) ∧ (w'.heap[gb177]? = some (.cells #[.slice A0_0 l0_0.length c0_0, .slice A0_1 l0_1.length c0_1] 27 (0, 0))) ∧ (w'.heap[gb178]? = some (.cells #[.slice none 0 0, .slice none 0 0] 27 (0, 0))) ∧ (Below w.heap.size w w')) ?_ ?_
         rotate_left
         ·intro hJ0_3
          refine join_ (σ := Value × Value) 5 #[true, true, true, false, true, true, true, false, false, false, false] (fun s_ => [(23, s_.1), (27, s_.2)]) (fun s_ w' => (w'.cell? ⟨gb177, 0, none⟩ = some (.slice A0_0 l0_0.length c0_0) ∧ w'.cell? ⟨gb177, 1, none⟩ = some (.slice A0_1 l0_1.length c0_1)) ∧ (Kd.R (Kd.int .i64) 3 w' w.heap.size (fun k_ => some k_ ≠ (s_.2 : Value).ownBlock) s_.1 y182) ∧ (Kd.R (Kd.int .i64) 3 w' w.heap.size (fun k_ => some k_ ≠ (s_.1 : Value).ownBlock) s_.2 y188) ∧ (w'.heap[gb177]? = some (.cells #[.slice A0_0 l0_0.length c0_0, .slice A0_1 l0_1.length c0_1] 27 (0, 0))) ∧ (w'.heap[gb178]? = some (.cells #[.slice none 0 0, .slice none 0 0] 27 (0, 0))) ∧ (Below w.heap.size w w')) ?_ ?_
          rotate_left
          ·intro hJ0_4
           refine join_ (σ := Value × Nat) 5 #[true, true, true, false, false, true, true, false, false, true, false] (fun s_ => [(23, s_.1), (8, .pointer (some ⟨s_.2, 0, none⟩))]) (fun s_ w' => (w'.cell? ⟨gb177, 0, none⟩ = some (.slice A0_0 l0_0.length c0_0) ∧ w'.cell? ⟨gb177, 1, none⟩ = some (.slice A0_1 l0_1.length c0_1)) ∧ (Kd.R (Kd.int .i64) 3 w' w.heap.size (fun _ => True) s_.1 y182) ∧ (w'.heap[gb177]? = some (.cells #[.slice A0_0 l0_0.length c0_0, .slice A0_1 l0_1.length c0_1] 27 (0, 0))) ∧ (w'.heap[gb178]? = some (.cells #[.slice none 0 0, .slice none 0 0] 27 (0, 0))) ∧ (w'.heap[s_.2]? = some (.cells #[.slice none 0 0, .slice none 0 0] 27 (0, 0))) ∧ (w.heap.size ≤ s_.2) ∧ (w.heap.size ≤ s_.2) ∧ (gb177 ≠ s_.2) ∧ (s_.2 ≠ gb177) ∧ (gb178 ≠ s_.2) ∧ (s_.2 ≠ gb178) ∧ (Below w.heap.size w w')) ?_ ?_
           rotate_left
           ·intro hJ0_9
            refine join_ (σ := Value × Nat) 5 #[false, true, true, false, true, true, true, false, false, true, false] (fun s_ => [(27, s_.1), (8, .pointer (some ⟨s_.2, 0, none⟩))]) (fun s_ w' => (w'.cell? ⟨gb177, 0, none⟩ = some (.slice A0_0 l0_0.length c0_0) ∧ w'.cell? ⟨gb177, 1, none⟩ = some (.slice A0_1 l0_1.length c0_1)) ∧ (Kd.R (Kd.int .i64) 3 w' w.heap.size (fun _ => True) s_.1 y188) ∧ (w'.heap[gb177]? = some (.cells #[.slice A0_0 l0_0.length c0_0, .slice A0_1 l0_1.length c0_1] 27 (0, 0))) ∧ (w'.heap[gb178]? = some (.cells #[.slice none 0 0, .slice none 0 0] 27 (0, 0))) ∧ (w'.heap[s_.2]? = some (.cells #[.slice none 0 0, .slice none 0 0] 27 (0, 0))) ∧ (w.heap.size ≤ s_.2) ∧ (w.heap.size ≤ s_.2) ∧ (gb177 ≠ s_.2) ∧ (s_.2 ≠ gb177) ∧ (gb178 ≠ s_.2) ∧ (s_.2 ≠ gb178) ∧ (Below w.heap.size w w')) ?_ ?_
            rotate_left
            ·intro hJ4_9
             refine join_ (σ := Value) 6 #[true, true, true, false, false, true, true, false, false, false, false] (fun s_ => [(23, s_)]) (fun s_ w' => (w'.cell? ⟨gb177, 0, none⟩ = some (.slice A0_0 l0_0.length c0_0) ∧ w'.cell? ⟨gb177, 1, none⟩ = some (.slice A0_1 l0_1.length c0_1)) ∧ (Kd.R (Kd.int .i64) 3 w' w.heap.size (fun _ => True) s_ y182) ∧ (w'.heap[gb177]? = some (.cells #[.slice A0_0 l0_0.length c0_0, .slice A0_1 l0_1.length c0_1] 27 (0, 0))) ∧ (w'.heap[gb178]? = some (.cells #[.slice none 0 0, .slice none 0 0] 27 (0, 0))) ∧ (Below w.heap.size w w')) ?_ ?_
             rotate_left
             ·intro hJ0
              refine join_ (σ := Value) 6 #[false, true, true, false, true, true, true, false, false, false, false] (fun s_ => [(27, s_)]) (fun s_ w' => (w'.cell? ⟨gb177, 0, none⟩ = some (.slice A0_0 l0_0.length c0_0) ∧ w'.cell? ⟨gb177, 1, none⟩ = some (.slice A0_1 l0_1.length c0_1)) ∧ (Kd.R (Kd.int .i64) 3 w' w.heap.size (fun _ => True) s_ y188) ∧ (w'.heap[gb177]? = some (.cells #[.slice A0_0 l0_0.length c0_0, .slice A0_1 l0_1.length c0_1] 27 (0, 0))) ∧ (w'.heap[gb178]? = some (.cells #[.slice none 0 0, .slice none 0 0] 27 (0, 0))) ∧ (Below w.heap.size w w')) ?_ ?_
              rotate_left
              ·intro hJ4
               refine join_ (σ := Nat) 6 #[false, true, true, false, false, true, true, false, false, true, false] (fun s_ => [(8, .pointer (some ⟨s_, 0, none⟩))]) (fun s_ w' => (w'.cell? ⟨gb177, 0, none⟩ = some (.slice A0_0 l0_0.length c0_0) ∧ w'.cell? ⟨gb177, 1, none⟩ = some (.slice A0_1 l0_1.length c0_1)) ∧ (w'.heap[gb177]? = some (.cells #[.slice A0_0 l0_0.length c0_0, .slice A0_1 l0_1.length c0_1] 27 (0, 0))) ∧ (w'.heap[gb178]? = some (.cells #[.slice none 0 0, .slice none 0 0] 27 (0, 0))) ∧ (w'.heap[s_]? = some (.cells #[.slice none 0 0, .slice none 0 0] 27 (0, 0))) ∧ (w.heap.size ≤ s_) ∧ (w.heap.size ≤ s_) ∧ (gb177 ≠ s_) ∧ (s_ ≠ gb177) ∧ (gb178 ≠ s_) ∧ (s_ ≠ gb178) ∧ (Below w.heap.size w w')) ?_ ?_
               rotate_left
               ·intro hJ9
                refine th_ 0 4 9 (some 23) (some 27) (some 8) (h1 := fun K hK => ?_) (h2 := fun K hK => ?_) (h3 := fun K hK => ?_)
                ·skip
                 refine Kd.R_lit_step (Kd.int .i64) _ 3 rfl (N := 23) rfl (xs := ([] : List Int)) (inner := []) (ok := fun _ => True) (okp := fun _ => True) gs_ ?hp (fun _ hk => hk) trivial (Below.refl _ _) (Nat.le_refl _) (by simp) ?_; (case hp => exact (Reps.none _ _))
                 intro v183 w59 ho60 hb hg_ hnew_
                 clear hg_ hnew_
                 (first | rw [← Ny182.out] at ho60 | (simp only [Int.reduceToNat] at ho60; rw [← Ny182.out] at ho60))
                 have HO184 := Aside0.mk (Kd.R_lower ho60 bz_)
                 replace BK177 := bb_ BK177 hb
                 replace BK178 := bb_ BK178 hb
                 replace HB := Aside0.mk (below_step bl_ hb)
                 clear hb ho60
                 refine hK.out _ _ ⟨bc_ BK177.out 0, bc_ BK177.out 1⟩ (fun hHeld => ?_)
                 clear hK K
                 refine norm_ nn_ ?_
                 exact norm_ nq_ (hJ0 (v183) _ ⟨hHeld, kr_ HO184.out, kb_ BK177.out, kb_ BK178.out, bl_⟩)
                ·skip
                 refine Kd.R_lit_step (Kd.int .i64) _ 3 rfl (N := 27) rfl (xs := ([] : List Int)) (inner := []) (ok := fun _ => True) (okp := fun _ => True) gs_ ?hp (fun _ hk => hk) trivial (Below.refl _ _) (Nat.le_refl _) (by simp) ?_; (case hp => exact (Reps.none _ _))
                 intro v189 w59 ho60 hb hg_ hnew_
                 clear hg_ hnew_
                 (first | rw [← Ny188.out] at ho60 | (simp only [Int.reduceToNat] at ho60; rw [← Ny188.out] at ho60))
                 have HO190 := Aside0.mk (Kd.R_lower ho60 bz_)
                 replace BK177 := bb_ BK177 hb
                 replace BK178 := bb_ BK178 hb
                 replace HB := Aside0.mk (below_step bl_ hb)
                 clear hb ho60
                 refine hK.out _ _ ⟨bc_ BK177.out 0, bc_ BK177.out 1⟩ (fun hHeld => ?_)
                 clear hK K
                 refine norm_ nn_ ?_
                 exact norm_ nq_ (hJ4 (v189) _ ⟨hHeld, kr_ HO190.out, kb_ BK177.out, kb_ BK178.out, bl_⟩)
                ·skip
                 refine box_step rfl (N := 8) rfl (cs := #[.slice none 0 0, .slice none 0 0]) (t := 27) gs_ ?_
                 intro gb194 hg w59 hbox hb
                 have BK194 := Aside0.mk (hbox)
                 have GW194 := Aside0.mk ((by rw [hg]; exact bz_ : w.heap.size ≤ gb194))
                 have GE194 := GW194
                 replace HB := Aside0.mk (below_step bl_ hb)
                 have NB177_194 := nl_ hg BK177
                 have NB194_177 := nm_ hg BK177
                 replace BK177 := bb_ BK177 hb
                 have NB178_194 := nl_ hg BK178
                 have NB194_178 := nm_ hg BK178
                 replace BK178 := bb_ BK178 hb
                 clear hb hbox hg
                 refine hK.out _ _ ⟨bc_ BK177.out 0, bc_ BK177.out 1⟩ (fun hHeld => ?_)
                 clear hK K
                 refine norm_ nn_ ?_
                 exact norm_ nq_ (hJ9 (gb194) _ ⟨hHeld, kb_ BK177.out, kb_ BK178.out, kb_ BK194.out, GW194.out, GE194.out, NB177_194.out, NB194_177.out, NB178_194.out, NB194_178.out, bl_⟩)
               ·skip
                rintro gb194 w60 ⟨hS_, h0_, h1_, h2_, h3_, h4_, h5_, h6_, h7_, h8_, h9_⟩
                try dsimp only at h0_ h1_ h2_ h3_ h4_ h5_ h6_ h7_ h8_ h9_
                replace BK177 := Aside0.mk h0_
                replace BK178 := Aside0.mk h1_
                have BK194 := Aside0.mk h2_
                have GW194 := Aside0.mk h3_
                have GE194 := Aside0.mk h4_
                have NB177_194 := Aside0.mk h5_
                have NB194_177 := Aside0.mk h6_
                have NB178_194 := Aside0.mk h7_
                have NB194_178 := Aside0.mk h8_
                replace HB := Aside0.mk h9_
                clear h0_ h1_ h2_ h3_ h4_ h5_ h6_ h7_ h8_ h9_
                try dsimp only at hS_
                have hHeld := hS_
                refine norm_ np_ ?_
                refine tw_ 0 4 (some 23) (some 27) (h1 := fun K hK => ?_) (h2 := fun K hK => ?_)
                ·skip
                 refine Kd.R_lit_step (Kd.int .i64) _ 3 rfl (N := 23) rfl (xs := ([] : List Int)) (inner := []) (ok := fun _ => True) (okp := fun _ => True) gs_ ?hp (fun _ hk => hk) trivial (Below.refl _ _) (Nat.le_refl _) (by simp) ?_; (case hp => exact (Reps.none _ _))
                 intro v183 w61 ho62 hb hg_ hnew_
                 clear hg_ hnew_
                 (first | rw [← Ny182.out] at ho62 | (simp only [Int.reduceToNat] at ho62; rw [← Ny182.out] at ho62))
                 have HO184 := Aside0.mk (Kd.R_lower ho62 bz_)
                 replace BK177 := bb_ BK177 hb
                 replace BK178 := bb_ BK178 hb
                 replace BK194 := bb_ BK194 hb
                 replace HB := Aside0.mk (below_step bl_ hb)
                 clear hb ho62
                 refine hK.out _ _ ⟨bc_ BK177.out 0, bc_ BK177.out 1⟩ (fun hHeld => ?_)
                 clear hK K
                 refine norm_ nn_ ?_
                 exact norm_ nq_ (hJ0_9 (v183, gb194) _ ⟨hHeld, kr_ HO184.out, kb_ BK177.out, kb_ BK178.out, kb_ BK194.out, GW194.out, GE194.out, NB177_194.out, NB194_177.out, NB178_194.out, NB194_178.out, bl_⟩)
                ·skip
                 refine Kd.R_lit_step (Kd.int .i64) _ 3 rfl (N := 27) rfl (xs := ([] : List Int)) (inner := []) (ok := fun _ => True) (okp := fun _ => True) gs_ ?hp (fun _ hk => hk) trivial (Below.refl _ _) (Nat.le_refl _) (by simp) ?_; (case hp => exact (Reps.none _ _))
                 intro v189 w61 ho62 hb hg_ hnew_
                 clear hg_ hnew_
                 (first | rw [← Ny188.out] at ho62 | (simp only [Int.reduceToNat] at ho62; rw [← Ny188.out] at ho62))
                 have HO190 := Aside0.mk (Kd.R_lower ho62 bz_)
                 replace BK177 := bb_ BK177 hb
                 replace BK178 := bb_ BK178 hb
                 replace BK194 := bb_ BK194 hb
                 replace HB := Aside0.mk (below_step bl_ hb)
                 clear hb ho62
                 refine hK.out _ _ ⟨bc_ BK177.out 0, bc_ BK177.out 1⟩ (fun hHeld => ?_)
                 clear hK K
                 refine norm_ nn_ ?_
                 exact norm_ nq_ (hJ4_9 (v189, gb194) _ ⟨hHeld, kr_ HO190.out, kb_ BK177.out, kb_ BK178.out, kb_ BK194.out, GW194.out, GE194.out, NB177_194.out, NB194_177.out, NB178_194.out, NB194_178.out, bl_⟩)
              ·skip
               rintro v189 w61 ⟨hS_, h0_, h1_, h2_, h3_⟩
               try dsimp only at h0_ h1_ h2_ h3_
               have HO190 := Aside0.mk h0_
               replace BK177 := Aside0.mk h1_
               replace BK178 := Aside0.mk h2_
               replace HB := Aside0.mk h3_
               clear h0_ h1_ h2_ h3_
               try dsimp only at hS_
               have hHeld := hS_
               refine norm_ np_ ?_
               refine tw_ 0 9 (some 23) (some 8) (h1 := fun K hK => ?_) (h2 := fun K hK => ?_)
               ·skip
                refine Kd.R_lit_step (Kd.int .i64) _ 3 rfl (N := 23) rfl (xs := ([] : List Int)) (inner := []) (ok := fun _ => True) (okp := fun _ => True) gs_ ?hp (fun _ hk => hk) trivial (Below.refl _ _) (Nat.le_refl _) (by simp) ?_; (case hp => exact (Reps.none _ _))
                intro v183 w62 ho63 hb hg_ hnew_
                clear hg_ hnew_
                (first | rw [← Ny182.out] at ho63 | (simp only [Int.reduceToNat] at ho63; rw [← Ny182.out] at ho63))
                have HO184 := Aside0.mk (Kd.R_lower (rn_ ho63 HO190.out) bz_)
                replace HO190 := Aside0.mk (Kd.R_elder' (kr_ HO190.out) (Kd.R_base ho63) hb)
                replace BK177 := bb_ BK177 hb
                replace BK178 := bb_ BK178 hb
                replace HB := Aside0.mk (below_step bl_ hb)
                clear hb ho63
                refine hK.out _ _ ⟨bc_ BK177.out 0, bc_ BK177.out 1⟩ (fun hHeld => ?_)
                clear hK K
                refine norm_ nn_ ?_
                exact norm_ nq_ (hJ0_4 (v183, v189) _ ⟨hHeld, kp_ HO184.out, kp_ HO190.out, kb_ BK177.out, kb_ BK178.out, bl_⟩)
               ·skip
                refine box_step rfl (N := 8) rfl (cs := #[.slice none 0 0, .slice none 0 0]) (t := 27) gs_ ?_
                intro gb194 hg w62 hbox hb
                replace HO190 := rb_ HO190 hb
                have BK194 := Aside0.mk (hbox)
                have GW194 := Aside0.mk ((by rw [hg]; exact bz_ : w.heap.size ≤ gb194))
                have GE194 := GW194
                replace HB := Aside0.mk (below_step bl_ hb)
                have NB177_194 := nl_ hg BK177
                have NB194_177 := nm_ hg BK177
                replace BK177 := bb_ BK177 hb
                have NB178_194 := nl_ hg BK178
                have NB194_178 := nm_ hg BK178
                replace BK178 := bb_ BK178 hb
                clear hb hbox hg
                refine hK.out _ _ ⟨bc_ BK177.out 0, bc_ BK177.out 1⟩ (fun hHeld => ?_)
                clear hK K
                refine norm_ nn_ ?_
                exact norm_ nq_ (hJ4_9 (v189, gb194) _ ⟨hHeld, kr_ HO190.out, kb_ BK177.out, kb_ BK178.out, kb_ BK194.out, GW194.out, GE194.out, NB177_194.out, NB194_177.out, NB178_194.out, NB194_178.out, bl_⟩)
             ·skip
              rintro v183 w61 ⟨hS_, h0_, h1_, h2_, h3_⟩
              try dsimp only at h0_ h1_ h2_ h3_
              have HO184 := Aside0.mk h0_
              replace BK177 := Aside0.mk h1_
              replace BK178 := Aside0.mk h2_
              replace HB := Aside0.mk h3_
              clear h0_ h1_ h2_ h3_
              try dsimp only at hS_
              have hHeld := hS_
              refine norm_ np_ ?_
              refine th_ 3 4 9 (some 26) (some 27) (some 8) (h1 := fun K hK => ?_) (h2 := fun K hK => ?_) (h3 := fun K hK => ?_)
              ·skip
               refine Kd.R_append_rows_step (Kd.int .i64) (w0 := w) w.heap.size (by rfl) (.tmp 23) (.tmp 25) 22 3 (.int .i64 0) 8 rfl Try.underlying22 info3 rfl (by decide) (by omega) v183 y182 l0_0 _ _ _ (fun _ => True) (fun _ => False) rfl rfl ?aO ?aR (fun _ _ h => h) (fun _ h => h.elim) ?aF ?aB ?aS ?aL ?_
               (case aR => exact kc_ (Kd.C_below HR0_0.out HB.out))
               (case aB => exact bl_)
               (case aF => exact (fun _ _ => trivial))
               (case aO => exact (kr_ HO184.out))
               (case aS => exact bz_)
               (case aL => have := LMc24.out; omega)
               intro v186 w62 ho hb hg hat
               rw [← Ny185.out] at ho
               replace BK177 := bgr_ BK177 hg HO184 BK177
               replace BK178 := bgr_ BK178 hg HO184 BK178
               replace HB := Aside0.mk (hb)
               have HO187 := Aside0.mk (ho)
               clear HO184 ho hb hg hat
               refine hK.out _ _ ⟨bc_ BK177.out 0, bc_ BK177.out 1⟩ (fun hHeld => ?_)
               clear hK K
               refine norm_ nn_ ?_
               exact norm_ nq_ (hJ0_3 (v183, v186) _ ⟨hHeld, kr_ HO187.out, kb_ BK177.out, kb_ BK178.out, bl_⟩)
              ·skip
               refine Kd.R_lit_step (Kd.int .i64) _ 3 rfl (N := 27) rfl (xs := ([] : List Int)) (inner := []) (ok := fun _ => True) (okp := fun _ => True) gs_ ?hp (fun _ hk => hk) trivial (Below.refl _ _) (Nat.le_refl _) (by simp) ?_; (case hp => exact (Reps.none _ _))
               intro v189 w62 ho63 hb hg_ hnew_
               clear hg_ hnew_
               (first | rw [← Ny188.out] at ho63 | (simp only [Int.reduceToNat] at ho63; rw [← Ny188.out] at ho63))
               have HO190 := Aside0.mk (Kd.R_lower (rn_ ho63 HO184.out) bz_)
               replace HO184 := Aside0.mk (Kd.R_elder' (kr_ HO184.out) (Kd.R_base ho63) hb)
               replace BK177 := bb_ BK177 hb
               replace BK178 := bb_ BK178 hb
               replace HB := Aside0.mk (below_step bl_ hb)
               clear hb ho63
               refine hK.out _ _ ⟨bc_ BK177.out 0, bc_ BK177.out 1⟩ (fun hHeld => ?_)
               clear hK K
               refine norm_ nn_ ?_
               exact norm_ nq_ (hJ0_4 (v183, v189) _ ⟨hHeld, kp_ HO184.out, kp_ HO190.out, kb_ BK177.out, kb_ BK178.out, bl_⟩)
              ·skip
               refine box_step rfl (N := 8) rfl (cs := #[.slice none 0 0, .slice none 0 0]) (t := 27) gs_ ?_
               intro gb194 hg w62 hbox hb
               replace HO184 := rb_ HO184 hb
               have BK194 := Aside0.mk (hbox)
               have GW194 := Aside0.mk ((by rw [hg]; exact bz_ : w.heap.size ≤ gb194))
               have GE194 := GW194
               replace HB := Aside0.mk (below_step bl_ hb)
               have NB177_194 := nl_ hg BK177
               have NB194_177 := nm_ hg BK177
               replace BK177 := bb_ BK177 hb
               have NB178_194 := nl_ hg BK178
               have NB194_178 := nm_ hg BK178
               replace BK178 := bb_ BK178 hb
               clear hb hbox hg
               refine hK.out _ _ ⟨bc_ BK177.out 0, bc_ BK177.out 1⟩ (fun hHeld => ?_)
               clear hK K
               refine norm_ nn_ ?_
               exact norm_ nq_ (hJ0_9 (v183, gb194) _ ⟨hHeld, kr_ HO184.out, kb_ BK177.out, kb_ BK178.out, kb_ BK194.out, GW194.out, GE194.out, NB177_194.out, NB194_177.out, NB178_194.out, NB194_178.out, bl_⟩)
            ·skip
             rintro ⟨v189, gb194⟩ w62 ⟨hS_, h0_, h1_, h2_, h3_, h4_, h5_, h6_, h7_, h8_, h9_, h10_⟩
             dsimp only at h0_ h1_ h2_ h3_ h4_ h5_ h6_ h7_ h8_ h9_ h10_
             have HO190 := Aside0.mk h0_
             replace BK177 := Aside0.mk h1_
             replace BK178 := Aside0.mk h2_
             have BK194 := Aside0.mk h3_
             have GW194 := Aside0.mk h4_
             have GE194 := Aside0.mk h5_
             have NB177_194 := Aside0.mk h6_
             have NB194_177 := Aside0.mk h7_
             have NB178_194 := Aside0.mk h8_
             have NB194_178 := Aside0.mk h9_
             replace HB := Aside0.mk h10_
             clear h0_ h1_ h2_ h3_ h4_ h5_ h6_ h7_ h8_ h9_ h10_
             try dsimp only at hS_
             have hHeld := hS_
             refine norm_ np_ ?_
             refine on_ 0 (some 23) (h := fun K hK => ?_)
             refine Kd.R_lit_step (Kd.int .i64) _ 3 rfl (N := 23) rfl (xs := ([] : List Int)) (inner := []) (ok := fun _ => True) (okp := fun _ => True) gs_ ?hp (fun _ hk => hk) trivial (Below.refl _ _) (Nat.le_refl _) (by simp) ?_; (case hp => exact (Reps.none _ _))
             intro v183 w63 ho64 hb hg_ hnew_
             clear hg_ hnew_
             (first | rw [← Ny182.out] at ho64 | (simp only [Int.reduceToNat] at ho64; rw [← Ny182.out] at ho64))
             have HO184 := Aside0.mk (Kd.R_lower (rn_ ho64 HO190.out) bz_)
             replace HO190 := Aside0.mk (Kd.R_elder' (kr_ HO190.out) (Kd.R_base ho64) hb)
             replace BK177 := bb_ BK177 hb
             replace BK178 := bb_ BK178 hb
             replace BK194 := bb_ BK194 hb
             replace HB := Aside0.mk (below_step bl_ hb)
             clear hb ho64
             refine hK.out _ _ ⟨bc_ BK177.out 0, bc_ BK177.out 1⟩ (fun hHeld => ?_)
             clear hK K
             refine norm_ nn_ ?_
             exact norm_ nq_ (hJ0_4_9 (v183, v189, gb194) _ ⟨hHeld, kp_ HO184.out, kp_ HO190.out, kb_ BK177.out, kb_ BK178.out, kb_ BK194.out, GW194.out, GE194.out, NB177_194.out, NB194_177.out, NB178_194.out, NB194_178.out, bl_⟩)
           ·skip
            rintro ⟨v183, gb194⟩ w62 ⟨hS_, h0_, h1_, h2_, h3_, h4_, h5_, h6_, h7_, h8_, h9_, h10_⟩
            dsimp only at h0_ h1_ h2_ h3_ h4_ h5_ h6_ h7_ h8_ h9_ h10_
            have HO184 := Aside0.mk h0_
            replace BK177 := Aside0.mk h1_
            replace BK178 := Aside0.mk h2_
            have BK194 := Aside0.mk h3_
            have GW194 := Aside0.mk h4_
            have GE194 := Aside0.mk h5_
            have NB177_194 := Aside0.mk h6_
            have NB194_177 := Aside0.mk h7_
            have NB178_194 := Aside0.mk h8_
            have NB194_178 := Aside0.mk h9_
            replace HB := Aside0.mk h10_
            clear h0_ h1_ h2_ h3_ h4_ h5_ h6_ h7_ h8_ h9_ h10_
            try dsimp only at hS_
            have hHeld := hS_
            refine norm_ np_ ?_
            refine tw_ 3 4 (some 26) (some 27) (h1 := fun K hK => ?_) (h2 := fun K hK => ?_)
            ·skip
             refine Kd.R_append_rows_step (Kd.int .i64) (w0 := w) w.heap.size (by rfl) (.tmp 23) (.tmp 25) 22 3 (.int .i64 0) 8 rfl Try.underlying22 info3 rfl (by decide) (by omega) v183 y182 l0_0 _ _ _ (fun _ => True) (fun _ => False) rfl rfl ?aO ?aR (fun _ _ h => h) (fun _ h => h.elim) ?aF ?aB ?aS ?aL ?_
             (case aR => exact kc_ (Kd.C_below HR0_0.out HB.out))
             (case aB => exact bl_)
             (case aF => exact (fun _ _ => trivial))
             (case aO => exact (kr_ HO184.out))
             (case aS => exact bz_)
             (case aL => have := LMc24.out; omega)
             intro v186 w63 ho hb hg hat
             rw [← Ny185.out] at ho
             replace BK177 := bgr_ BK177 hg HO184 BK177
             replace BK178 := bgr_ BK178 hg HO184 BK178
             replace BK194 := bgr_ BK194 hg HO184 BK194
             replace HB := Aside0.mk (hb)
             have HO187 := Aside0.mk (ho)
             clear HO184 ho hb hg hat
             refine hK.out _ _ ⟨bc_ BK177.out 0, bc_ BK177.out 1⟩ (fun hHeld => ?_)
             clear hK K
             refine norm_ nn_ ?_
             exact norm_ nq_ (hJ0_3_9 (v183, v186, gb194) _ ⟨hHeld, kr_ HO187.out, kb_ BK177.out, kb_ BK178.out, kb_ BK194.out, GW194.out, GE194.out, NB177_194.out, NB194_177.out, NB178_194.out, NB194_178.out, bl_⟩)
            ·skip
             refine Kd.R_lit_step (Kd.int .i64) _ 3 rfl (N := 27) rfl (xs := ([] : List Int)) (inner := []) (ok := fun _ => True) (okp := fun _ => True) gs_ ?hp (fun _ hk => hk) trivial (Below.refl _ _) (Nat.le_refl _) (by simp) ?_; (case hp => exact (Reps.none _ _))
             intro v189 w63 ho64 hb hg_ hnew_
             clear hg_ hnew_
             (first | rw [← Ny188.out] at ho64 | (simp only [Int.reduceToNat] at ho64; rw [← Ny188.out] at ho64))
             have HO190 := Aside0.mk (Kd.R_lower (rn_ ho64 HO184.out) bz_)
             replace HO184 := Aside0.mk (Kd.R_elder' (kr_ HO184.out) (Kd.R_base ho64) hb)
             replace BK177 := bb_ BK177 hb
             replace BK178 := bb_ BK178 hb
             replace BK194 := bb_ BK194 hb
             replace HB := Aside0.mk (below_step bl_ hb)
             clear hb ho64
             refine hK.out _ _ ⟨bc_ BK177.out 0, bc_ BK177.out 1⟩ (fun hHeld => ?_)
             clear hK K
             refine norm_ nn_ ?_
             exact norm_ nq_ (hJ0_4_9 (v183, v189, gb194) _ ⟨hHeld, kp_ HO184.out, kp_ HO190.out, kb_ BK177.out, kb_ BK178.out, kb_ BK194.out, GW194.out, GE194.out, NB177_194.out, NB194_177.out, NB178_194.out, NB194_178.out, bl_⟩)
          ·skip
           rintro ⟨v183, v189⟩ w63 ⟨hS_, h0_, h1_, h2_, h3_, h4_⟩
           dsimp only at h0_ h1_ h2_ h3_ h4_
           have HO184 := Aside0.mk h0_
           have HO190 := Aside0.mk h1_
           replace BK177 := Aside0.mk h2_
           replace BK178 := Aside0.mk h3_
           replace HB := Aside0.mk h4_
           clear h0_ h1_ h2_ h3_ h4_
           try dsimp only at hS_
           have hHeld := hS_
           refine norm_ np_ ?_
           refine tw_ 3 9 (some 26) (some 8) (h1 := fun K hK => ?_) (h2 := fun K hK => ?_)
           ·skip
            refine Kd.R_append_rows_step (Kd.int .i64) (w0 := w) w.heap.size (by rfl) (.tmp 23) (.tmp 25) 22 3 (.int .i64 0) 8 rfl Try.underlying22 info3 rfl (by decide) (by omega) v183 y182 l0_0 _ _ _ (fun k_ => some k_ ≠ (v189 : Value).ownBlock) (fun _ => False) rfl rfl ?aO ?aR (fun _ _ h => h) (fun _ h => h.elim) ?aF ?aB ?aS ?aL ?_
            (case aR => exact kc_ (Kd.C_below HR0_0.out HB.out))
            (case aB => exact bl_)
            (case aF => exact (fun k_ hk => Kd.fresh' (Kd.R_lt (kr_ HO190.out)) k_ hk))
            (case aO => exact (kr_ HO184.out))
            (case aS => exact bz_)
            (case aL => have := LMc24.out; omega)
            intro v186 w64 ho hb hg hat
            rw [← Ny185.out] at ho
            replace BK177 := bgr_ BK177 hg HO184 BK177
            replace BK178 := bgr_ BK178 hg HO184 BK178
            replace HO190 := Aside0.mk (Kd.R_after (ok := (fun _ => True)) (by exact kr_ (Kd.R_mono HO190.out (fun _ hk => ⟨trivial, hk⟩))) hg hat)
            replace HB := Aside0.mk (hb)
            have HO187 := Aside0.mk (ho)
            clear HO184 ho hb hg hat
            refine hK.out _ _ ⟨bc_ BK177.out 0, bc_ BK177.out 1⟩ (fun hHeld => ?_)
            clear hK K
            refine norm_ nn_ ?_
            exact norm_ nq_ (hJ0_3_4 (v183, v186, v189) _ ⟨hHeld, kr_ HO187.out, kp_ HO190.out, kb_ BK177.out, kb_ BK178.out, bl_⟩)
           ·skip
            refine box_step rfl (N := 8) rfl (cs := #[.slice none 0 0, .slice none 0 0]) (t := 27) gs_ ?_
            intro gb194 hg w64 hbox hb
            replace HO184 := rb_ HO184 hb
            replace HO190 := rb_ HO190 hb
            have BK194 := Aside0.mk (hbox)
            have GW194 := Aside0.mk ((by rw [hg]; exact bz_ : w.heap.size ≤ gb194))
            have GE194 := GW194
            replace HB := Aside0.mk (below_step bl_ hb)
            have NB177_194 := nl_ hg BK177
            have NB194_177 := nm_ hg BK177
            replace BK177 := bb_ BK177 hb
            have NB178_194 := nl_ hg BK178
            have NB194_178 := nm_ hg BK178
            replace BK178 := bb_ BK178 hb
            clear hb hbox hg
            refine hK.out _ _ ⟨bc_ BK177.out 0, bc_ BK177.out 1⟩ (fun hHeld => ?_)
            clear hK K
            refine norm_ nn_ ?_
            exact norm_ nq_ (hJ0_4_9 (v183, v189, gb194) _ ⟨hHeld, kr_ HO184.out, kr_ HO190.out, kb_ BK177.out, kb_ BK178.out, kb_ BK194.out, GW194.out, GE194.out, NB177_194.out, NB194_177.out, NB178_194.out, NB194_178.out, bl_⟩)
         ·skip
          rintro ⟨v183, v186⟩ w62 ⟨hS_, h0_, h1_, h2_, h3_⟩
          dsimp only at h0_ h1_ h2_ h3_
          have HO187 := Aside0.mk h0_
          replace BK177 := Aside0.mk h1_
          replace BK178 := Aside0.mk h2_
          replace HB := Aside0.mk h3_
          clear h0_ h1_ h2_ h3_
          try dsimp only at hS_
          have hHeld := hS_
          refine norm_ np_ ?_
          refine tw_ 4 9 (some 27) (some 8) (h1 := fun K hK => ?_) (h2 := fun K hK => ?_)
          ·skip
           refine Kd.R_lit_step (Kd.int .i64) _ 3 rfl (N := 27) rfl (xs := ([] : List Int)) (inner := []) (ok := fun _ => True) (okp := fun _ => True) gs_ ?hp (fun _ hk => hk) trivial (Below.refl _ _) (Nat.le_refl _) (by simp) ?_; (case hp => exact (Reps.none _ _))
           intro v189 w63 ho64 hb hg_ hnew_
           clear hg_ hnew_
           (first | rw [← Ny188.out] at ho64 | (simp only [Int.reduceToNat] at ho64; rw [← Ny188.out] at ho64))
           have HO190 := Aside0.mk (Kd.R_lower (rn_ ho64 HO187.out) bz_)
           replace HO187 := Aside0.mk (Kd.R_elder' (kr_ HO187.out) (Kd.R_base ho64) hb)
           replace BK177 := bb_ BK177 hb
           replace BK178 := bb_ BK178 hb
           replace HB := Aside0.mk (below_step bl_ hb)
           clear hb ho64
           refine hK.out _ _ ⟨bc_ BK177.out 0, bc_ BK177.out 1⟩ (fun hHeld => ?_)
           clear hK K
           refine norm_ nn_ ?_
           exact norm_ nq_ (hJ0_3_4 (v183, v186, v189) _ ⟨hHeld, kp_ HO187.out, kp_ HO190.out, kb_ BK177.out, kb_ BK178.out, bl_⟩)
          ·skip
           refine box_step rfl (N := 8) rfl (cs := #[.slice none 0 0, .slice none 0 0]) (t := 27) gs_ ?_
           intro gb194 hg w63 hbox hb
           replace HO187 := rb_ HO187 hb
           have BK194 := Aside0.mk (hbox)
           have GW194 := Aside0.mk ((by rw [hg]; exact bz_ : w.heap.size ≤ gb194))
           have GE194 := GW194
           replace HB := Aside0.mk (below_step bl_ hb)
           have NB177_194 := nl_ hg BK177
           have NB194_177 := nm_ hg BK177
           replace BK177 := bb_ BK177 hb
           have NB178_194 := nl_ hg BK178
           have NB194_178 := nm_ hg BK178
           replace BK178 := bb_ BK178 hb
           clear hb hbox hg
           refine hK.out _ _ ⟨bc_ BK177.out 0, bc_ BK177.out 1⟩ (fun hHeld => ?_)
           clear hK K
           refine norm_ nn_ ?_
           exact norm_ nq_ (hJ0_3_9 (v183, v186, gb194) _ ⟨hHeld, kr_ HO187.out, kb_ BK177.out, kb_ BK178.out, kb_ BK194.out, GW194.out, GE194.out, NB177_194.out, NB194_177.out, NB178_194.out, NB194_178.out, bl_⟩)
        ·skip
         rintro ⟨v183, v189, gb194⟩ w64 ⟨hS_, h0_, h1_, h2_, h3_, h4_, h5_, h6_, h7_, h8_, h9_, h10_, h11_⟩
         dsimp only at h0_ h1_ h2_ h3_ h4_ h5_ h6_ h7_ h8_ h9_ h10_ h11_
         have HO184 := Aside0.mk h0_
         have HO190 := Aside0.mk h1_
         replace BK177 := Aside0.mk h2_
         replace BK178 := Aside0.mk h3_
         have BK194 := Aside0.mk h4_
         have GW194 := Aside0.mk h5_
         have GE194 := Aside0.mk h6_
         have NB177_194 := Aside0.mk h7_
         have NB194_177 := Aside0.mk h8_
         have NB178_194 := Aside0.mk h9_
         have NB194_178 := Aside0.mk h10_
         replace HB := Aside0.mk h11_
         clear h0_ h1_ h2_ h3_ h4_ h5_ h6_ h7_ h8_ h9_ h10_ h11_
         try dsimp only at hS_
         have hHeld := hS_
         refine norm_ np_ ?_
         refine on_ 3 (some 26) (h := fun K hK => ?_)
         refine Kd.R_append_rows_step (Kd.int .i64) (w0 := w) w.heap.size (by rfl) (.tmp 23) (.tmp 25) 22 3 (.int .i64 0) 8 rfl Try.underlying22 info3 rfl (by decide) (by omega) v183 y182 l0_0 _ _ _ (fun k_ => some k_ ≠ (v189 : Value).ownBlock) (fun _ => False) rfl rfl ?aO ?aR (fun _ _ h => h) (fun _ h => h.elim) ?aF ?aB ?aS ?aL ?_
         (case aR => exact kc_ (Kd.C_below HR0_0.out HB.out))
         (case aB => exact bl_)
         (case aF => exact (fun k_ hk => Kd.fresh' (Kd.R_lt (kr_ HO190.out)) k_ hk))
         (case aO => exact (kr_ HO184.out))
         (case aS => exact bz_)
         (case aL => have := LMc24.out; omega)
         intro v186 w65 ho hb hg hat
         rw [← Ny185.out] at ho
         replace BK177 := bgr_ BK177 hg HO184 BK177
         replace BK178 := bgr_ BK178 hg HO184 BK178
         replace HO190 := Aside0.mk (Kd.R_after (ok := (fun _ => True)) (by exact kr_ (Kd.R_mono HO190.out (fun _ hk => ⟨trivial, hk⟩))) hg hat)
         replace BK194 := bgr_ BK194 hg HO184 BK194
         replace HB := Aside0.mk (hb)
         have HO187 := Aside0.mk (ho)
         clear HO184 ho hb hg hat
         refine hK.out _ _ ⟨bc_ BK177.out 0, bc_ BK177.out 1⟩ (fun hHeld => ?_)
         clear hK K
         refine norm_ nn_ ?_
         exact norm_ nq_ (hJ0_3_4_9 (v183, v186, v189, gb194) _ ⟨hHeld, kr_ HO187.out, kp_ HO190.out, kb_ BK177.out, kb_ BK178.out, kb_ BK194.out, GW194.out, GE194.out, NB177_194.out, NB194_177.out, NB178_194.out, NB194_178.out, bl_⟩)
       ·skip
        rintro ⟨v183, v186, gb194⟩ w63 ⟨hS_, h0_, h1_, h2_, h3_, h4_, h5_, h6_, h7_, h8_, h9_, h10_⟩
        dsimp only at h0_ h1_ h2_ h3_ h4_ h5_ h6_ h7_ h8_ h9_ h10_
        have HO187 := Aside0.mk h0_
        replace BK177 := Aside0.mk h1_
        replace BK178 := Aside0.mk h2_
        have BK194 := Aside0.mk h3_
        have GW194 := Aside0.mk h4_
        have GE194 := Aside0.mk h5_
        have NB177_194 := Aside0.mk h6_
        have NB194_177 := Aside0.mk h7_
        have NB178_194 := Aside0.mk h8_
        have NB194_178 := Aside0.mk h9_
        replace HB := Aside0.mk h10_
        clear h0_ h1_ h2_ h3_ h4_ h5_ h6_ h7_ h8_ h9_ h10_
        try dsimp only at hS_
        have hHeld := hS_
        refine norm_ np_ ?_
        refine on_ 4 (some 27) (h := fun K hK => ?_)
        refine Kd.R_lit_step (Kd.int .i64) _ 3 rfl (N := 27) rfl (xs := ([] : List Int)) (inner := []) (ok := fun _ => True) (okp := fun _ => True) gs_ ?hp (fun _ hk => hk) trivial (Below.refl _ _) (Nat.le_refl _) (by simp) ?_; (case hp => exact (Reps.none _ _))
        intro v189 w64 ho65 hb hg_ hnew_
        clear hg_ hnew_
        (first | rw [← Ny188.out] at ho65 | (simp only [Int.reduceToNat] at ho65; rw [← Ny188.out] at ho65))
        have HO190 := Aside0.mk (Kd.R_lower (rn_ ho65 HO187.out) bz_)
        replace HO187 := Aside0.mk (Kd.R_elder' (kr_ HO187.out) (Kd.R_base ho65) hb)
        replace BK177 := bb_ BK177 hb
        replace BK178 := bb_ BK178 hb
        replace BK194 := bb_ BK194 hb
        replace HB := Aside0.mk (below_step bl_ hb)
        clear hb ho65
        refine hK.out _ _ ⟨bc_ BK177.out 0, bc_ BK177.out 1⟩ (fun hHeld => ?_)
        clear hK K
        refine norm_ nn_ ?_
        exact norm_ nq_ (hJ0_3_4_9 (v183, v186, v189, gb194) _ ⟨hHeld, kp_ HO187.out, kp_ HO190.out, kb_ BK177.out, kb_ BK178.out, kb_ BK194.out, GW194.out, GE194.out, NB177_194.out, NB194_177.out, NB178_194.out, NB194_178.out, bl_⟩)
      ·skip
       rintro ⟨v183, v186, v189⟩ w64 ⟨hS_, h0_, h1_, h2_, h3_, h4_⟩
       dsimp only at h0_ h1_ h2_ h3_ h4_
       have HO187 := Aside0.mk h0_
       have HO190 := Aside0.mk h1_
       replace BK177 := Aside0.mk h2_
       replace BK178 := Aside0.mk h3_
       replace HB := Aside0.mk h4_
       clear h0_ h1_ h2_ h3_ h4_
       try dsimp only at hS_
       have hHeld := hS_
       refine norm_ np_ ?_
       refine tw_ 7 9 (some 30) (some 8) (h1 := fun K hK => ?_) (h2 := fun K hK => ?_)
       ·skip
        refine Kd.R_append_rows_step (Kd.int .i64) (w0 := w) w.heap.size (by rfl) (.tmp 27) (.tmp 29) 22 3 (.int .i64 0) 8 rfl Try.underlying22 info3 rfl (by decide) (by omega) v189 y188 l0_1 _ _ _ (fun k_ => some k_ ≠ (v186 : Value).ownBlock) (fun _ => False) rfl rfl ?aO ?aR (fun _ _ h => h) (fun _ h => h.elim) ?aF ?aB ?aS ?aL ?_
        (case aR => exact kc_ (Kd.C_below HR0_1.out HB.out))
        (case aB => exact bl_)
        (case aF => exact (fun k_ hk => Kd.fresh' (Kd.R_lt (kr_ HO187.out)) k_ hk))
        (case aO => exact (kr_ HO190.out))
        (case aS => exact bz_)
        (case aL => have := LMc25.out; omega)
        intro v192 w65 ho hb hg hat
        rw [← Ny191.out] at ho
        replace BK177 := bgr_ BK177 hg HO190 BK177
        replace BK178 := bgr_ BK178 hg HO190 BK178
        replace HO187 := Aside0.mk (Kd.R_after (ok := (fun _ => True)) (by exact kr_ (Kd.R_mono HO187.out (fun _ hk => ⟨trivial, hk⟩))) hg hat)
        replace HB := Aside0.mk (hb)
        have HO193 := Aside0.mk (ho)
        clear HO190 ho hb hg hat
        obtain ⟨Ao66, co66, eo66⟩ := Kd.R_slice HO193.out
        (first | subst eo66 | (injection eo66 with f1_ f2_ f3_; have f4_ := f1_.symm; have f5_ := f3_.symm; clear f1_ f2_ f3_; subst f4_; subst f5_))
        obtain ⟨Ao67, co67, eo67⟩ := Kd.R_slice HO187.out
        (first | subst eo67 | (injection eo67 with f1_ f2_ f3_; have f4_ := f1_.symm; have f5_ := f3_.symm; clear f1_ f2_ f3_; subst f4_; subst f5_))
        refine hK.out _ _ ⟨bc_ BK177.out 0, bc_ BK177.out 1⟩ (fun hHeld => ?_)
        clear hK K
        refine norm_ nn_ ?_
        refine pu_ 8 (some 31) (h := ?_)
        exact norm_ nq_ (hJ0_3_4_7 (v183, .slice Ao67 y185.length co67, v189, .slice Ao66 y191.length co66) _ ⟨hHeld, kp_ HO187.out, kr_ HO193.out, kb_ BK177.out, kb_ BK178.out, bl_⟩)
       ·skip
        refine box_step rfl (N := 8) rfl (cs := #[.slice none 0 0, .slice none 0 0]) (t := 27) gs_ ?_
        intro gb194 hg w65 hbox hb
        replace HO187 := rb_ HO187 hb
        replace HO190 := rb_ HO190 hb
        have BK194 := Aside0.mk (hbox)
        have GW194 := Aside0.mk ((by rw [hg]; exact bz_ : w.heap.size ≤ gb194))
        have GE194 := GW194
        replace HB := Aside0.mk (below_step bl_ hb)
        have NB177_194 := nl_ hg BK177
        have NB194_177 := nm_ hg BK177
        replace BK177 := bb_ BK177 hb
        have NB178_194 := nl_ hg BK178
        have NB194_178 := nm_ hg BK178
        replace BK178 := bb_ BK178 hb
        clear hb hbox hg
        refine hK.out _ _ ⟨bc_ BK177.out 0, bc_ BK177.out 1⟩ (fun hHeld => ?_)
        clear hK K
        refine norm_ nn_ ?_
        exact norm_ nq_ (hJ0_3_4_9 (v183, v186, v189, gb194) _ ⟨hHeld, kr_ HO187.out, kr_ HO190.out, kb_ BK177.out, kb_ BK178.out, kb_ BK194.out, GW194.out, GE194.out, NB177_194.out, NB194_177.out, NB178_194.out, NB194_178.out, bl_⟩)
     ·skip
      rintro ⟨v183, v186, v189, gb194⟩ w65 ⟨hS_, h0_, h1_, h2_, h3_, h4_, h5_, h6_, h7_, h8_, h9_, h10_, h11_⟩
      dsimp only at h0_ h1_ h2_ h3_ h4_ h5_ h6_ h7_ h8_ h9_ h10_ h11_
      have HO187 := Aside0.mk h0_
      have HO190 := Aside0.mk h1_
      replace BK177 := Aside0.mk h2_
      replace BK178 := Aside0.mk h3_
      have BK194 := Aside0.mk h4_
      have GW194 := Aside0.mk h5_
      have GE194 := Aside0.mk h6_
      have NB177_194 := Aside0.mk h7_
      have NB194_177 := Aside0.mk h8_
      have NB178_194 := Aside0.mk h9_
      have NB194_178 := Aside0.mk h10_
      replace HB := Aside0.mk h11_
      clear h0_ h1_ h2_ h3_ h4_ h5_ h6_ h7_ h8_ h9_ h10_ h11_
      try dsimp only at hS_
      have hHeld := hS_
      refine norm_ np_ ?_
      refine on_ 7 (some 30) (h := fun K hK => ?_)
      refine Kd.R_append_rows_step (Kd.int .i64) (w0 := w) w.heap.size (by rfl) (.tmp 27) (.tmp 29) 22 3 (.int .i64 0) 8 rfl Try.underlying22 info3 rfl (by decide) (by omega) v189 y188 l0_1 _ _ _ (fun k_ => some k_ ≠ (v186 : Value).ownBlock) (fun _ => False) rfl rfl ?aO ?aR (fun _ _ h => h) (fun _ h => h.elim) ?aF ?aB ?aS ?aL ?_
      (case aR => exact kc_ (Kd.C_below HR0_1.out HB.out))
      (case aB => exact bl_)
      (case aF => exact (fun k_ hk => Kd.fresh' (Kd.R_lt (kr_ HO187.out)) k_ hk))
      (case aO => exact (kr_ HO190.out))
      (case aS => exact bz_)
      (case aL => have := LMc25.out; omega)
      intro v192 w66 ho hb hg hat
      rw [← Ny191.out] at ho
      replace BK177 := bgr_ BK177 hg HO190 BK177
      replace BK178 := bgr_ BK178 hg HO190 BK178
      replace HO187 := Aside0.mk (Kd.R_after (ok := (fun _ => True)) (by exact kr_ (Kd.R_mono HO187.out (fun _ hk => ⟨trivial, hk⟩))) hg hat)
      replace BK194 := bgr_ BK194 hg HO190 BK194
      replace HB := Aside0.mk (hb)
      have HO193 := Aside0.mk (ho)
      clear HO190 ho hb hg hat
      obtain ⟨Ao67, co67, eo67⟩ := Kd.R_slice HO193.out
      (first | subst eo67 | (injection eo67 with f1_ f2_ f3_; have f4_ := f1_.symm; have f5_ := f3_.symm; clear f1_ f2_ f3_; subst f4_; subst f5_))
      obtain ⟨Ao68, co68, eo68⟩ := Kd.R_slice HO187.out
      (first | subst eo68 | (injection eo68 with f1_ f2_ f3_; have f4_ := f1_.symm; have f5_ := f3_.symm; clear f1_ f2_ f3_; subst f4_; subst f5_))
      refine hK.out _ _ ⟨bc_ BK177.out 0, bc_ BK177.out 1⟩ (fun hHeld => ?_)
      clear hK K
      refine norm_ nn_ ?_
      refine pu_ 8 (some 31) (h := ?_)
      exact norm_ nq_ (hJ0_3_4_7_9 (v183, .slice Ao68 y185.length co68, v189, .slice Ao67 y191.length co67, gb194) _ ⟨hHeld, kp_ HO187.out, kr_ HO193.out, kb_ BK177.out, kb_ BK178.out, kb_ BK194.out, GW194.out, GE194.out, NB177_194.out, NB194_177.out, NB178_194.out, NB194_178.out, bl_⟩)
    ·skip
     rintro ⟨v183, v186, v189, v192⟩ w67 ⟨hS_, h0_, h1_, h2_, h3_, h4_⟩
     dsimp only at h0_ h1_ h2_ h3_ h4_
     have HO187 := Aside0.mk h0_
     have HO193 := Aside0.mk h1_
     replace BK177 := Aside0.mk h2_
     replace BK178 := Aside0.mk h3_
     replace HB := Aside0.mk h4_
     clear h0_ h1_ h2_ h3_ h4_
     try dsimp only at hS_
     have hHeld := hS_
     obtain ⟨Ao68, co68, eo68⟩ := Kd.R_slice HO193.out
     (first | subst eo68 | (injection eo68 with f1_ f2_ f3_; have f4_ := f1_.symm; have f5_ := f3_.symm; clear f1_ f2_ f3_; subst f4_; subst f5_))
     obtain ⟨Ao69, co69, eo69⟩ := Kd.R_slice HO187.out
     (first | subst eo69 | (injection eo69 with f1_ f2_ f3_; have f4_ := f1_.symm; have f5_ := f3_.symm; clear f1_ f2_ f3_; subst f4_; subst f5_))
     refine norm_ np_ ?_
     refine on_ 9 (some 8) (h := fun K hK => ?_)
     refine box_step rfl (N := 8) rfl (cs := #[.slice none 0 0, .slice none 0 0]) (t := 27) gs_ ?_
     intro gb194 hg w70 hbox hb
     replace HO187 := rb_ HO187 hb
     replace HO193 := rb_ HO193 hb
     have BK194 := Aside0.mk (hbox)
     have GW194 := Aside0.mk ((by rw [hg]; exact bz_ : w.heap.size ≤ gb194))
     have GE194 := GW194
     replace HB := Aside0.mk (below_step bl_ hb)
     have NB177_194 := nl_ hg BK177
     have NB194_177 := nm_ hg BK177
     replace BK177 := bb_ BK177 hb
     have NB178_194 := nl_ hg BK178
     have NB194_178 := nm_ hg BK178
     replace BK178 := bb_ BK178 hb
     clear hb hbox hg
     refine hK.out _ _ ⟨bc_ BK177.out 0, bc_ BK177.out 1⟩ (fun hHeld => ?_)
     clear hK K
     refine norm_ nn_ ?_
     exact norm_ nq_ (hJ0_3_4_7_9 (v183, .slice Ao69 y185.length co69, v189, .slice Ao68 y191.length co68, gb194) _ ⟨hHeld, kr_ HO187.out, kr_ HO193.out, kb_ BK177.out, kb_ BK178.out, kb_ BK194.out, GW194.out, GE194.out, NB177_194.out, NB194_177.out, NB178_194.out, NB194_178.out, bl_⟩)
   rintro ⟨v183, v186, v189, v192, gb194⟩ w68 ⟨hS_, h0_, h1_, h2_, h3_, h4_, h5_, h6_, h7_, h8_, h9_, h10_, h11_⟩
   dsimp only at h0_ h1_ h2_ h3_ h4_ h5_ h6_ h7_ h8_ h9_ h10_ h11_
   have HO187 := Aside0.mk h0_
   have HO193 := Aside0.mk h1_
   replace BK177 := Aside0.mk h2_
   replace BK178 := Aside0.mk h3_
   have BK194 := Aside0.mk h4_
   have GW194 := Aside0.mk h5_
   have GE194 := Aside0.mk h6_
   have NB177_194 := Aside0.mk h7_
   have NB194_177 := Aside0.mk h8_
   have NB178_194 := Aside0.mk h9_
   have NB194_178 := Aside0.mk h10_
   replace HB := Aside0.mk h11_
   clear h0_ h1_ h2_ h3_ h4_ h5_ h6_ h7_ h8_ h9_ h10_ h11_
   try dsimp only at hS_
   have hHeld := hS_
   obtain ⟨Ao69, co69, eo69⟩ := Kd.R_slice HO193.out
   (first | subst eo69 | (injection eo69 with f1_ f2_ f3_; have f4_ := f1_.symm; have f5_ := f3_.symm; clear f1_ f2_ f3_; subst f4_; subst f5_))
   obtain ⟨Ao70, co70, eo70⟩ := Kd.R_slice HO187.out
   (first | subst eo70 | (injection eo70 with f1_ f2_ f3_; have f4_ := f1_.symm; have f5_ := f3_.symm; clear f1_ f2_ f3_; subst f4_; subst f5_))
   refine norm_ np_ ?_
   refine on_ 10 none (h := fun K hK => ?_)
   have hs71 : w68.cell? ⟨gb194, 0, none⟩ = some (.slice none 0 0) := bc_ BK194.out 0
   have hfs71 := blk_frozen BK194.out 0
   have hns71_0 := NB177_194.out
   have hns71_1 := NB178_194.out
   have hms71_0 := NB194_177.out
   have hms71_1 := NB194_178.out
   have hs72 : w68.cell? ⟨gb194, 1, none⟩ = some (.slice none 0 0) := bc_ BK194.out 1
   have hfs72 := blk_frozen BK194.out 1
   have hns72_0 := NB177_194.out
   have hns72_1 := NB178_194.out
   have hms72_0 := NB194_177.out
   have hms72_1 := NB194_178.out
   refine skip_ (w1 := ?_) (by rfl) rfl ?_ ?_
   rotate_left
   ·go_simp
    rfl
   refine hK.out _ _ ⟨((cell_far (p := ⟨gb194, _, none⟩) NB177_194.out _).trans (((cell_far (p := ⟨gb194, _, none⟩) NB177_194.out _).trans (hHeld.1)))), ((cell_far (p := ⟨gb194, _, none⟩) NB177_194.out _).trans (((cell_far (p := ⟨gb194, _, none⟩) NB177_194.out _).trans (hHeld.2))))⟩ (fun hHeld => ?_)
   clear hK K
   refine done_ (done_of HT_.out (by kernel_rfl)) ?_
   have n0_ : Aside0 (Kd.R (Kd.int .i64) 3 ((w68.setCell ⟨gb194, 0, none⟩ (.slice Ao70 y185.length co70)).setCell ⟨gb194, 1, none⟩ (.slice Ao69 y191.length co69)) w.heap.size (fun k_ => some k_ ≠ (.slice Ao69 y191.length co69 : Value).ownBlock) (.slice Ao70 y185.length co70) y185) := ⟨by exact kr_ (Kd.R_mono (Kd.R_far (p := ⟨gb194, 1, none⟩) (Kd.R_far (p := ⟨gb194, 0, none⟩) (Kd.R_types HO187.out BK194.out (by decide)) (fun _ hk => hk.2) (.slice Ao70 y185.length co70)) (fun _ hk => hk.2) (.slice Ao69 y191.length co69)) (fun _ hk => hk.1))⟩
   have n1_ : Aside0 (Kd.R (Kd.int .i64) 3 ((w68.setCell ⟨gb194, 0, none⟩ (.slice Ao70 y185.length co70)).setCell ⟨gb194, 1, none⟩ (.slice Ao69 y191.length co69)) w.heap.size (fun k_ => some k_ ≠ (.slice Ao70 y185.length co70 : Value).ownBlock) (.slice Ao69 y191.length co69) y191) := ⟨by exact kr_ (Kd.R_mono (Kd.R_far (p := ⟨gb194, 1, none⟩) (Kd.R_far (p := ⟨gb194, 0, none⟩) (Kd.R_types HO193.out BK194.out (by decide)) (fun _ hk => hk.2) (.slice Ao70 y185.length co70)) (fun _ hk => hk.2) (.slice Ao69 y191.length co69)) (fun _ hk => hk.1))⟩
   have n2_ : Aside0 (((w68.setCell ⟨gb194, 0, none⟩ (.slice Ao70 y185.length co70)).setCell ⟨gb194, 1, none⟩ (.slice Ao69 y191.length co69)).heap[gb177]? = some (.cells #[.slice A0_0 l0_0.length c0_0, .slice A0_1 l0_1.length c0_1] 27 (0, 0))) := ⟨kz_⟩
   have n3_ : Aside0 (((w68.setCell ⟨gb194, 0, none⟩ (.slice Ao70 y185.length co70)).setCell ⟨gb194, 1, none⟩ (.slice Ao69 y191.length co69)).heap[gb178]? = some (.cells #[.slice none 0 0, .slice none 0 0] 27 (0, 0))) := ⟨kz_⟩
   have n4_ : Aside0 (((w68.setCell ⟨gb194, 0, none⟩ (.slice Ao70 y185.length co70)).setCell ⟨gb194, 1, none⟩ (.slice Ao69 y191.length co69)).heap[gb194]? = some (.cells #[.slice Ao70 y185.length co70, .slice Ao69 y191.length co69] 27 (0, 0))) := ⟨by (with_reducible repeat (first | refine blk_drewN ?_ _ | refine blk_drew ?_ | refine blk_alloc ?_ _)); refine blk_put (cs := #[.slice Ao70 y185.length co70, .slice none 0 0]) ?_ 1 _ rfl; (with_reducible repeat (first | refine blk_drewN ?_ _ | refine blk_drew ?_ | refine blk_alloc ?_ _)); refine blk_put (cs := #[.slice none 0 0, .slice none 0 0]) ?_ 0 _ rfl; exact kb_ BK194.out⟩
   have n5_ : Aside0 (Below w.heap.size w ((w68.setCell ⟨gb194, 0, none⟩ (.slice Ao70 y185.length co70)).setCell ⟨gb194, 1, none⟩ (.slice Ao69 y191.length co69))) := ⟨bl_⟩
   (try clear HO187)
   (try clear HO193)
   (try clear BK177)
   (try clear BK178)
   (try clear BK194)
   (try clear HB)
   generalize ((w68.setCell ⟨gb194, 0, none⟩ (.slice Ao70 y185.length co70)).setCell ⟨gb194, 1, none⟩ (.slice Ao69 y191.length co69)) = w73 at n0_ n1_ n2_ n3_ n4_ n5_ ⊢
   have HO187 := n0_
   have HO193 := n1_
   have BK177 := n2_
   have BK178 := n3_
   have BK194 := n4_
   have HB := n5_
   clear n0_ n1_ n2_ n3_ n4_ n5_
   have hnb74 := NB194_177.out
   have hnc74 := NB177_194.out
   have hnb75 := NB194_178.out
   have hnc75 := NB178_194.out
   have hcz76_0 : w73.cell? ⟨gb194, 0, none⟩ = some (.slice Ao70 y185.length co70) := bc_ BK194.out 0
   have hcz76_1 : w73.cell? ⟨gb194, 1, none⟩ = some (.slice Ao69 y191.length co69) := bc_ BK194.out 1
   have hfz76_0 := blk_frozen BK194.out 0
   have hfz76_1 := blk_frozen BK194.out 1
   have p195 : 0 ≤ (a1 : Int) := of_decide_eq_true (by first | (with_reducible assumption) | assumption)
   have q195 : a1 < (y185.length : Int) := of_decide_eq_true (by first | (with_reducible assumption) | assumption)
   obtain ⟨ad195, e195, hx195_0⟩ := Kd.at_int (Kd.R_reads' HO187.out).2.2 a1 p195 q195
   cases e195
   replace p195 := eq_true p195
   replace q195 := eq_true q195
   have p29 : 0 ≤ (a1 : Int) := of_decide_eq_true (by first | (with_reducible assumption) | assumption)
   have q29 : (a1 : Int) < ((y185.length : Int) : Int) := of_decide_eq_true (by first | (with_reducible assumption) | assumption)
   obtain ⟨go29, co29, eo29, gb29, gl29, cl29, HG29⟩ := Kd.R_form HO187.out (by omega)
   (first | cases eo29 | (injection eo29 with ea_ en_ ec_; (first | subst ea_ | (injection ea_ with ea_; subst ea_)); subst ec_; clear en_))
   have GB29 := Aside0.mk gb29
   have GG29 := Aside0.mk HG29
   clear gb29 gl29 HG29
   (first | simp only [add_plain] at hx195_0 | skip)
   obtain ⟨hx29_0, hf29_0⟩ := Kd.R_celln 0 HO187.out (a1 : Int) p29 q29
   replace p29 := eq_true p29
   replace q29 := eq_true q29
   obtain ⟨hy77_, hz77_⟩ := Kd.R_celln 0 HO187.out (a1 : Int) (of_decide_eq_true (by first | (with_reducible assumption) | assumption)) (of_decide_eq_true (by first | (with_reducible assumption) | assumption))
   have HP77 := Kd.R_putg HO187.out (a1 : Int) (wrap64 ((rd y185 a1) + a2))
   try go_wp2_with (first | ((with_reducible refine gate_store (t := 3) (p := 41) rfl ?_); refine store_event (t := 3) (p := 41) (v := ?vo_w78) (w1 := (w73.setCell ⟨go29, (a1 : Int).toNat, none⟩ (.int .i64 (wrap64 ((rd y185 a1) + a2))))) ?hg ?ho ?hn ?hr ?_; (case ho => rfl); (case hg => rfl); (case hn => rfl); (case hr => first | (go_simp; done) | (go_simp; rfl)); intro w78 hw; have hg : w73.grownBy w78 (some go29) := (by rw [hw]; exact HP77.2); have hp_ : Kd.R (Kd.int .i64) 3 w78 w.heap.size (fun k_ => some k_ ≠ (.slice Ao69 y191.length co69 : Value).ownBlock) (.slice (some ⟨go29, 0, none⟩) y185.length co70) y196 := (by rw [hw, Ny196.out]; exact HP77.1); clear HP77; replace BK177 := bgr_ BK177 hg HO187 BK177; replace BK178 := bgr_ BK178 hg HO187 BK178; replace HO193 := Aside0.mk (Kd.R_after (v := (.slice (some ⟨go29, 0, none⟩) y185.length co70)) (v1 := (.slice (some ⟨go29, 0, none⟩) y185.length co70)) (ok := (fun _ => True)) (by exact kr_ (Kd.R_mono HO193.out (fun _ hk => ⟨trivial, hk⟩))) hg (.inl rfl)); replace BK194 := bgr_ BK194 hg HO187 BK194; replace HO187 := Aside0.mk (hp_); replace HB := Aside0.mk ((by rw [hw]; exact below_set (HB.out) GB29.out : Below w.heap.size w w78)); clear hg hw hp_; have hcz79_0 : w78.cell? ⟨gb194, 0, none⟩ = some (.slice (some ⟨go29, 0, none⟩) y185.length co70) := bc_ BK194.out 0; have hcz79_1 : w78.cell? ⟨gb194, 1, none⟩ = some (.slice Ao69 y191.length co69) := bc_ BK194.out 1; have hfz79_0 := blk_frozen BK194.out 0; have hfz79_1 := blk_frozen BK194.out 1) | ((with_reducible refine gate_callee (f := 35) rfl ?_); refine goesL_ (some 51) rfl rfl Try.func35 (by kernel_rfl) rfl #[.agg #[.slice (some ⟨go29, 0, none⟩) y196.length co70, .slice Ao69 y191.length co69]] rfl (by (try simp only [List.map_toArray, List.map_cons, List.map_nil]); first | done | (rw [show y196.length = y185.length from (Kd.R_reads' HO187.out).1.symm] <;> rfl) | rfl | (simp only [List.length_drop, List.length_take]; rfl)) ?_; (with_reducible refine (impl_isCounter.calls _ _ y196 _ _ y191 false _ ?side1 ?side2 ?side3 ?side4 A30.out).mono ?_); (case side1 => exact kc_ (Kd.R_reads' HO187.out).2.2); (case side2 => rw [show y196.length = y185.length from (Kd.R_reads' HO187.out).1.symm]; exact (Kd.R_reads' HO187.out).2.1); (case side3 => exact kc_ (Kd.R_reads' HO193.out).2.2); (case side4 => exact (Kd.R_reads' HO193.out).2.1); rintro e w80 ⟨rfl, hb⟩; refine ⟨_, rfl, ?_⟩; replace HO187 := rb_ HO187 hb; replace HO193 := rb_ HO193 hb; replace BK177 := bb_ BK177 hb; replace BK178 := bb_ BK178 hb; replace BK194 := bb_ BK194 hb; replace HB := Aside0.mk (below_step bl_ hb); clear hb; have hnb81 := NB178_177.out; have hnc81 := NB177_178.out; have hcz82_0 : w80.cell? ⟨gb178, 0, none⟩ = some (.slice none 0 0) := bc_ BK178.out 0; have hcz82_1 : w80.cell? ⟨gb178, 1, none⟩ = some (.slice none 0 0) := bc_ BK178.out 1; have hfz82_0 := blk_frozen BK178.out 0; have hfz82_1 := blk_frozen BK178.out 1))
   refine bodyPost_ret (results_ct rfl _ _ gb178 27 #[.slice none 0 0, .slice none 0 0] (0, 0) _ rfl (by (with_reducible repeat (first | refine blk_drewN ?_ _ | refine blk_drew ?_ | refine blk_alloc ?_ _)); refine blk_put (cs := #[.slice none 0 0, .slice none 0 0]) ?_ 1 _ rfl; (with_reducible repeat (first | refine blk_drewN ?_ _ | refine blk_drew ?_ | refine blk_alloc ?_ _)); refine blk_put (cs := #[.slice none 0 0, .slice none 0 0]) ?_ 0 _ rfl; exact kb_ BK178.out) Try.underlying27 rfl (by kernel_rfl)) rfl ?_
   exact ⟨_, _, ng_, by first | exact Kd.R_nil _ _ _ _ _ | exact Kd.N_nil _ _ _ _ _ | exact Kd.V_nil _ _ _ _ _ | exact Kd.Q_nil _ _ _ _ _ | exact Kd.S_nil _ _ _ _ _, by first | exact Kd.R_nil _ _ _ _ _ | exact Kd.N_nil _ _ _ _ _ | exact Kd.V_nil _ _ _ _ _ | exact Kd.Q_nil _ _ _ _ _ | exact Kd.S_nil _ _ _ _ _, bl_⟩
  subst c31
  have H1 : (some (y196, y191, true)) = some (r1, r2, r3) := by rw [if_pos rfl] at H; exact H
  clear H
  have H := H1
  clear H1
  simp only [Option.some.injEq, Prod.mk.injEq] at H
  obtain ⟨rfl, rfl, rfl⟩ := H
  try go_wp2
  replace BK177 := Aside0.mk (blk_drew BK177.out)
  replace BK178 := Aside0.mk (blk_drew BK178.out)
  replace HB := Aside0.mk (below_drew1 HB.out)
  refine start_ (n := 11) (S := fun w' => w'.cell? ⟨gb177, 0, none⟩ = some (.slice A0_0 l0_0.length c0_0) ∧ w'.cell? ⟨gb177, 1, none⟩ = some (.slice A0_1 l0_1.length c0_1)) (ds := []) #[false, false, false, false, false, false, false, false, false, false, false] (by kernel_rfl) rfl rfl ⟨bc_ BK177.out 0, bc_ BK177.out 1⟩ (fun hHeld => ?_); refine with_tabW impl_CountBy.tab3 impl_CountBy.bits3 (fun HT_ HW_ => ?_)
  generalize wc.drew = w32 at BK177 BK178 HB hHeld ⊢
  refine pu_ 1 (some 24) (h := ?_)
  refine pu_ 5 (some 28) (h := ?_)
  refine tk2_ 2 (some 25) (h := ?_)
  refine tk2_ 6 (some 29) (h := ?_)
  refine join_ (σ := Value × Value × Value × Value × Nat) 1 #[true, true, true, true, true, true, true, true, true, true, false] (fun s_ => [(23, s_.1), (26, s_.2.1), (27, s_.2.2.1), (30, s_.2.2.2.1), (8, .pointer (some ⟨s_.2.2.2.2, 0, none⟩)), (31, .agg #[s_.2.1, s_.2.2.2.1])]) (fun s_ w' => (w'.cell? ⟨gb177, 0, none⟩ = some (.slice A0_0 l0_0.length c0_0) ∧ w'.cell? ⟨gb177, 1, none⟩ = some (.slice A0_1 l0_1.length c0_1)) ∧ (Kd.R (Kd.int .i64) 3 w' w.heap.size (fun k_ => some k_ ≠ (s_.2.2.2.1 : Value).ownBlock) s_.2.1 y185) ∧ (Kd.R (Kd.int .i64) 3 w' w.heap.size (fun k_ => some k_ ≠ (s_.2.1 : Value).ownBlock) s_.2.2.2.1 y191) ∧ (w'.heap[gb177]? = some (.cells #[.slice A0_0 l0_0.length c0_0, .slice A0_1 l0_1.length c0_1] 27 (0, 0))) ∧ (w'.heap[gb178]? = some (.cells #[.slice none 0 0, .slice none 0 0] 27 (0, 0))) ∧ (w'.heap[s_.2.2.2.2]? = some (.cells #[.slice none 0 0, .slice none 0 0] 27 (0, 0))) ∧ (w.heap.size ≤ s_.2.2.2.2) ∧ (w.heap.size ≤ s_.2.2.2.2) ∧ (gb177 ≠ s_.2.2.2.2) ∧ (s_.2.2.2.2 ≠ gb177) ∧ (gb178 ≠ s_.2.2.2.2) ∧ (s_.2.2.2.2 ≠ gb178) ∧ (Below w.heap.size w w')) ?_ ?_
  rotate_left
  ·intro hJ0_3_4_7_9
   refine join_ (σ := Value × Value × Value × Value) 2 #[true, true, true, true, true, true, true, true, true, false, false] (fun s_ => [(23, s_.1), (26, s_.2.1), (27, s_.2.2.1), (30, s_.2.2.2), (31, .agg #[s_.2.1, s_.2.2.2])]) (fun s_ w' => (w'.cell? ⟨gb177, 0, none⟩ = some (.slice A0_0 l0_0.length c0_0) ∧ w'.cell? ⟨gb177, 1, none⟩ = some (.slice A0_1 l0_1.length c0_1)) ∧ (Kd.R (Kd.int .i64) 3 w' w.heap.size (fun k_ => some k_ ≠ (s_.2.2.2 : Value).ownBlock) s_.2.1 y185) ∧ (Kd.R (Kd.int .i64) 3 w' w.heap.size (fun k_ => some k_ ≠ (s_.2.1 : Value).ownBlock) s_.2.2.2 y191) ∧ (w'.heap[gb177]? = some (.cells #[.slice A0_0 l0_0.length c0_0, .slice A0_1 l0_1.length c0_1] 27 (0, 0))) ∧ (w'.heap[gb178]? = some (.cells #[.slice none 0 0, .slice none 0 0] 27 (0, 0))) ∧ (Below w.heap.size w w')) ?_ ?_
   rotate_left
   ·intro hJ0_3_4_7
    refine join_ (σ := Value × Value × Value × Nat) 3 #[true, true, true, true, true, true, true, false, false, true, false] (fun s_ => [(23, s_.1), (26, s_.2.1), (27, s_.2.2.1), (8, .pointer (some ⟨s_.2.2.2, 0, none⟩))]) (fun s_ w' => (w'.cell? ⟨gb177, 0, none⟩ = some (.slice A0_0 l0_0.length c0_0) ∧ w'.cell? ⟨gb177, 1, none⟩ = some (.slice A0_1 l0_1.length c0_1)) ∧ (Kd.R (Kd.int .i64) 3 w' w.heap.size (fun k_ => some k_ ≠ (s_.2.2.1 : Value).ownBlock) s_.2.1 y185) ∧ (Kd.R (Kd.int .i64) 3 w' w.heap.size (fun k_ => some k_ ≠ (s_.2.1 : Value).ownBlock) s_.2.2.1 y188) ∧ (w'.heap[gb177]? = some (.cells #[.slice A0_0 l0_0.length c0_0, .slice A0_1 l0_1.length c0_1] 27 (0, 0))) ∧ (w'.heap[gb178]? = some (.cells #[.slice none 0 0, .slice none 0 0] 27 (0, 0))) ∧ (w'.heap[s_.2.2.2]? = some (.cells #[.slice none 0 0, .slice none 0 0] 27 (0, 0))) ∧ (w.heap.size ≤ s_.2.2.2) ∧ (w.heap.size ≤ s_.2.2.2) ∧ (gb177 ≠ s_.2.2.2) ∧ (s_.2.2.2 ≠ gb177) ∧ (gb178 ≠ s_.2.2.2) ∧ (s_.2.2.2 ≠ gb178) ∧ (Below w.heap.size w w')) ?_ ?_
    rotate_left
    ·intro hJ0_3_4_9
     refine join_ (σ := Value × Value × Value) 4 #[true, true, true, true, true, true, true, false, false, false, false] (fun s_ => [(23, s_.1), (26, s_.2.1), (27, s_.2.2)]) (fun s_ w' => (w'.cell? ⟨gb177, 0, none⟩ = some (.slice A0_0 l0_0.length c0_0) ∧ w'.cell? ⟨gb177, 1, none⟩ = some (.slice A0_1 l0_1.length c0_1)) ∧ (Kd.R (Kd.int .i64) 3 w' w.heap.size (fun k_ => some k_ ≠ (s_.2.2 : Value).ownBlock) s_.2.1 y185) ∧ (Kd.R (Kd.int .i64) 3 w' w.heap.size (fun k_ => some k_ ≠ (s_.2.1 : Value).ownBlock) s_.2.2 y188) ∧ (w'.heap[gb177]? = some (.cells #[.slice A0_0 l0_0.length c0_0, .slice A0_1 l0_1.length c0_1] 27 (0, 0))) ∧ (w'.heap[gb178]? = some (.cells #[.slice none 0 0, .slice none 0 0] 27 (0, 0))) ∧ (Below w.heap.size w w')) ?_ ?_
     rotate_left
     ·intro hJ0_3_4
      refine join_ (σ := Value × Value × Nat) 4 #[true, true, true, true, false, true, true, false, false, true, false] (fun s_ => [(23, s_.1), (26, s_.2.1), (8, .pointer (some ⟨s_.2.2, 0, none⟩))]) (fun s_ w' => (w'.cell? ⟨gb177, 0, none⟩ = some (.slice A0_0 l0_0.length c0_0) ∧ w'.cell? ⟨gb177, 1, none⟩ = some (.slice A0_1 l0_1.length c0_1)) ∧ (Kd.R (Kd.int .i64) 3 w' w.heap.size (fun _ => True) s_.2.1 y185) ∧ (w'.heap[gb177]? = some (.cells #[.slice A0_0 l0_0.length c0_0, .slice A0_1 l0_1.length c0_1] 27 (0, 0))) ∧ (w'.heap[gb178]? = some (.cells #[.slice none 0 0, .slice none 0 0] 27 (0, 0))) ∧ (w'.heap[s_.2.2]? = some (.cells #[.slice none 0 0, .slice none 0 0] 27 (0, 0))) ∧ (w.heap.size ≤ s_.2.2) ∧ (w.heap.size ≤ s_.2.2) ∧ (gb177 ≠ s_.2.2) ∧ (s_.2.2 ≠ gb177) ∧ (gb178 ≠ s_.2.2) ∧ (s_.2.2 ≠ gb178) ∧ (Below w.heap.size w w')) ?_ ?_
      rotate_left
      ·intro hJ0_3_9
       refine join_ (σ := Value × Value × Nat) 4 #[true, true, true, false, true, true, true, false, false, true, false] (fun s_ => [(23, s_.1), (27, s_.2.1), (8, .pointer (some ⟨s_.2.2, 0, none⟩))]) (fun s_ w' => (w'.cell? ⟨gb177, 0, none⟩ = some (.slice A0_0 l0_0.length c0_0) ∧ w'.cell? ⟨gb177, 1, none⟩ = some (.slice A0_1 l0_1.length c0_1)) ∧ (Kd.R (Kd.int .i64) 3 w' w.heap.size (fun k_ => some k_ ≠ (s_.2.1 : Value).ownBlock) s_.1 y182) ∧ (Kd.R (Kd.int .i64) 3 w' w.heap.size (fun k_ => some k_ ≠ (s_.1 : Value).ownBlock) s_.2.1 y188) ∧ (w'.heap[gb177]? = some (.cells #[.slice A0_0 l0_0.length c0_0, .slice A0_1 l0_1.length c0_1] 27 (0, 0))) ∧ (w'.heap[gb178]? = some (.cells #[.slice none 0 0, .slice none 0 0] 27 (0, 0))) ∧ (w'.heap[s_.2.2]? = some (.cells #[.slice none 0 0, .slice none 0 0] 27 (0, 0))) ∧ (w.heap.size ≤ s_.2.2) ∧ (w.heap.size ≤ s_.2.2) ∧ (gb177 ≠ s_.2.2) ∧ (s_.2.2 ≠ gb177) ∧ (gb178 ≠ s_.2.2) ∧ (s_.2.2 ≠ gb178) ∧ (Below w.heap.size w w')) ?_ ?_
       rotate_left
       ·intro hJ0_4_9
        refine join_ (σ := Value × Value) 5 #[true, true, true, true, false, true, true, false, false, false, false] (fun s_ => [(23, s_.1), (26, s_.2)]) (fun s_ w' => (w'.cell? ⟨gb177, 0, none⟩ = some (.slice A0_0 l0_0.length c0_0) ∧ w'.cell? ⟨gb177, 1, none⟩ = some (.slice A0_1 l0_1.length c0_1)) ∧ (Kd.R (Kd.int .i64) 3 w' w.heap.size (fun _ => True) s_.2 y185) ∧ (w'.heap[gb177]? = some (.cells #[.slice A0_0 l0_0.length c0_0, .slice A0_1 l0_1.length c0_1] 27 (0, 0))) ∧ (w'.heap[gb178]? = some (.cells #[.slice none 0 0, .slice none 0 0] 27 (0, 0))) ∧ (Below w.heap.size w w')) ?_ ?_
        rotate_left
        ·intro hJ0_3
         refine join_ (σ := Value × Value) 5 #[true, true, true, false, true, true, true, false, false, false, false] (fun s_ => [(23, s_.1), (27, s_.2)]) (fun s_ w' => (w'.cell? ⟨gb177, 0, none⟩ = some (.slice A0_0 l0_0.length c0_0) ∧ w'.cell? ⟨gb177, 1, none⟩ = some (.slice A0_1 l0_1.length c0_1)) ∧ (Kd.R (Kd.int .i64) 3 w' w.heap.size (fun k_ => some k_ ≠ (s_.2 : Value).ownBlock) s_.1 y182) ∧ (Kd.R (Kd.int .i64) 3 w' w.heap.size (fun k_ => some k_ ≠ (s_.1 : Value).ownBlock) s_.2 y188) ∧ (w'.heap[gb177]? = some (.cells #[.slice A0_0 l0_0.length c0_0, .slice A0_1 l0_1.length c0_1] 27 (0, 0))) ∧ (w'.heap[gb178]? = some (.cells #[.slice none 0 0, .slice none 0 0] 27 (0, 0))) ∧ (Below w.heap.size w w')) ?_ ?_
         rotate_left
         ·intro hJ0_4
          refine join_ (σ := Value × Nat) 5 #[true, true, true, false, false, true, true, false, false, true, false] (fun s_ => [(23, s_.1), (8, .pointer (some ⟨s_.2, 0, none⟩))]) (fun s_ w' => (w'.cell? ⟨gb177, 0, none⟩ = some (.slice A0_0 l0_0.length c0_0) ∧ w'.cell? ⟨gb177, 1, none⟩ = some (.slice A0_1 l0_1.length c0_1)) ∧ (Kd.R (Kd.int .i64) 3 w' w.heap.size (fun _ => True) s_.1 y182) ∧ (w'.heap[gb177]? = some (.cells #[.slice A0_0 l0_0.length c0_0, .slice A0_1 l0_1.length c0_1] 27 (0, 0))) ∧ (w'.heap[gb178]? = some (.cells #[.slice none 0 0, .slice none 0 0] 27 (0, 0))) ∧ (w'.heap[s_.2]? = some (.cells #[.slice none 0 0, .slice none 0 0] 27 (0, 0))) ∧ (w.heap.size ≤ s_.2) ∧ (w.heap.size ≤ s_.2) ∧ (gb177 ≠ s_.2) ∧ (s_.2 ≠ gb177) ∧ (gb178 ≠ s_.2) ∧ (s_.2 ≠ gb178) ∧ (Below w.heap.size w w')) ?_ ?_
          rotate_left
          ·intro hJ0_9
           refine join_ (σ := Value × Nat) 5 #[false, true, true, false, true, true, true, false, false, true, false] (fun s_ => [(27, s_.1), (8, .pointer (some ⟨s_.2, 0, none⟩))]) (fun s_ w' => (w'.cell? ⟨gb177, 0, none⟩ = some (.slice A0_0 l0_0.length c0_0) ∧ w'.cell? ⟨gb177, 1, none⟩ = some (.slice A0_1 l0_1.length c0_1)) ∧ (Kd.R (Kd.int .i64) 3 w' w.heap.size (fun _ => True) s_.1 y188) ∧ (w'.heap[gb177]? = some (.cells #[.slice A0_0 l0_0.length c0_0, .slice A0_1 l0_1.length c0_1] 27 (0, 0))) ∧ (w'.heap[gb178]? = some (.cells #[.slice none 0 0, .slice none 0 0] 27 (0, 0))) ∧ (w'.heap[s_.2]? = some (.cells #[.slice none 0 0, .slice none 0 0] 27 (0, 0))) ∧ (w.heap.size ≤ s_.2) ∧ (w.heap.size ≤ s_.2) ∧ (gb177 ≠ s_.2) ∧ (s_.2 ≠ gb177) ∧ (gb178 ≠ s_.2) ∧ (s_.2 ≠ gb178) ∧ (Below w.heap.size w w')) ?_ ?_
           rotate_left
           ·intro hJ4_9
            refine join_ (σ := Value) 6 #[true, true, true, false, false, true, true, false, false, false, false] (fun s_ => [(23, s_)]) (fun s_ w' => (w'.cell? ⟨gb177, 0, none⟩ = some (.slice A0_0 l0_0.length c0_0) ∧ w'.cell? ⟨gb177, 1, none⟩ = some (.slice A0_1 l0_1.length c0_1)) ∧ (Kd.R (Kd.int .i64) 3 w' w.heap.size (fun _ => True) s_ y182) ∧ (w'.heap[gb177]? = some (.cells #[.slice A0_0 l0_0.length c0_0, .slice A0_1 l0_1.length c0_1] 27 (0, 0))) ∧ (w'.heap[gb178]? = some (.cells #[.slice none 0 0, .slice none 0 0] 27 (0, 0))) ∧ (Below w.heap.size w w')) ?_ ?_
            rotate_left
            ·intro hJ0
             refine join_ (σ := Value) 6 #[false, true, true, false, true, true, true, false, false, false, false] (fun s_ => [(27, s_)]) (fun s_ w' => (w'.cell? ⟨gb177, 0, none⟩ = some (.slice A0_0 l0_0.length c0_0) ∧ w'.cell? ⟨gb177, 1, none⟩ = some (.slice A0_1 l0_1.length c0_1)) ∧ (Kd.R (Kd.int .i64) 3 w' w.heap.size (fun _ => True) s_ y188) ∧ (w'.heap[gb177]? = some (.cells #[.slice A0_0 l0_0.length c0_0, .slice A0_1 l0_1.length c0_1] 27 (0, 0))) ∧ (w'.heap[gb178]? = some (.cells #[.slice none 0 0, .slice none 0 0] 27 (0, 0))) ∧ (Below w.heap.size w w')) ?_ ?_
             rotate_left
             ·intro hJ4
              refine join_ (σ := Nat) 6 #[false, true, true, false, false, true, true, false, false, true, false] (fun s_ => [(8, .pointer (some ⟨s_, 0, none⟩))]) (fun s_ w' => (w'.cell? ⟨gb177, 0, none⟩ = some (.slice A0_0 l0_0.length c0_0) ∧ w'.cell? ⟨gb177, 1, none⟩ = some (.slice A0_1 l0_1.length c0_1)) ∧ (w'.heap[gb177]? = some (.cells #[.slice A0_0 l0_0.length c0_0, .slice A0_1 l0_1.length c0_1] 27 (0, 0))) ∧ (w'.heap[gb178]? = some (.cells #[.slice none 0 0, .slice none 0 0] 27 (0, 0))) ∧ (w'.heap[s_]? = some (.cells #[.slice none 0 0, .slice none 0 0] 27 (0, 0))) ∧ (w.heap.size ≤ s_) ∧ (w.heap.size ≤ s_) ∧ (gb177 ≠ s_) ∧ (s_ ≠ gb177) ∧ (gb178 ≠ s_) ∧ (s_ ≠ gb178) ∧ (Below w.heap.size w w')) ?_ ?_
              rotate_left
              ·intro hJ9
               refine th_ 0 4 9 (some 23) (some 27) (some 8) (h1 := fun K hK => ?_) (h2 := fun K hK => ?_) (h3 := fun K hK => ?_)
               ·skip
                refine Kd.R_lit_step (Kd.int .i64) _ 3 rfl (N := 23) rfl (xs := ([] : List Int)) (inner := []) (ok := fun _ => True) (okp := fun _ => True) gs_ ?hp (fun _ hk => hk) trivial (Below.refl _ _) (Nat.le_refl _) (by simp) ?_; (case hp => exact (Reps.none _ _))
                intro v183 w33 ho34 hb hg_ hnew_
                clear hg_ hnew_
                (first | rw [← Ny182.out] at ho34 | (simp only [Int.reduceToNat] at ho34; rw [← Ny182.out] at ho34))
                have HO184 := Aside0.mk (Kd.R_lower ho34 bz_)
                replace BK177 := bb_ BK177 hb
                replace BK178 := bb_ BK178 hb
                replace HB := Aside0.mk (below_step bl_ hb)
                clear hb ho34
                refine hK.out _ _ ⟨bc_ BK177.out 0, bc_ BK177.out 1⟩ (fun hHeld => ?_)
                clear hK K
                refine norm_ nn_ ?_
                exact norm_ nq_ (hJ0 (v183) _ ⟨hHeld, kr_ HO184.out, kb_ BK177.out, kb_ BK178.out, bl_⟩)
               ·skip
                refine Kd.R_lit_step (Kd.int .i64) _ 3 rfl (N := 27) rfl (xs := ([] : List Int)) (inner := []) (ok := fun _ => True) (okp := fun _ => True) gs_ ?hp (fun _ hk => hk) trivial (Below.refl _ _) (Nat.le_refl _) (by simp) ?_; (case hp => exact (Reps.none _ _))
                intro v189 w33 ho34 hb hg_ hnew_
                clear hg_ hnew_
                (first | rw [← Ny188.out] at ho34 | (simp only [Int.reduceToNat] at ho34; rw [← Ny188.out] at ho34))
                have HO190 := Aside0.mk (Kd.R_lower ho34 bz_)
                replace BK177 := bb_ BK177 hb
                replace BK178 := bb_ BK178 hb
                replace HB := Aside0.mk (below_step bl_ hb)
                clear hb ho34
                refine hK.out _ _ ⟨bc_ BK177.out 0, bc_ BK177.out 1⟩ (fun hHeld => ?_)
                clear hK K
                refine norm_ nn_ ?_
                exact norm_ nq_ (hJ4 (v189) _ ⟨hHeld, kr_ HO190.out, kb_ BK177.out, kb_ BK178.out, bl_⟩)
               ·skip
                refine box_step rfl (N := 8) rfl (cs := #[.slice none 0 0, .slice none 0 0]) (t := 27) gs_ ?_
                intro gb194 hg w33 hbox hb
                have BK194 := Aside0.mk (hbox)
                have GW194 := Aside0.mk ((by rw [hg]; exact bz_ : w.heap.size ≤ gb194))
                have GE194 := GW194
                replace HB := Aside0.mk (below_step bl_ hb)
                have NB177_194 := nl_ hg BK177
                have NB194_177 := nm_ hg BK177
                replace BK177 := bb_ BK177 hb
                have NB178_194 := nl_ hg BK178
                have NB194_178 := nm_ hg BK178
                replace BK178 := bb_ BK178 hb
                clear hb hbox hg
                refine hK.out _ _ ⟨bc_ BK177.out 0, bc_ BK177.out 1⟩ (fun hHeld => ?_)
                clear hK K
                refine norm_ nn_ ?_
                exact norm_ nq_ (hJ9 (gb194) _ ⟨hHeld, kb_ BK177.out, kb_ BK178.out, kb_ BK194.out, GW194.out, GE194.out, NB177_194.out, NB194_177.out, NB178_194.out, NB194_178.out, bl_⟩)
              ·skip
               rintro gb194 w34 ⟨hS_, h0_, h1_, h2_, h3_, h4_, h5_, h6_, h7_, h8_, h9_⟩
               try dsimp only at h0_ h1_ h2_ h3_ h4_ h5_ h6_ h7_ h8_ h9_
               replace BK177 := Aside0.mk h0_
               replace BK178 := Aside0.mk h1_
               have BK194 := Aside0.mk h2_
               have GW194 := Aside0.mk h3_
               have GE194 := Aside0.mk h4_
               have NB177_194 := Aside0.mk h5_
               have NB194_177 := Aside0.mk h6_
               have NB178_194 := Aside0.mk h7_
               have NB194_178 := Aside0.mk h8_
               replace HB := Aside0.mk h9_
               clear h0_ h1_ h2_ h3_ h4_ h5_ h6_ h7_ h8_ h9_
               try dsimp only at hS_
               have hHeld := hS_
               refine norm_ np_ ?_
               refine tw_ 0 4 (some 23) (some 27) (h1 := fun K hK => ?_) (h2 := fun K hK => ?_)
               ·skip
                refine Kd.R_lit_step (Kd.int .i64) _ 3 rfl (N := 23) rfl (xs := ([] : List Int)) (inner := []) (ok := fun _ => True) (okp := fun _ => True) gs_ ?hp (fun _ hk => hk) trivial (Below.refl _ _) (Nat.le_refl _) (by simp) ?_; (case hp => exact (Reps.none _ _))
                intro v183 w35 ho36 hb hg_ hnew_
                clear hg_ hnew_
                (first | rw [← Ny182.out] at ho36 | (simp only [Int.reduceToNat] at ho36; rw [← Ny182.out] at ho36))
                have HO184 := Aside0.mk (Kd.R_lower ho36 bz_)
                replace BK177 := bb_ BK177 hb
                replace BK178 := bb_ BK178 hb
                replace BK194 := bb_ BK194 hb
                replace HB := Aside0.mk (below_step bl_ hb)
                clear hb ho36
                refine hK.out _ _ ⟨bc_ BK177.out 0, bc_ BK177.out 1⟩ (fun hHeld => ?_)
                clear hK K
                refine norm_ nn_ ?_
                exact norm_ nq_ (hJ0_9 (v183, gb194) _ ⟨hHeld, kr_ HO184.out, kb_ BK177.out, kb_ BK178.out, kb_ BK194.out, GW194.out, GE194.out, NB177_194.out, NB194_177.out, NB178_194.out, NB194_178.out, bl_⟩)
               ·skip
                refine Kd.R_lit_step (Kd.int .i64) _ 3 rfl (N := 27) rfl (xs := ([] : List Int)) (inner := []) (ok := fun _ => True) (okp := fun _ => True) gs_ ?hp (fun _ hk => hk) trivial (Below.refl _ _) (Nat.le_refl _) (by simp) ?_; (case hp => exact (Reps.none _ _))
                intro v189 w35 ho36 hb hg_ hnew_
                clear hg_ hnew_
                (first | rw [← Ny188.out] at ho36 | (simp only [Int.reduceToNat] at ho36; rw [← Ny188.out] at ho36))
                have HO190 := Aside0.mk (Kd.R_lower ho36 bz_)
                replace BK177 := bb_ BK177 hb
                replace BK178 := bb_ BK178 hb
                replace BK194 := bb_ BK194 hb
                replace HB := Aside0.mk (below_step bl_ hb)
                clear hb ho36
                refine hK.out _ _ ⟨bc_ BK177.out 0, bc_ BK177.out 1⟩ (fun hHeld => ?_)
                clear hK K
                refine norm_ nn_ ?_
                exact norm_ nq_ (hJ4_9 (v189, gb194) _ ⟨hHeld, kr_ HO190.out, kb_ BK177.out, kb_ BK178.out, kb_ BK194.out, GW194.out, GE194.out, NB177_194.out, NB194_177.out, NB178_194.out, NB194_178.out, bl_⟩)
             ·skip
              rintro v189 w35 ⟨hS_, h0_, h1_, h2_, h3_⟩
              try dsimp only at h0_ h1_ h2_ h3_
              have HO190 := Aside0.mk h0_
              replace BK177 := Aside0.mk h1_
              replace BK178 := Aside0.mk h2_
              replace HB := Aside0.mk h3_
              clear h0_ h1_ h2_ h3_
              try dsimp only at hS_
              have hHeld := hS_
              refine norm_ np_ ?_
              refine tw_ 0 9 (some 23) (some 8) (h1 := fun K hK => ?_) (h2 := fun K hK => ?_)
              ·skip
               refine Kd.R_lit_step (Kd.int .i64) _ 3 rfl (N := 23) rfl (xs := ([] : List Int)) (inner := []) (ok := fun _ => True) (okp := fun _ => True) gs_ ?hp (fun _ hk => hk) trivial (Below.refl _ _) (Nat.le_refl _) (by simp) ?_; (case hp => exact (Reps.none _ _))
               intro v183 w36 ho37 hb hg_ hnew_
               clear hg_ hnew_
               (first | rw [← Ny182.out] at ho37 | (simp only [Int.reduceToNat] at ho37; rw [← Ny182.out] at ho37))
               have HO184 := Aside0.mk (Kd.R_lower (rn_ ho37 HO190.out) bz_)
               replace HO190 := Aside0.mk (Kd.R_elder' (kr_ HO190.out) (Kd.R_base ho37) hb)
               replace BK177 := bb_ BK177 hb
               replace BK178 := bb_ BK178 hb
               replace HB := Aside0.mk (below_step bl_ hb)
               clear hb ho37
               refine hK.out _ _ ⟨bc_ BK177.out 0, bc_ BK177.out 1⟩ (fun hHeld => ?_)
               clear hK K
               refine norm_ nn_ ?_
               exact norm_ nq_ (hJ0_4 (v183, v189) _ ⟨hHeld, kp_ HO184.out, kp_ HO190.out, kb_ BK177.out, kb_ BK178.out, bl_⟩)
              ·skip
               refine box_step rfl (N := 8) rfl (cs := #[.slice none 0 0, .slice none 0 0]) (t := 27) gs_ ?_
               intro gb194 hg w36 hbox hb
               replace HO190 := rb_ HO190 hb
               have BK194 := Aside0.mk (hbox)
               have GW194 := Aside0.mk ((by rw [hg]; exact bz_ : w.heap.size ≤ gb194))
               have GE194 := GW194
               replace HB := Aside0.mk (below_step bl_ hb)
               have NB177_194 := nl_ hg BK177
               have NB194_177 := nm_ hg BK177
               replace BK177 := bb_ BK177 hb
               have NB178_194 := nl_ hg BK178
               have NB194_178 := nm_ hg BK178
               replace BK178 := bb_ BK178 hb
               clear hb hbox hg
               refine hK.out _ _ ⟨bc_ BK177.out 0, bc_ BK177.out 1⟩ (fun hHeld => ?_)
               clear hK K
               refine norm_ nn_ ?_
               exact norm_ nq_ (hJ4_9 (v189, gb194) _ ⟨hHeld, kr_ HO190.out, kb_ BK177.out, kb_ BK178.out, kb_ BK194.out, GW194.out, GE194.out, NB177_194.out, NB194_177.out, NB178_194.out, NB194_178.out, bl_⟩)
            ·skip
             rintro v183 w35 ⟨hS_, h0_, h1_, h2_, h3_⟩
             try dsimp only at h0_ h1_ h2_ h3_
             have HO184 := Aside0.mk h0_
             replace BK177 := Aside0.mk h1_
             replace BK178 := Aside0.mk h2_
             replace HB := Aside0.mk h3_
             clear h0_ h1_ h2_ h3_
             try dsimp only at hS_
             have hHeld := hS_
             refine norm_ np_ ?_
             refine th_ 3 4 9 (some 26) (some 27) (some 8) (h1 := fun K hK => ?_) (h2 := fun K hK => ?_) (h3 := fun K hK => ?_)
             ·skip
              refine Kd.R_append_rows_step (Kd.int .i64) (w0 := w) w.heap.size (by rfl) (.tmp 23) (.tmp 25) 22 3 (.int .i64 0) 8 rfl Try.underlying22 info3 rfl (by decide) (by omega) v183 y182 l0_0 _ _ _ (fun _ => True) (fun _ => False) rfl rfl ?aO ?aR (fun _ _ h => h) (fun _ h => h.elim) ?aF ?aB ?aS ?aL ?_
              (case aR => exact kc_ (Kd.C_below HR0_0.out HB.out))
              (case aB => exact bl_)
              (case aF => exact (fun _ _ => trivial))
              (case aO => exact (kr_ HO184.out))
              (case aS => exact bz_)
              (case aL => have := LMc24.out; omega)
              intro v186 w36 ho hb hg hat
              rw [← Ny185.out] at ho
              replace BK177 := bgr_ BK177 hg HO184 BK177
              replace BK178 := bgr_ BK178 hg HO184 BK178
              replace HB := Aside0.mk (hb)
              have HO187 := Aside0.mk (ho)
              clear HO184 ho hb hg hat
              refine hK.out _ _ ⟨bc_ BK177.out 0, bc_ BK177.out 1⟩ (fun hHeld => ?_)
              clear hK K
              refine norm_ nn_ ?_
              exact norm_ nq_ (hJ0_3 (v183, v186) _ ⟨hHeld, kr_ HO187.out, kb_ BK177.out, kb_ BK178.out, bl_⟩)
             ·skip
              refine Kd.R_lit_step (Kd.int .i64) _ 3 rfl (N := 27) rfl (xs := ([] : List Int)) (inner := []) (ok := fun _ => True) (okp := fun _ => True) gs_ ?hp (fun _ hk => hk) trivial (Below.refl _ _) (Nat.le_refl _) (by simp) ?_; (case hp => exact (Reps.none _ _))
              intro v189 w36 ho37 hb hg_ hnew_
              clear hg_ hnew_
              (first | rw [← Ny188.out] at ho37 | (simp only [Int.reduceToNat] at ho37; rw [← Ny188.out] at ho37))
              have HO190 := Aside0.mk (Kd.R_lower (rn_ ho37 HO184.out) bz_)
              replace HO184 := Aside0.mk (Kd.R_elder' (kr_ HO184.out) (Kd.R_base ho37) hb)
              replace BK177 := bb_ BK177 hb
              replace BK178 := bb_ BK178 hb
              replace HB := Aside0.mk (below_step bl_ hb)
              clear hb ho37
              refine hK.out _ _ ⟨bc_ BK177.out 0, bc_ BK177.out 1⟩ (fun hHeld => ?_)
              clear hK K
              refine norm_ nn_ ?_
              exact norm_ nq_ (hJ0_4 (v183, v189) _ ⟨hHeld, kp_ HO184.out, kp_ HO190.out, kb_ BK177.out, kb_ BK178.out, bl_⟩)
             ·skip
              refine box_step rfl (N := 8) rfl (cs := #[.slice none 0 0, .slice none 0 0]) (t := 27) gs_ ?_
              intro gb194 hg w36 hbox hb
              replace HO184 := rb_ HO184 hb
              have BK194 := Aside0.mk (hbox)
              have GW194 := Aside0.mk ((by rw [hg]; exact bz_ : w.heap.size ≤ gb194))
              have GE194 := GW194
              replace HB := Aside0.mk (below_step bl_ hb)
              have NB177_194 := nl_ hg BK177
              have NB194_177 := nm_ hg BK177
              replace BK177 := bb_ BK177 hb
              have NB178_194 := nl_ hg BK178
              have NB194_178 := nm_ hg BK178
              replace BK178 := bb_ BK178 hb
              clear hb hbox hg
              refine hK.out _ _ ⟨bc_ BK177.out 0, bc_ BK177.out 1⟩ (fun hHeld => ?_)
              clear hK K
              refine norm_ nn_ ?_
              exact norm_ nq_ (hJ0_9 (v183, gb194) _ ⟨hHeld, kr_ HO184.out, kb_ BK177.out, kb_ BK178.out, kb_ BK194.out, GW194.out, GE194.out, NB177_194.out, NB194_177.out, NB178_194.out, NB194_178.out, bl_⟩)
           ·skip
            rintro ⟨v189, gb194⟩ w36 ⟨hS_, h0_, h1_, h2_, h3_, h4_, h5_, h6_, h7_, h8_, h9_, h10_⟩
            dsimp only at h0_ h1_ h2_ h3_ h4_ h5_ h6_ h7_ h8_ h9_ h10_
            have HO190 := Aside0.mk h0_
            replace BK177 := Aside0.mk h1_
            replace BK178 := Aside0.mk h2_
            have BK194 := Aside0.mk h3_
            have GW194 := Aside0.mk h4_
            have GE194 := Aside0.mk h5_
            have NB177_194 := Aside0.mk h6_
            have NB194_177 := Aside0.mk h7_
            have NB178_194 := Aside0.mk h8_
            have NB194_178 := Aside0.mk h9_
            replace HB := Aside0.mk h10_
            clear h0_ h1_ h2_ h3_ h4_ h5_ h6_ h7_ h8_ h9_ h10_
            try dsimp only at hS_
            have hHeld := hS_
            refine norm_ np_ ?_
            refine on_ 0 (some 23) (h := fun K hK => ?_)
            refine Kd.R_lit_step (Kd.int .i64) _ 3 rfl (N := 23) rfl (xs := ([] : List Int)) (inner := []) (ok := fun _ => True) (okp := fun _ => True) gs_ ?hp (fun _ hk => hk) trivial (Below.refl _ _) (Nat.le_refl _) (by simp) ?_; (case hp => exact (Reps.none _ _))
            intro v183 w37 ho38 hb hg_ hnew_
            clear hg_ hnew_
            (first | rw [← Ny182.out] at ho38 | (simp only [Int.reduceToNat] at ho38; rw [← Ny182.out] at ho38))
            have HO184 := Aside0.mk (Kd.R_lower (rn_ ho38 HO190.out) bz_)
            replace HO190 := Aside0.mk (Kd.R_elder' (kr_ HO190.out) (Kd.R_base ho38) hb)
            replace BK177 := bb_ BK177 hb
            replace BK178 := bb_ BK178 hb
            replace BK194 := bb_ BK194 hb
            replace HB := Aside0.mk (below_step bl_ hb)
            clear hb ho38
            refine hK.out _ _ ⟨bc_ BK177.out 0, bc_ BK177.out 1⟩ (fun hHeld => ?_)
            clear hK K
            refine norm_ nn_ ?_
            exact norm_ nq_ (hJ0_4_9 (v183, v189, gb194) _ ⟨hHeld, kp_ HO184.out, kp_ HO190.out, kb_ BK177.out, kb_ BK178.out, kb_ BK194.out, GW194.out, GE194.out, NB177_194.out, NB194_177.out, NB178_194.out, NB194_178.out, bl_⟩)
          ·skip
           rintro ⟨v183, gb194⟩ w36 ⟨hS_, h0_, h1_, h2_, h3_, h4_, h5_, h6_, h7_, h8_, h9_, h10_⟩
           dsimp only at h0_ h1_ h2_ h3_ h4_ h5_ h6_ h7_ h8_ h9_ h10_
           have HO184 := Aside0.mk h0_
           replace BK177 := Aside0.mk h1_
           replace BK178 := Aside0.mk h2_
           have BK194 := Aside0.mk h3_
           have GW194 := Aside0.mk h4_
           have GE194 := Aside0.mk h5_
           have NB177_194 := Aside0.mk h6_
           have NB194_177 := Aside0.mk h7_
           have NB178_194 := Aside0.mk h8_
           have NB194_178 := Aside0.mk h9_
           replace HB := Aside0.mk h10_
           clear h0_ h1_ h2_ h3_ h4_ h5_ h6_ h7_ h8_ h9_ h10_
           try dsimp only at hS_
           have hHeld := hS_
           refine norm_ np_ ?_
           refine tw_ 3 4 (some 26) (some 27) (h1 := fun K hK => ?_) (h2 := fun K hK => ?_)
           ·skip
            refine Kd.R_append_rows_step (Kd.int .i64) (w0 := w) w.heap.size (by rfl) (.tmp 23) (.tmp 25) 22 3 (.int .i64 0) 8 rfl Try.underlying22 info3 rfl (by decide) (by omega) v183 y182 l0_0 _ _ _ (fun _ => True) (fun _ => False) rfl rfl ?aO ?aR (fun _ _ h => h) (fun _ h => h.elim) ?aF ?aB ?aS ?aL ?_
            (case aR => exact kc_ (Kd.C_below HR0_0.out HB.out))
            (case aB => exact bl_)
            (case aF => exact (fun _ _ => trivial))
            (case aO => exact (kr_ HO184.out))
            (case aS => exact bz_)
            (case aL => have := LMc24.out; omega)
            intro v186 w37 ho hb hg hat
            rw [← Ny185.out] at ho
            replace BK177 := bgr_ BK177 hg HO184 BK177
            replace BK178 := bgr_ BK178 hg HO184 BK178
            replace BK194 := bgr_ BK194 hg HO184 BK194
            replace HB := Aside0.mk (hb)
            have HO187 := Aside0.mk (ho)
            clear HO184 ho hb hg hat
            refine hK.out _ _ ⟨bc_ BK177.out 0, bc_ BK177.out 1⟩ (fun hHeld => ?_)
            clear hK K
            refine norm_ nn_ ?_
            exact norm_ nq_ (hJ0_3_9 (v183, v186, gb194) _ ⟨hHeld, kr_ HO187.out, kb_ BK177.out, kb_ BK178.out, kb_ BK194.out, GW194.out, GE194.out, NB177_194.out, NB194_177.out, NB178_194.out, NB194_178.out, bl_⟩)
           ·skip
            refine Kd.R_lit_step (Kd.int .i64) _ 3 rfl (N := 27) rfl (xs := ([] : List Int)) (inner := []) (ok := fun _ => True) (okp := fun _ => True) gs_ ?hp (fun _ hk => hk) trivial (Below.refl _ _) (Nat.le_refl _) (by simp) ?_; (case hp => exact (Reps.none _ _))
            intro v189 w37 ho38 hb hg_ hnew_
            clear hg_ hnew_
            (first | rw [← Ny188.out] at ho38 | (simp only [Int.reduceToNat] at ho38; rw [← Ny188.out] at ho38))
            have HO190 := Aside0.mk (Kd.R_lower (rn_ ho38 HO184.out) bz_)
            replace HO184 := Aside0.mk (Kd.R_elder' (kr_ HO184.out) (Kd.R_base ho38) hb)
            replace BK177 := bb_ BK177 hb
            replace BK178 := bb_ BK178 hb
            replace BK194 := bb_ BK194 hb
            replace HB := Aside0.mk (below_step bl_ hb)
            clear hb ho38
            refine hK.out _ _ ⟨bc_ BK177.out 0, bc_ BK177.out 1⟩ (fun hHeld => ?_)
            clear hK K
            refine norm_ nn_ ?_
            exact norm_ nq_ (hJ0_4_9 (v183, v189, gb194) _ ⟨hHeld, kp_ HO184.out, kp_ HO190.out, kb_ BK177.out, kb_ BK178.out, kb_ BK194.out, GW194.out, GE194.out, NB177_194.out, NB194_177.out, NB178_194.out, NB194_178.out, bl_⟩)
         ·skip
          rintro ⟨v183, v189⟩ w37 ⟨hS_, h0_, h1_, h2_, h3_, h4_⟩
          dsimp only at h0_ h1_ h2_ h3_ h4_
          have HO184 := Aside0.mk h0_
          have HO190 := Aside0.mk h1_
          replace BK177 := Aside0.mk h2_
          replace BK178 := Aside0.mk h3_
          replace HB := Aside0.mk h4_
          clear h0_ h1_ h2_ h3_ h4_
          try dsimp only at hS_
          have hHeld := hS_
          refine norm_ np_ ?_
          refine tw_ 3 9 (some 26) (some 8) (h1 := fun K hK => ?_) (h2 := fun K hK => ?_)
          ·skip
           refine Kd.R_append_rows_step (Kd.int .i64) (w0 := w) w.heap.size (by rfl) (.tmp 23) (.tmp 25) 22 3 (.int .i64 0) 8 rfl Try.underlying22 info3 rfl (by decide) (by omega) v183 y182 l0_0 _ _ _ (fun k_ => some k_ ≠ (v189 : Value).ownBlock) (fun _ => False) rfl rfl ?aO ?aR (fun _ _ h => h) (fun _ h => h.elim) ?aF ?aB ?aS ?aL ?_
           (case aR => exact kc_ (Kd.C_below HR0_0.out HB.out))
           (case aB => exact bl_)
           (case aF => exact (fun k_ hk => Kd.fresh' (Kd.R_lt (kr_ HO190.out)) k_ hk))
           (case aO => exact (kr_ HO184.out))
           (case aS => exact bz_)
           (case aL => have := LMc24.out; omega)
           intro v186 w38 ho hb hg hat
           rw [← Ny185.out] at ho
           replace BK177 := bgr_ BK177 hg HO184 BK177
           replace BK178 := bgr_ BK178 hg HO184 BK178
           replace HO190 := Aside0.mk (Kd.R_after (ok := (fun _ => True)) (by exact kr_ (Kd.R_mono HO190.out (fun _ hk => ⟨trivial, hk⟩))) hg hat)
           replace HB := Aside0.mk (hb)
           have HO187 := Aside0.mk (ho)
           clear HO184 ho hb hg hat
           refine hK.out _ _ ⟨bc_ BK177.out 0, bc_ BK177.out 1⟩ (fun hHeld => ?_)
           clear hK K
           refine norm_ nn_ ?_
           exact norm_ nq_ (hJ0_3_4 (v183, v186, v189) _ ⟨hHeld, kr_ HO187.out, kp_ HO190.out, kb_ BK177.out, kb_ BK178.out, bl_⟩)
          ·skip
           refine box_step rfl (N := 8) rfl (cs := #[.slice none 0 0, .slice none 0 0]) (t := 27) gs_ ?_
           intro gb194 hg w38 hbox hb
           replace HO184 := rb_ HO184 hb
           replace HO190 := rb_ HO190 hb
           have BK194 := Aside0.mk (hbox)
           have GW194 := Aside0.mk ((by rw [hg]; exact bz_ : w.heap.size ≤ gb194))
           have GE194 := GW194
           replace HB := Aside0.mk (below_step bl_ hb)
           have NB177_194 := nl_ hg BK177
           have NB194_177 := nm_ hg BK177
           replace BK177 := bb_ BK177 hb
           have NB178_194 := nl_ hg BK178
           have NB194_178 := nm_ hg BK178
           replace BK178 := bb_ BK178 hb
           clear hb hbox hg
           refine hK.out _ _ ⟨bc_ BK177.out 0, bc_ BK177.out 1⟩ (fun hHeld => ?_)
           clear hK K
           refine norm_ nn_ ?_
           exact norm_ nq_ (hJ0_4_9 (v183, v189, gb194) _ ⟨hHeld, kr_ HO184.out, kr_ HO190.out, kb_ BK177.out, kb_ BK178.out, kb_ BK194.out, GW194.out, GE194.out, NB177_194.out, NB194_177.out, NB178_194.out, NB194_178.out, bl_⟩)
        ·skip
         rintro ⟨v183, v186⟩ w36 ⟨hS_, h0_, h1_, h2_, h3_⟩
         dsimp only at h0_ h1_ h2_ h3_
         have HO187 := Aside0.mk h0_
         replace BK177 := Aside0.mk h1_
         replace BK178 := Aside0.mk h2_
         replace HB := Aside0.mk h3_
         clear h0_ h1_ h2_ h3_
         try dsimp only at hS_
         have hHeld := hS_
         refine norm_ np_ ?_
         refine tw_ 4 9 (some 27) (some 8) (h1 := fun K hK => ?_) (h2 := fun K hK => ?_)
         ·skip
          refine Kd.R_lit_step (Kd.int .i64) _ 3 rfl (N := 27) rfl (xs := ([] : List Int)) (inner := []) (ok := fun _ => True) (okp := fun _ => True) gs_ ?hp (fun _ hk => hk) trivial (Below.refl _ _) (Nat.le_refl _) (by simp) ?_; (case hp => exact (Reps.none _ _))
          intro v189 w37 ho38 hb hg_ hnew_
          clear hg_ hnew_
          (first | rw [← Ny188.out] at ho38 | (simp only [Int.reduceToNat] at ho38; rw [← Ny188.out] at ho38))
          have HO190 := Aside0.mk (Kd.R_lower (rn_ ho38 HO187.out) bz_)
          replace HO187 := Aside0.mk (Kd.R_elder' (kr_ HO187.out) (Kd.R_base ho38) hb)
          replace BK177 := bb_ BK177 hb
          replace BK178 := bb_ BK178 hb
          replace HB := Aside0.mk (below_step bl_ hb)
          clear hb ho38
          refine hK.out _ _ ⟨bc_ BK177.out 0, bc_ BK177.out 1⟩ (fun hHeld => ?_)
          clear hK K
          refine norm_ nn_ ?_
          exact norm_ nq_ (hJ0_3_4 (v183, v186, v189) _ ⟨hHeld, kp_ HO187.out, kp_ HO190.out, kb_ BK177.out, kb_ BK178.out, bl_⟩)
         ·skip
          refine box_step rfl (N := 8) rfl (cs := #[.slice none 0 0, .slice none 0 0]) (t := 27) gs_ ?_
          intro gb194 hg w37 hbox hb
          replace HO187 := rb_ HO187 hb
          have BK194 := Aside0.mk (hbox)
          have GW194 := Aside0.mk ((by rw [hg]; exact bz_ : w.heap.size ≤ gb194))
          have GE194 := GW194
          replace HB := Aside0.mk (below_step bl_ hb)
          have NB177_194 := nl_ hg BK177
          have NB194_177 := nm_ hg BK177
          replace BK177 := bb_ BK177 hb
          have NB178_194 := nl_ hg BK178
          have NB194_178 := nm_ hg BK178
          replace BK178 := bb_ BK178 hb
          clear hb hbox hg
          refine hK.out _ _ ⟨bc_ BK177.out 0, bc_ BK177.out 1⟩ (fun hHeld => ?_)
          clear hK K
          refine norm_ nn_ ?_
          exact norm_ nq_ (hJ0_3_9 (v183, v186, gb194) _ ⟨hHeld, kr_ HO187.out, kb_ BK177.out, kb_ BK178.out, kb_ BK194.out, GW194.out, GE194.out, NB177_194.out, NB194_177.out, NB178_194.out, NB194_178.out, bl_⟩)
       ·skip
        rintro ⟨v183, v189, gb194⟩ w38 ⟨hS_, h0_, h1_, h2_, h3_, h4_, h5_, h6_, h7_, h8_, h9_, h10_, h11_⟩
        dsimp only at h0_ h1_ h2_ h3_ h4_ h5_ h6_ h7_ h8_ h9_ h10_ h11_
        have HO184 := Aside0.mk h0_
        have HO190 := Aside0.mk h1_
        replace BK177 := Aside0.mk h2_
        replace BK178 := Aside0.mk h3_
        have BK194 := Aside0.mk h4_
        have GW194 := Aside0.mk h5_
        have GE194 := Aside0.mk h6_
        have NB177_194 := Aside0.mk h7_
        have NB194_177 := Aside0.mk h8_
        have NB178_194 := Aside0.mk h9_
        have NB194_178 := Aside0.mk h10_
        replace HB := Aside0.mk h11_
        clear h0_ h1_ h2_ h3_ h4_ h5_ h6_ h7_ h8_ h9_ h10_ h11_
        try dsimp only at hS_
        have hHeld := hS_
        refine norm_ np_ ?_
        refine on_ 3 (some 26) (h := fun K hK => ?_)
        refine Kd.R_append_rows_step (Kd.int .i64) (w0 := w) w.heap.size (by rfl) (.tmp 23) (.tmp 25) 22 3 (.int .i64 0) 8 rfl Try.underlying22 info3 rfl (by decide) (by omega) v183 y182 l0_0 _ _ _ (fun k_ => some k_ ≠ (v189 : Value).ownBlock) (fun _ => False) rfl rfl ?aO ?aR (fun _ _ h => h) (fun _ h => h.elim) ?aF ?aB ?aS ?aL ?_
        (case aR => exact kc_ (Kd.C_below HR0_0.out HB.out))
        (case aB => exact bl_)
        (case aF => exact (fun k_ hk => Kd.fresh' (Kd.R_lt (kr_ HO190.out)) k_ hk))
        (case aO => exact (kr_ HO184.out))
        (case aS => exact bz_)
        (case aL => have := LMc24.out; omega)
        intro v186 w39 ho hb hg hat
        rw [← Ny185.out] at ho
        replace BK177 := bgr_ BK177 hg HO184 BK177
        replace BK178 := bgr_ BK178 hg HO184 BK178
        replace HO190 := Aside0.mk (Kd.R_after (ok := (fun _ => True)) (by exact kr_ (Kd.R_mono HO190.out (fun _ hk => ⟨trivial, hk⟩))) hg hat)
        replace BK194 := bgr_ BK194 hg HO184 BK194
        replace HB := Aside0.mk (hb)
        have HO187 := Aside0.mk (ho)
        clear HO184 ho hb hg hat
        refine hK.out _ _ ⟨bc_ BK177.out 0, bc_ BK177.out 1⟩ (fun hHeld => ?_)
        clear hK K
        refine norm_ nn_ ?_
        exact norm_ nq_ (hJ0_3_4_9 (v183, v186, v189, gb194) _ ⟨hHeld, kr_ HO187.out, kp_ HO190.out, kb_ BK177.out, kb_ BK178.out, kb_ BK194.out, GW194.out, GE194.out, NB177_194.out, NB194_177.out, NB178_194.out, NB194_178.out, bl_⟩)
      ·skip
       rintro ⟨v183, v186, gb194⟩ w37 ⟨hS_, h0_, h1_, h2_, h3_, h4_, h5_, h6_, h7_, h8_, h9_, h10_⟩
       dsimp only at h0_ h1_ h2_ h3_ h4_ h5_ h6_ h7_ h8_ h9_ h10_
       have HO187 := Aside0.mk h0_
       replace BK177 := Aside0.mk h1_
       replace BK178 := Aside0.mk h2_
       have BK194 := Aside0.mk h3_
       have GW194 := Aside0.mk h4_
       have GE194 := Aside0.mk h5_
       have NB177_194 := Aside0.mk h6_
       have NB194_177 := Aside0.mk h7_
       have NB178_194 := Aside0.mk h8_
       have NB194_178 := Aside0.mk h9_
       replace HB := Aside0.mk h10_
       clear h0_ h1_ h2_ h3_ h4_ h5_ h6_ h7_ h8_ h9_ h10_
       try dsimp only at hS_
       have hHeld := hS_
       refine norm_ np_ ?_
       refine on_ 4 (some 27) (h := fun K hK => ?_)
       refine Kd.R_lit_step (Kd.int .i64) _ 3 rfl (N := 27) rfl (xs := ([] : List Int)) (inner := []) (ok := fun _ => True) (okp := fun _ => True) gs_ ?hp (fun _ hk => hk) trivial (Below.refl _ _) (Nat.le_refl _) (by simp) ?_; (case hp => exact (Reps.none _ _))
       intro v189 w38 ho39 hb hg_ hnew_
       clear hg_ hnew_
       (first | rw [← Ny188.out] at ho39 | (simp only [Int.reduceToNat] at ho39; rw [← Ny188.out] at ho39))
       have HO190 := Aside0.mk (Kd.R_lower (rn_ ho39 HO187.out) bz_)
       replace HO187 := Aside0.mk (Kd.R_elder' (kr_ HO187.out) (Kd.R_base ho39) hb)
       replace BK177 := bb_ BK177 hb
       replace BK178 := bb_ BK178 hb
       replace BK194 := bb_ BK194 hb
       replace HB := Aside0.mk (below_step bl_ hb)
       clear hb ho39
       refine hK.out _ _ ⟨bc_ BK177.out 0, bc_ BK177.out 1⟩ (fun hHeld => ?_)
       clear hK K
       refine norm_ nn_ ?_
       exact norm_ nq_ (hJ0_3_4_9 (v183, v186, v189, gb194) _ ⟨hHeld, kp_ HO187.out, kp_ HO190.out, kb_ BK177.out, kb_ BK178.out, kb_ BK194.out, GW194.out, GE194.out, NB177_194.out, NB194_177.out, NB178_194.out, NB194_178.out, bl_⟩)
     ·skip
      rintro ⟨v183, v186, v189⟩ w38 ⟨hS_, h0_, h1_, h2_, h3_, h4_⟩
      dsimp only at h0_ h1_ h2_ h3_ h4_
      have HO187 := Aside0.mk h0_
      have HO190 := Aside0.mk h1_
      replace BK177 := Aside0.mk h2_
      replace BK178 := Aside0.mk h3_
      replace HB := Aside0.mk h4_
      clear h0_ h1_ h2_ h3_ h4_
      try dsimp only at hS_
      have hHeld := hS_
      refine norm_ np_ ?_
      refine tw_ 7 9 (some 30) (some 8) (h1 := fun K hK => ?_) (h2 := fun K hK => ?_)
      ·skip
       refine Kd.R_append_rows_step (Kd.int .i64) (w0 := w) w.heap.size (by rfl) (.tmp 27) (.tmp 29) 22 3 (.int .i64 0) 8 rfl Try.underlying22 info3 rfl (by decide) (by omega) v189 y188 l0_1 _ _ _ (fun k_ => some k_ ≠ (v186 : Value).ownBlock) (fun _ => False) rfl rfl ?aO ?aR (fun _ _ h => h) (fun _ h => h.elim) ?aF ?aB ?aS ?aL ?_
       (case aR => exact kc_ (Kd.C_below HR0_1.out HB.out))
       (case aB => exact bl_)
       (case aF => exact (fun k_ hk => Kd.fresh' (Kd.R_lt (kr_ HO187.out)) k_ hk))
       (case aO => exact (kr_ HO190.out))
       (case aS => exact bz_)
       (case aL => have := LMc25.out; omega)
       intro v192 w39 ho hb hg hat
       rw [← Ny191.out] at ho
       replace BK177 := bgr_ BK177 hg HO190 BK177
       replace BK178 := bgr_ BK178 hg HO190 BK178
       replace HO187 := Aside0.mk (Kd.R_after (ok := (fun _ => True)) (by exact kr_ (Kd.R_mono HO187.out (fun _ hk => ⟨trivial, hk⟩))) hg hat)
       replace HB := Aside0.mk (hb)
       have HO193 := Aside0.mk (ho)
       clear HO190 ho hb hg hat
       obtain ⟨Ao40, co40, eo40⟩ := Kd.R_slice HO193.out
       (first | subst eo40 | (injection eo40 with f1_ f2_ f3_; have f4_ := f1_.symm; have f5_ := f3_.symm; clear f1_ f2_ f3_; subst f4_; subst f5_))
       obtain ⟨Ao41, co41, eo41⟩ := Kd.R_slice HO187.out
       (first | subst eo41 | (injection eo41 with f1_ f2_ f3_; have f4_ := f1_.symm; have f5_ := f3_.symm; clear f1_ f2_ f3_; subst f4_; subst f5_))
       refine hK.out _ _ ⟨bc_ BK177.out 0, bc_ BK177.out 1⟩ (fun hHeld => ?_)
       clear hK K
       refine norm_ nn_ ?_
       refine pu_ 8 (some 31) (h := ?_)
       exact norm_ nq_ (hJ0_3_4_7 (v183, .slice Ao41 y185.length co41, v189, .slice Ao40 y191.length co40) _ ⟨hHeld, kp_ HO187.out, kr_ HO193.out, kb_ BK177.out, kb_ BK178.out, bl_⟩)
      ·skip
       refine box_step rfl (N := 8) rfl (cs := #[.slice none 0 0, .slice none 0 0]) (t := 27) gs_ ?_
       intro gb194 hg w39 hbox hb
       replace HO187 := rb_ HO187 hb
       replace HO190 := rb_ HO190 hb
       have BK194 := Aside0.mk (hbox)
       have GW194 := Aside0.mk ((by rw [hg]; exact bz_ : w.heap.size ≤ gb194))
       have GE194 := GW194
       replace HB := Aside0.mk (below_step bl_ hb)
       have NB177_194 := nl_ hg BK177
       have NB194_177 := nm_ hg BK177
       replace BK177 := bb_ BK177 hb
       have NB178_194 := nl_ hg BK178
       have NB194_178 := nm_ hg BK178
       replace BK178 := bb_ BK178 hb
       clear hb hbox hg
       refine hK.out _ _ ⟨bc_ BK177.out 0, bc_ BK177.out 1⟩ (fun hHeld => ?_)
       clear hK K
       refine norm_ nn_ ?_
       exact norm_ nq_ (hJ0_3_4_9 (v183, v186, v189, gb194) _ ⟨hHeld, kr_ HO187.out, kr_ HO190.out, kb_ BK177.out, kb_ BK178.out, kb_ BK194.out, GW194.out, GE194.out, NB177_194.out, NB194_177.out, NB178_194.out, NB194_178.out, bl_⟩)
    ·skip
     rintro ⟨v183, v186, v189, gb194⟩ w39 ⟨hS_, h0_, h1_, h2_, h3_, h4_, h5_, h6_, h7_, h8_, h9_, h10_, h11_⟩
     dsimp only at h0_ h1_ h2_ h3_ h4_ h5_ h6_ h7_ h8_ h9_ h10_ h11_
     have HO187 := Aside0.mk h0_
     have HO190 := Aside0.mk h1_
     replace BK177 := Aside0.mk h2_
     replace BK178 := Aside0.mk h3_
     have BK194 := Aside0.mk h4_
     have GW194 := Aside0.mk h5_
     have GE194 := Aside0.mk h6_
     have NB177_194 := Aside0.mk h7_
     have NB194_177 := Aside0.mk h8_
     have NB178_194 := Aside0.mk h9_
     have NB194_178 := Aside0.mk h10_
     replace HB := Aside0.mk h11_
     clear h0_ h1_ h2_ h3_ h4_ h5_ h6_ h7_ h8_ h9_ h10_ h11_
     try dsimp only at hS_
     have hHeld := hS_
     refine norm_ np_ ?_
     refine on_ 7 (some 30) (h := fun K hK => ?_)
     refine Kd.R_append_rows_step (Kd.int .i64) (w0 := w) w.heap.size (by rfl) (.tmp 27) (.tmp 29) 22 3 (.int .i64 0) 8 rfl Try.underlying22 info3 rfl (by decide) (by omega) v189 y188 l0_1 _ _ _ (fun k_ => some k_ ≠ (v186 : Value).ownBlock) (fun _ => False) rfl rfl ?aO ?aR (fun _ _ h => h) (fun _ h => h.elim) ?aF ?aB ?aS ?aL ?_
     (case aR => exact kc_ (Kd.C_below HR0_1.out HB.out))
     (case aB => exact bl_)
     (case aF => exact (fun k_ hk => Kd.fresh' (Kd.R_lt (kr_ HO187.out)) k_ hk))
     (case aO => exact (kr_ HO190.out))
     (case aS => exact bz_)
     (case aL => have := LMc25.out; omega)
     intro v192 w40 ho hb hg hat
     rw [← Ny191.out] at ho
     replace BK177 := bgr_ BK177 hg HO190 BK177
     replace BK178 := bgr_ BK178 hg HO190 BK178
     replace HO187 := Aside0.mk (Kd.R_after (ok := (fun _ => True)) (by exact kr_ (Kd.R_mono HO187.out (fun _ hk => ⟨trivial, hk⟩))) hg hat)
     replace BK194 := bgr_ BK194 hg HO190 BK194
     replace HB := Aside0.mk (hb)
     have HO193 := Aside0.mk (ho)
     clear HO190 ho hb hg hat
     obtain ⟨Ao41, co41, eo41⟩ := Kd.R_slice HO193.out
     (first | subst eo41 | (injection eo41 with f1_ f2_ f3_; have f4_ := f1_.symm; have f5_ := f3_.symm; clear f1_ f2_ f3_; subst f4_; subst f5_))
     obtain ⟨Ao42, co42, eo42⟩ := Kd.R_slice HO187.out
     (first | subst eo42 | (injection eo42 with f1_ f2_ f3_; have f4_ := f1_.symm; have f5_ := f3_.symm; clear f1_ f2_ f3_; subst f4_; subst f5_))
     refine hK.out _ _ ⟨bc_ BK177.out 0, bc_ BK177.out 1⟩ (fun hHeld => ?_)
     clear hK K
     refine norm_ nn_ ?_
     refine pu_ 8 (some 31) (h := ?_)
     exact norm_ nq_ (hJ0_3_4_7_9 (v183, .slice Ao42 y185.length co42, v189, .slice Ao41 y191.length co41, gb194) _ ⟨hHeld, kp_ HO187.out, kr_ HO193.out, kb_ BK177.out, kb_ BK178.out, kb_ BK194.out, GW194.out, GE194.out, NB177_194.out, NB194_177.out, NB178_194.out, NB194_178.out, bl_⟩)
   ·skip
    rintro ⟨v183, v186, v189, v192⟩ w41 ⟨hS_, h0_, h1_, h2_, h3_, h4_⟩
    dsimp only at h0_ h1_ h2_ h3_ h4_
    have HO187 := Aside0.mk h0_
    have HO193 := Aside0.mk h1_
    replace BK177 := Aside0.mk h2_
    replace BK178 := Aside0.mk h3_
    replace HB := Aside0.mk h4_
    clear h0_ h1_ h2_ h3_ h4_
    try dsimp only at hS_
    have hHeld := hS_
    obtain ⟨Ao42, co42, eo42⟩ := Kd.R_slice HO193.out
    (first | subst eo42 | (injection eo42 with f1_ f2_ f3_; have f4_ := f1_.symm; have f5_ := f3_.symm; clear f1_ f2_ f3_; subst f4_; subst f5_))
    obtain ⟨Ao43, co43, eo43⟩ := Kd.R_slice HO187.out
    (first | subst eo43 | (injection eo43 with f1_ f2_ f3_; have f4_ := f1_.symm; have f5_ := f3_.symm; clear f1_ f2_ f3_; subst f4_; subst f5_))
    refine norm_ np_ ?_
    refine on_ 9 (some 8) (h := fun K hK => ?_)
    refine box_step rfl (N := 8) rfl (cs := #[.slice none 0 0, .slice none 0 0]) (t := 27) gs_ ?_
    intro gb194 hg w44 hbox hb
    replace HO187 := rb_ HO187 hb
    replace HO193 := rb_ HO193 hb
    have BK194 := Aside0.mk (hbox)
    have GW194 := Aside0.mk ((by rw [hg]; exact bz_ : w.heap.size ≤ gb194))
    have GE194 := GW194
    replace HB := Aside0.mk (below_step bl_ hb)
    have NB177_194 := nl_ hg BK177
    have NB194_177 := nm_ hg BK177
    replace BK177 := bb_ BK177 hb
    have NB178_194 := nl_ hg BK178
    have NB194_178 := nm_ hg BK178
    replace BK178 := bb_ BK178 hb
    clear hb hbox hg
    refine hK.out _ _ ⟨bc_ BK177.out 0, bc_ BK177.out 1⟩ (fun hHeld => ?_)
    clear hK K
    refine norm_ nn_ ?_
    exact norm_ nq_ (hJ0_3_4_7_9 (v183, .slice Ao43 y185.length co43, v189, .slice Ao42 y191.length co42, gb194) _ ⟨hHeld, kr_ HO187.out, kr_ HO193.out, kb_ BK177.out, kb_ BK178.out, kb_ BK194.out, GW194.out, GE194.out, NB177_194.out, NB194_177.out, NB178_194.out, NB194_178.out, bl_⟩)
  rintro ⟨v183, v186, v189, v192, gb194⟩ w42 ⟨hS_, h0_, h1_, h2_, h3_, h4_, h5_, h6_, h7_, h8_, h9_, h10_, h11_⟩
  dsimp only at h0_ h1_ h2_ h3_ h4_ h5_ h6_ h7_ h8_ h9_ h10_ h11_
  have HO187 := Aside0.mk h0_
  have HO193 := Aside0.mk h1_
  replace BK177 := Aside0.mk h2_
  replace BK178 := Aside0.mk h3_
  have BK194 := Aside0.mk h4_
  have GW194 := Aside0.mk h5_
  have GE194 := Aside0.mk h6_
  have NB177_194 := Aside0.mk h7_
  have NB194_177 := Aside0.mk h8_
  have NB178_194 := Aside0.mk h9_
  have NB194_178 := Aside0.mk h10_
  replace HB := Aside0.mk h11_
  clear h0_ h1_ h2_ h3_ h4_ h5_ h6_ h7_ h8_ h9_ h10_ h11_
  try dsimp only at hS_
  have hHeld := hS_
  obtain ⟨Ao43, co43, eo43⟩ := Kd.R_slice HO193.out
  (first | subst eo43 | (injection eo43 with f1_ f2_ f3_; have f4_ := f1_.symm; have f5_ := f3_.symm; clear f1_ f2_ f3_; subst f4_; subst f5_))
  obtain ⟨Ao44, co44, eo44⟩ := Kd.R_slice HO187.out
  (first | subst eo44 | (injection eo44 with f1_ f2_ f3_; have f4_ := f1_.symm; have f5_ := f3_.symm; clear f1_ f2_ f3_; subst f4_; subst f5_))
  refine norm_ np_ ?_
  refine on_ 10 none (h := fun K hK => ?_)
  have hs45 : w42.cell? ⟨gb194, 0, none⟩ = some (.slice none 0 0) := bc_ BK194.out 0
  have hfs45 := blk_frozen BK194.out 0
  have hns45_0 := NB177_194.out
  have hns45_1 := NB178_194.out
  have hms45_0 := NB194_177.out
  have hms45_1 := NB194_178.out
  have hs46 : w42.cell? ⟨gb194, 1, none⟩ = some (.slice none 0 0) := bc_ BK194.out 1
  have hfs46 := blk_frozen BK194.out 1
  have hns46_0 := NB177_194.out
  have hns46_1 := NB178_194.out
  have hms46_0 := NB194_177.out
  have hms46_1 := NB194_178.out
  refine skip_ (w1 := ?_) (by rfl) rfl ?_ ?_
  rotate_left
  ·go_simp
   rfl
  refine hK.out _ _ ⟨((cell_far (p := ⟨gb194, _, none⟩) NB177_194.out _).trans (((cell_far (p := ⟨gb194, _, none⟩) NB177_194.out _).trans (hHeld.1)))), ((cell_far (p := ⟨gb194, _, none⟩) NB177_194.out _).trans (((cell_far (p := ⟨gb194, _, none⟩) NB177_194.out _).trans (hHeld.2))))⟩ (fun hHeld => ?_)
  clear hK K
  refine done_ (done_of HT_.out (by kernel_rfl)) ?_
  have n0_ : Aside0 (Kd.R (Kd.int .i64) 3 ((w42.setCell ⟨gb194, 0, none⟩ (.slice Ao44 y185.length co44)).setCell ⟨gb194, 1, none⟩ (.slice Ao43 y191.length co43)) w.heap.size (fun k_ => some k_ ≠ (.slice Ao43 y191.length co43 : Value).ownBlock) (.slice Ao44 y185.length co44) y185) := ⟨by exact kr_ (Kd.R_mono (Kd.R_far (p := ⟨gb194, 1, none⟩) (Kd.R_far (p := ⟨gb194, 0, none⟩) (Kd.R_types HO187.out BK194.out (by decide)) (fun _ hk => hk.2) (.slice Ao44 y185.length co44)) (fun _ hk => hk.2) (.slice Ao43 y191.length co43)) (fun _ hk => hk.1))⟩
  have n1_ : Aside0 (Kd.R (Kd.int .i64) 3 ((w42.setCell ⟨gb194, 0, none⟩ (.slice Ao44 y185.length co44)).setCell ⟨gb194, 1, none⟩ (.slice Ao43 y191.length co43)) w.heap.size (fun k_ => some k_ ≠ (.slice Ao44 y185.length co44 : Value).ownBlock) (.slice Ao43 y191.length co43) y191) := ⟨by exact kr_ (Kd.R_mono (Kd.R_far (p := ⟨gb194, 1, none⟩) (Kd.R_far (p := ⟨gb194, 0, none⟩) (Kd.R_types HO193.out BK194.out (by decide)) (fun _ hk => hk.2) (.slice Ao44 y185.length co44)) (fun _ hk => hk.2) (.slice Ao43 y191.length co43)) (fun _ hk => hk.1))⟩
  have n2_ : Aside0 (((w42.setCell ⟨gb194, 0, none⟩ (.slice Ao44 y185.length co44)).setCell ⟨gb194, 1, none⟩ (.slice Ao43 y191.length co43)).heap[gb177]? = some (.cells #[.slice A0_0 l0_0.length c0_0, .slice A0_1 l0_1.length c0_1] 27 (0, 0))) := ⟨kz_⟩
  have n3_ : Aside0 (((w42.setCell ⟨gb194, 0, none⟩ (.slice Ao44 y185.length co44)).setCell ⟨gb194, 1, none⟩ (.slice Ao43 y191.length co43)).heap[gb178]? = some (.cells #[.slice none 0 0, .slice none 0 0] 27 (0, 0))) := ⟨kz_⟩
  have n4_ : Aside0 (((w42.setCell ⟨gb194, 0, none⟩ (.slice Ao44 y185.length co44)).setCell ⟨gb194, 1, none⟩ (.slice Ao43 y191.length co43)).heap[gb194]? = some (.cells #[.slice Ao44 y185.length co44, .slice Ao43 y191.length co43] 27 (0, 0))) := ⟨by (with_reducible repeat (first | refine blk_drewN ?_ _ | refine blk_drew ?_ | refine blk_alloc ?_ _)); refine blk_put (cs := #[.slice Ao44 y185.length co44, .slice none 0 0]) ?_ 1 _ rfl; (with_reducible repeat (first | refine blk_drewN ?_ _ | refine blk_drew ?_ | refine blk_alloc ?_ _)); refine blk_put (cs := #[.slice none 0 0, .slice none 0 0]) ?_ 0 _ rfl; exact kb_ BK194.out⟩
  have n5_ : Aside0 (Below w.heap.size w ((w42.setCell ⟨gb194, 0, none⟩ (.slice Ao44 y185.length co44)).setCell ⟨gb194, 1, none⟩ (.slice Ao43 y191.length co43))) := ⟨bl_⟩
  (try clear HO187)
  (try clear HO193)
  (try clear BK177)
  (try clear BK178)
  (try clear BK194)
  (try clear HB)
  generalize ((w42.setCell ⟨gb194, 0, none⟩ (.slice Ao44 y185.length co44)).setCell ⟨gb194, 1, none⟩ (.slice Ao43 y191.length co43)) = w47 at n0_ n1_ n2_ n3_ n4_ n5_ ⊢
  have HO187 := n0_
  have HO193 := n1_
  have BK177 := n2_
  have BK178 := n3_
  have BK194 := n4_
  have HB := n5_
  clear n0_ n1_ n2_ n3_ n4_ n5_
  have hnb48 := NB194_177.out
  have hnc48 := NB177_194.out
  have hnb49 := NB194_178.out
  have hnc49 := NB178_194.out
  have hcz50_0 : w47.cell? ⟨gb194, 0, none⟩ = some (.slice Ao44 y185.length co44) := bc_ BK194.out 0
  have hcz50_1 : w47.cell? ⟨gb194, 1, none⟩ = some (.slice Ao43 y191.length co43) := bc_ BK194.out 1
  have hfz50_0 := blk_frozen BK194.out 0
  have hfz50_1 := blk_frozen BK194.out 1
  have p195 : 0 ≤ (a1 : Int) := of_decide_eq_true (by first | (with_reducible assumption) | assumption)
  have q195 : a1 < (y185.length : Int) := of_decide_eq_true (by first | (with_reducible assumption) | assumption)
  obtain ⟨ad195, e195, hx195_0⟩ := Kd.at_int (Kd.R_reads' HO187.out).2.2 a1 p195 q195
  cases e195
  replace p195 := eq_true p195
  replace q195 := eq_true q195
  have p29 : 0 ≤ (a1 : Int) := of_decide_eq_true (by first | (with_reducible assumption) | assumption)
  have q29 : (a1 : Int) < ((y185.length : Int) : Int) := of_decide_eq_true (by first | (with_reducible assumption) | assumption)
  obtain ⟨go29, co29, eo29, gb29, gl29, cl29, HG29⟩ := Kd.R_form HO187.out (by omega)
  (first | cases eo29 | (injection eo29 with ea_ en_ ec_; (first | subst ea_ | (injection ea_ with ea_; subst ea_)); subst ec_; clear en_))
  have GB29 := Aside0.mk gb29
  have GG29 := Aside0.mk HG29
  clear gb29 gl29 HG29
  (first | simp only [add_plain] at hx195_0 | skip)
  obtain ⟨hx29_0, hf29_0⟩ := Kd.R_celln 0 HO187.out (a1 : Int) p29 q29
  replace p29 := eq_true p29
  replace q29 := eq_true q29
  obtain ⟨hy51_, hz51_⟩ := Kd.R_celln 0 HO187.out (a1 : Int) (of_decide_eq_true (by first | (with_reducible assumption) | assumption)) (of_decide_eq_true (by first | (with_reducible assumption) | assumption))
  have HP51 := Kd.R_putg HO187.out (a1 : Int) (wrap64 ((rd y185 a1) + a2))
  try go_wp2_with (first | ((with_reducible refine gate_store (t := 3) (p := 41) rfl ?_); refine store_event (t := 3) (p := 41) (v := ?vo_w52) (w1 := (w47.setCell ⟨go29, (a1 : Int).toNat, none⟩ (.int .i64 (wrap64 ((rd y185 a1) + a2))))) ?hg ?ho ?hn ?hr ?_; (case ho => rfl); (case hg => rfl); (case hn => rfl); (case hr => first | (go_simp; done) | (go_simp; rfl)); intro w52 hw; have hg : w47.grownBy w52 (some go29) := (by rw [hw]; exact HP51.2); have hp_ : Kd.R (Kd.int .i64) 3 w52 w.heap.size (fun k_ => some k_ ≠ (.slice Ao43 y191.length co43 : Value).ownBlock) (.slice (some ⟨go29, 0, none⟩) y185.length co44) y196 := (by rw [hw, Ny196.out]; exact HP51.1); clear HP51; replace BK177 := bgr_ BK177 hg HO187 BK177; replace BK178 := bgr_ BK178 hg HO187 BK178; replace HO193 := Aside0.mk (Kd.R_after (v := (.slice (some ⟨go29, 0, none⟩) y185.length co44)) (v1 := (.slice (some ⟨go29, 0, none⟩) y185.length co44)) (ok := (fun _ => True)) (by exact kr_ (Kd.R_mono HO193.out (fun _ hk => ⟨trivial, hk⟩))) hg (.inl rfl)); replace BK194 := bgr_ BK194 hg HO187 BK194; replace HO187 := Aside0.mk (hp_); replace HB := Aside0.mk ((by rw [hw]; exact below_set (HB.out) GB29.out : Below w.heap.size w w52)); clear hg hw hp_; have hcz53_0 : w52.cell? ⟨gb194, 0, none⟩ = some (.slice (some ⟨go29, 0, none⟩) y185.length co44) := bc_ BK194.out 0; have hcz53_1 : w52.cell? ⟨gb194, 1, none⟩ = some (.slice Ao43 y191.length co43) := bc_ BK194.out 1; have hfz53_0 := blk_frozen BK194.out 0; have hfz53_1 := blk_frozen BK194.out 1) | ((with_reducible refine gate_callee (f := 35) rfl ?_); refine goesL_ (some 51) rfl rfl Try.func35 (by kernel_rfl) rfl #[.agg #[.slice (some ⟨go29, 0, none⟩) y196.length co44, .slice Ao43 y191.length co43]] rfl (by (try simp only [List.map_toArray, List.map_cons, List.map_nil]); first | done | (rw [show y196.length = y185.length from (Kd.R_reads' HO187.out).1.symm] <;> rfl) | rfl | (simp only [List.length_drop, List.length_take]; rfl)) ?_; (with_reducible refine (impl_isCounter.calls _ _ y196 _ _ y191 true _ ?side1 ?side2 ?side3 ?side4 A30.out).mono ?_); (case side1 => exact kc_ (Kd.R_reads' HO187.out).2.2); (case side2 => rw [show y196.length = y185.length from (Kd.R_reads' HO187.out).1.symm]; exact (Kd.R_reads' HO187.out).2.1); (case side3 => exact kc_ (Kd.R_reads' HO193.out).2.2); (case side4 => exact (Kd.R_reads' HO193.out).2.1); rintro e w54 ⟨rfl, hb⟩; refine ⟨_, rfl, ?_⟩; replace HO187 := rb_ HO187 hb; replace HO193 := rb_ HO193 hb; replace BK177 := bb_ BK177 hb; replace BK178 := bb_ BK178 hb; replace BK194 := bb_ BK194 hb; replace HB := Aside0.mk (below_step bl_ hb); clear hb; have hcz55_0 : w54.cell? ⟨gb194, 0, none⟩ = some (.slice (some ⟨go29, 0, none⟩) y185.length co44) := bc_ BK194.out 0; have hcz55_1 : w54.cell? ⟨gb194, 1, none⟩ = some (.slice Ao43 y191.length co43) := bc_ BK194.out 1; have hfz55_0 := blk_frozen BK194.out 0; have hfz55_1 := blk_frozen BK194.out 1; have hnb56 := NB178_177.out; have hnc56 := NB177_178.out; have hcz57_0 : w54.cell? ⟨gb178, 0, none⟩ = some (.slice none 0 0) := bc_ BK178.out 0; have hcz57_1 : w54.cell? ⟨gb178, 1, none⟩ = some (.slice none 0 0) := bc_ BK178.out 1; have hfz57_0 := blk_frozen BK178.out 0; have hfz57_1 := blk_frozen BK178.out 1))
  refine bodyPost_ret (results_ct rfl _ _ gb178 27 #[.slice (some ⟨go29, 0, none⟩) y185.length co44, .slice Ao43 y191.length co43] (0, 0) _ rfl (by (with_reducible repeat (first | refine blk_drewN ?_ _ | refine blk_drew ?_ | refine blk_alloc ?_ _)); refine blk_put (cs := #[.slice (some ⟨go29, 0, none⟩) y185.length co44, .slice none 0 0]) ?_ 1 _ rfl; (with_reducible repeat (first | refine blk_drewN ?_ _ | refine blk_drew ?_ | refine blk_alloc ?_ _)); refine blk_put (cs := #[.slice none 0 0, .slice none 0 0]) ?_ 0 _ rfl; exact kb_ BK178.out) Try.underlying27 rfl (by kernel_rfl)) rfl ?_
  exact ⟨_, _, ng_, by exact kr_ (Kd.R_mono (Kd.R_far (p := ⟨gb178, 1, none⟩) (Kd.R_far (p := ⟨gb178, 0, none⟩) (Kd.R_types HO187.out BK178.out (by decide)) (fun _ hk => hk.2) (.slice (some ⟨go29, 0, none⟩) y185.length co44)) (fun _ hk => hk.2) (.slice Ao43 y191.length co43)) (fun _ hk => hk.1)), by exact kr_ (Kd.R_mono (Kd.R_far (p := ⟨gb178, 1, none⟩) (Kd.R_far (p := ⟨gb178, 0, none⟩) (Kd.R_types HO193.out BK178.out (by decide)) (fun _ hk => hk.2) (.slice (some ⟨go29, 0, none⟩) y185.length co44)) (fun _ hk => hk.2) (.slice Ao43 y191.length co43)) (fun _ hk => hk.1.2)), bl_⟩
 rw [if_neg c26] at H
 have c26b0 : decide (0 < a2) = false := decide_eq_false c26
 clear c26
 by_cases c83 : 0 ≤ a1
 rotate_left
 ·rw [if_neg c83] at H
  exact absurd H (by simp)
 rw [if_pos c83] at H
 have c83b0 : decide (0 ≤ a1) = true := decide_eq_true c83
 clear c83
 by_cases c84 : a1 < (y191.length : Int)
 rotate_left
 ·rw [if_neg c84] at H
  exact absurd H (by simp)
 rw [if_pos c84] at H
 have c84b0 : decide (a1 < (y191.length : Int)) = true := decide_eq_true c84
 clear c84
 obtain ⟨y199, hy199⟩ : ∃ y_ : List Int, y_ = (y191.set (a1 : Int).toNat (wrap64 ((rd y191 a1) - a2))) := ⟨_, rfl⟩
 replace H : ((impl_isCounter.f y185 y199).bind fun t200 => (if t200 = true then (some (y185, y199, true)) else (some (([] : List Int), ([] : List Int), false)))) = some (r1, r2, r3) := by first | (rw [hy199]; with_reducible exact H) | (have H2_ := (Option.bind_some _ _).symm.trans H; rw [hy199]; with_reducible exact H2_) | (have H2_ := (Option.bind_some _ _).symm.trans H; with_reducible exact H2_) | with_reducible exact H | (rw [hy199]; exact H) | exact H
 have Ny199 := Aside0.mk hy199
 clear hy199
 replace H := Option.bind_eq_some_iff.mp H
 obtain ⟨t200, A860, H⟩ := H
 replace H : (if t200 = true then (some (y185, y199, true)) else (some (([] : List Int), ([] : List Int), false))) = some (r1, r2, r3) := H
 have A86 := Aside0.mk A860
 clear A860
 by_cases c87 : t200 = true
 rotate_left
 ·replace c87 := Bool.eq_false_iff.mpr c87
  subst c87
  have H1 : (some (([] : List Int), ([] : List Int), false)) = some (r1, r2, r3) := by rw [if_neg (show ¬ (false = true) by decide)] at H; exact H
  clear H
  have H := H1
  clear H1
  simp only [Option.some.injEq, Prod.mk.injEq] at H
  obtain ⟨rfl, rfl, rfl⟩ := H
  try go_wp2
  replace BK177 := Aside0.mk (blk_drew BK177.out)
  replace BK178 := Aside0.mk (blk_drew BK178.out)
  replace HB := Aside0.mk (below_drew1 HB.out)
  refine start_ (n := 11) (S := fun w' => w'.cell? ⟨gb177, 0, none⟩ = some (.slice A0_0 l0_0.length c0_0) ∧ w'.cell? ⟨gb177, 1, none⟩ = some (.slice A0_1 l0_1.length c0_1)) (ds := []) #[false, false, false, false, false, false, false, false, false, false, false] (by kernel_rfl) rfl rfl ⟨bc_ BK177.out 0, bc_ BK177.out 1⟩ (fun hHeld => ?_); refine with_tabW impl_CountBy.tab3 impl_CountBy.bits3 (fun HT_ HW_ => ?_)
  generalize wc.drew = w114 at BK177 BK178 HB hHeld ⊢
  refine pu_ 1 (some 24) (h := ?_)
  refine pu_ 5 (some 28) (h := ?_)
  refine tk2_ 2 (some 25) (h := ?_)
  refine tk2_ 6 (some 29) (h := ?_)
  refine join_ (σ := Value × Value × Value × Value × Nat) 1 #[true, true, true, true, true, true, true, true, true, true, false] (fun s_ => [(23, s_.1), (26, s_.2.1), (27, s_.2.2.1), (30, s_.2.2.2.1), (8, .pointer (some ⟨s_.2.2.2.2, 0, none⟩)), (31, .agg #[s_.2.1, s_.2.2.2.1])]) (fun s_ w' => (w'.cell? ⟨gb177, 0, none⟩ = some (.slice A0_0 l0_0.length c0_0) ∧ w'.cell? ⟨gb177, 1, none⟩ = some (.slice A0_1 l0_1.length c0_1)) ∧ (Kd.R (Kd.int .i64) 3 w' w.heap.size (fun k_ => some k_ ≠ (s_.2.2.2.1 : Value).ownBlock) s_.2.1 y185) ∧ (Kd.R (Kd.int .i64) 3 w' w.heap.size (fun k_ => some k_ ≠ (s_.2.1 : Value).ownBlock) s_.2.2.2.1 y191) ∧ (w'.heap[gb177]? = some (.cells #[.slice A0_0 l0_0.length c0_0, .slice A0_1 l0_1.length c0_1] 27 (0, 0))) ∧ (w'.heap[gb178]? = some (.cells #[.slice none 0 0, .slice none 0 0] 27 (0, 0))) ∧ (w'.heap[s_.2.2.2.2]? = some (.cells #[.slice none 0 0, .slice none 0 0] 27 (0, 0))) ∧ (w.heap.size ≤ s_.2.2.2.2) ∧ (w.heap.size ≤ s_.2.2.2.2) ∧ (gb177 ≠ s_.2.2.2.2) ∧ (s_.2.2.2.2 ≠ gb177) ∧ (gb178 ≠ s_.2.2.2.2) ∧ (s_.2.2.2.2 ≠ gb178) ∧ (Below w.heap.size w w')) ?_ ?_
  rotate_left
  ·intro hJ0_3_4_7_9
   refine join_ (σ := Value × Value × Value × Value) 2 #[true, true, true, true, true, true, true, true, true, false, false] (fun s_ => [(23, s_.1), (26, s_.2.1), (27, s_.2.2.1), (30, s_.2.2.2), (31, .agg #[s_.2.1, s_.2.2.2])]) (fun s_ w' => (w'.cell? ⟨gb177, 0, none⟩ = some (.slice A0_0 l0_0.length c0_0) ∧ w'.cell? ⟨gb177, 1, none⟩ = some (.slice A0_1 l0_1.length c0_1)) ∧ (Kd.R (Kd.int .i64) 3 w' w.heap.size (fun k_ => some k_ ≠ (s_.2.2.2 : Value).ownBlock) s_.2.1 y185) ∧ (Kd.R (Kd.int .i64) 3 w' w.heap.size (fun k_ => some k_ ≠ (s_.2.1 : Value).ownBlock) s_.2.2.2 y191) ∧ (w'.heap[gb177]? = some (.cells #[.slice A0_0 l0_0.length c0_0, .slice A0_1 l0_1.length c0_1] 27 (0, 0))) ∧ (w'.heap[gb178]? = some (.cells #[.slice none 0 0, .slice none 0 0] 27 (0, 0))) ∧ (Below w.heap.size w w')) ?_ ?_
   rotate_left
   ·intro hJ0_3_4_7
    refine join_ (σ := Value × Value × Value × Nat) 3 #[true, true, true, true, true, true, true, false, false, true, false] (fun s_ => [(23, s_.1), (26, s_.2.1), (27, s_.2.2.1), (8, .pointer (some ⟨s_.2.2.2, 0, none⟩))]) (fun s_ w' => (w'.cell? ⟨gb177, 0, none⟩ = some (.slice A0_0 l0_0.length c0_0) ∧ w'.cell? ⟨gb177, 1, none⟩ = some (.slice A0_1 l0_1.length c0_1)) ∧ (Kd.R (Kd.int .i64) 3 w' w.heap.size (fun k_ => some k_ ≠ (s_.2.2.1 : Value).ownBlock) s_.2.1 y185) ∧ (Kd.R (Kd.int .i64) 3 w' w.heap.size (fun k_ => some k_ ≠ (s_.2.1 : Value).ownBlock) s_.2.2.1 y188) ∧ (w'.heap[gb177]? = some (.cells #[.slice A0_0 l0_0.length c0_0, .slice A0_1 l0_1.length c0_1] 27 (0, 0))) ∧ (w'.heap[gb178]? = some (.cells #[.slice none 0 0, .slice none 0 0] 27 (0, 0))) ∧ (w'.heap[s_.2.2.2]? = some (.cells #[.slice none 0 0, .slice none 0 0] 27 (0, 0))) ∧ (w.heap.size ≤ s_.2.2.2) ∧ (w.heap.size ≤ s_.2.2.2) ∧ (gb177 ≠ s_.2.2.2) ∧ (s_.2.2.2 ≠ gb177) ∧ (gb178 ≠ s_.2.2.2) ∧ (s_.2.2.2 ≠ gb178) ∧ (Below w.heap.size w w')) ?_ ?_
    rotate_left
    ·intro hJ0_3_4_9
     refine join_ (σ := Value × Value × Value) 4 #[true, true, true, true, true, true, true, false, false, false, false] (fun s_ => [(23, s_.1), (26, s_.2.1), (27, s_.2.2)]) (fun s_ w' => (w'.cell? ⟨gb177, 0, none⟩ = some (.slice A0_0 l0_0.length c0_0) ∧ w'.cell? ⟨gb177, 1, none⟩ = some (.slice A0_1 l0_1.length c0_1)) ∧ (Kd.R (Kd.int .i64) 3 w' w.heap.size (fun k_ => some k_ ≠ (s_.2.2 : Value).ownBlock) s_.2.1 y185) ∧ (Kd.R (Kd.int .i64) 3 w' w.heap.size (fun k_ => some k_ ≠ (s_.2.1 : Value).ownBlock) s_.2.2 y188) ∧ (w'.heap[gb177]? = some (.cells #[.slice A0_0 l0_0.length c0_0, .slice A0_1 l0_1.length c0_1] 27 (0, 0))) ∧ (w'.heap[gb178]? = some (.cells #[.slice none 0 0, .slice none 0 0] 27 (0, 0))) ∧ (Below w.heap.size w w')) ?_ ?_
     rotate_left
     ·intro hJ0_3_4
      refine join_ (σ := Value × Value × Nat) 4 #[true, true, true, true, false, true, true, false, false, true, false] (fun s_ => [(23, s_.1), (26, s_.2.1), (8, .pointer (some ⟨s_.2.2, 0, none⟩))]) (fun s_ w' => (w'.cell? ⟨gb177, 0, none⟩ = some (.slice A0_0 l0_0.length c0_0) ∧ w'.cell? ⟨gb177, 1, none⟩ = some (.slice A0_1 l0_1.length c0_1)) ∧ (Kd.R (Kd.int .i64) 3 w' w.heap.size (fun _ => True) s_.2.1 y185) ∧ (w'.heap[gb177]? = some (.cells #[.slice A0_0 l0_0.length c0_0, .slice A0_1 l0_1.length c0_1] 27 (0, 0))) ∧ (w'.heap[gb178]? = some (.cells #[.slice none 0 0, .slice none 0 0] 27 (0, 0))) ∧ (w'.heap[s_.2.2]? = some (.cells #[.slice none 0 0, .slice none 0 0] 27 (0, 0))) ∧ (w.heap.size ≤ s_.2.2) ∧ (w.heap.size ≤ s_.2.2) ∧ (gb177 ≠ s_.2.2) ∧ (s_.2.2 ≠ gb177) ∧ (gb178 ≠ s_.2.2) ∧ (s_.2.2 ≠ gb178) ∧ (Below w.heap.size w w')) ?_ ?_
      rotate_left
      ·intro hJ0_3_9
       refine join_ (σ := Value × Value × Nat) 4 #[true, true, true, false, true, true, true, false, false, true, false] (fun s_ => [(23, s_.1), (27, s_.2.1), (8, .pointer (some ⟨s_.2.2, 0, none⟩))]) (fun s_ w' => (w'.cell? ⟨gb177, 0, none⟩ = some (.slice A0_0 l0_0.length c0_0) ∧ w'.cell? ⟨gb177, 1, none⟩ = some (.slice A0_1 l0_1.length c0_1)) ∧ (Kd.R (Kd.int .i64) 3 w' w.heap.size (fun k_ => some k_ ≠ (s_.2.1 : Value).ownBlock) s_.1 y182) ∧ (Kd.R (Kd.int .i64) 3 w' w.heap.size (fun k_ => some k_ ≠ (s_.1 : Value).ownBlock) s_.2.1 y188) ∧ (w'.heap[gb177]? = some (.cells #[.slice A0_0 l0_0.length c0_0, .slice A0_1 l0_1.length c0_1] 27 (0, 0))) ∧ (w'.heap[gb178]? = some (.cells #[.slice none 0 0, .slice none 0 0] 27 (0, 0))) ∧ (w'.heap[s_.2.2]? = some (.cells #[.slice none 0 0, .slice none 0 0] 27 (0, 0))) ∧ (w.heap.size ≤ s_.2.2) ∧ (w.heap.size ≤ s_.2.2) ∧ (gb177 ≠ s_.2.2) ∧ (s_.2.2 ≠ gb177) ∧ (gb178 ≠ s_.2.2) ∧ (s_.2.2 ≠ gb178) ∧ (Below w.heap.size w w')) ?_ ?_
       rotate_left
       ·intro hJ0_4_9
        refine join_ (σ := Value × Value) 5 #[true, true, true, true, false, true, true, false, false, false, false] (fun s_ => [(23, s_.1), (26, s_.2)]) (fun s_ w' => (w'.cell? ⟨gb177, 0, none⟩ = some (.slice A0_0 l0_0.length c0_0) ∧ w'.cell? ⟨gb177, 1, none⟩ = some (.slice A0_1 l0_1.length c0_1)) ∧ (Kd.R (Kd.int .i64) 3 w' w.heap.size (fun _ => True) s_.2 y185) ∧ (w'.heap[gb177]? = some (.cells #[.slice A0_0 l0_0.length c0_0, .slice A0_1 l0_1.length c0_1] 27 (0, 0))) ∧ (w'.heap[gb178]? = some (.cells #[.slice none 0 0, .slice none 0 0] 27 (0, 0))) ∧ (Below w.heap.size w w')) ?_ ?_
        rotate_left
        ·intro hJ0_3
         refine join_ (σ := Value × Value) 5 #[true, true, true, false, true, true, true, false, false, false, false] (fun s_ => [(23, s_.1), (27, s_.2)]) (fun s_ w' => (w'.cell? ⟨gb177, 0, none⟩ = some (.slice A0_0 l0_0.length c0_0) ∧ w'.cell? ⟨gb177, 1, none⟩ = some (.slice A0_1 l0_1.length c0_1)) ∧ (Kd.R (Kd.int .i64) 3 w' w.heap.size (fun k_ => some k_ ≠ (s_.2 : Value).ownBlock) s_.1 y182) ∧ (Kd.R (Kd.int .i64) 3 w' w.heap.size (fun k_ => some k_ ≠ (s_.1 : Value).ownBlock) s_.2 y188) ∧ (w'.heap[gb177]? = some (.cells #[.slice A0_0 l0_0.length c0_0, .slice A0_1 l0_1.length c0_1] 27 (0, 0))) ∧ (w'.heap[gb178]? = some (.cells #[.slice none 0 0, .slice none 0 0] 27 (0, 0))) ∧ (Below w.heap.size w w')) ?_ ?_
         rotate_left
         ·intro hJ0_4
          refine join_ (σ := Value × Nat) 5 #[true, true, true, false, false, true, true, false, false, true, false] (fun s_ => [(23, s_.1), (8, .pointer (some ⟨s_.2, 0, none⟩))]) (fun s_ w' => (w'.cell? ⟨gb177, 0, none⟩ = some (.slice A0_0 l0_0.length c0_0) ∧ w'.cell? ⟨gb177, 1, none⟩ = some (.slice A0_1 l0_1.length c0_1)) ∧ (Kd.R (Kd.int .i64) 3 w' w.heap.size (fun _ => True) s_.1 y182) ∧ (w'.heap[gb177]? = some (.cells #[.slice A0_0 l0_0.length c0_0, .slice A0_1 l0_1.length c0_1] 27 (0, 0))) ∧ (w'.heap[gb178]? = some (.cells #[.slice none 0 0, .slice none 0 0] 27 (0, 0))) ∧ (w'.heap[s_.2]? = some (.cells #[.slice none 0 0, .slice none 0 0] 27 (0, 0))) ∧ (w.heap.size ≤ s_.2) ∧ (w.heap.size ≤ s_.2) ∧ (gb177 ≠ s_.2) ∧ (s_.2 ≠ gb177) ∧ (gb178 ≠ s_.2) ∧ (s_.2 ≠ gb178) ∧ (Below w.heap.size w w')) ?_ ?_
          rotate_left
          ·intro hJ0_9
           refine join_ (σ := Value × Nat) 5 #[false, true, true, false, true, true, true, false, false, true, false] (fun s_ => [(27, s_.1), (8, .pointer (some ⟨s_.2, 0, none⟩))]) (fun s_ w' => (w'.cell? ⟨gb177, 0, none⟩ = some (.slice A0_0 l0_0.length c0_0) ∧ w'.cell? ⟨gb177, 1, none⟩ = some (.slice A0_1 l0_1.length c0_1)) ∧ (Kd.R (Kd.int .i64) 3 w' w.heap.size (fun _ => True) s_.1 y188) ∧ (w'.heap[gb177]? = some (.cells #[.slice A0_0 l0_0.length c0_0, .slice A0_1 l0_1.length c0_1] 27 (0, 0))) ∧ (w'.heap[gb178]? = some (.cells #[.slice none 0 0, .slice none 0 0] 27 (0, 0))) ∧ (w'.heap[s_.2]? = some (.cells #[.slice none 0 0, .slice none 0 0] 27 (0, 0))) ∧ (w.heap.size ≤ s_.2) ∧ (w.heap.size ≤ s_.2) ∧ (gb177 ≠ s_.2) ∧ (s_.2 ≠ gb177) ∧ (gb178 ≠ s_.2) ∧ (s_.2 ≠ gb178) ∧ (Below w.heap.size w w')) ?_ ?_
           rotate_left
           ·intro hJ4_9
            refine join_ (σ := Value) 6 #[true, true, true, false, false, true, true, false, false, false, false] (fun s_ => [(23, s_)]) (fun s_ w' => (w'.cell? ⟨gb177, 0, none⟩ = some (.slice A0_0 l0_0.length c0_0) ∧ w'.cell? ⟨gb177, 1, none⟩ = some (.slice A0_1 l0_1.length c0_1)) ∧ (Kd.R (Kd.int .i64) 3 w' w.heap.size (fun _ => True) s_ y182) ∧ (w'.heap[gb177]? = some (.cells #[.slice A0_0 l0_0.length c0_0, .slice A0_1 l0_1.length c0_1] 27 (0, 0))) ∧ (w'.heap[gb178]? = some (.cells #[.slice none 0 0, .slice none 0 0] 27 (0, 0))) ∧ (Below w.heap.size w w')) ?_ ?_
            rotate_left
            ·intro hJ0
             refine join_ (σ := Value) 6 #[false, true, true, false, true, true, true, false, false, false, false] (fun s_ => [(27, s_)]) (fun s_ w' => (w'.cell? ⟨gb177, 0, none⟩ = some (.slice A0_0 l0_0.length c0_0) ∧ w'.cell? ⟨gb177, 1, none⟩ = some (.slice A0_1 l0_1.length c0_1)) ∧ (Kd.R (Kd.int .i64) 3 w' w.heap.size (fun _ => True) s_ y188) ∧ (w'.heap[gb177]? = some (.cells #[.slice A0_0 l0_0.length c0_0, .slice A0_1 l0_1.length c0_1] 27 (0, 0))) ∧ (w'.heap[gb178]? = some (.cells #[.slice none 0 0, .slice none 0 0] 27 (0, 0))) ∧ (Below w.heap.size w w')) ?_ ?_
             rotate_left
             ·intro hJ4
              refine join_ (σ := Nat) 6 #[false, true, true, false, false, true, true, false, false, true, false] (fun s_ => [(8, .pointer (some ⟨s_, 0, none⟩))]) (fun s_ w' => (w'.cell? ⟨gb177, 0, none⟩ = some (.slice A0_0 l0_0.length c0_0) ∧ w'.cell? ⟨gb177, 1, none⟩ = some (.slice A0_1 l0_1.length c0_1)) ∧ (w'.heap[gb177]? = some (.cells #[.slice A0_0 l0_0.length c0_0, .slice A0_1 l0_1.length c0_1] 27 (0, 0))) ∧ (w'.heap[gb178]? = some (.cells #[.slice none 0 0, .slice none 0 0] 27 (0, 0))) ∧ (w'.heap[s_]? = some (.cells #[.slice none 0 0, .slice none 0 0] 27 (0, 0))) ∧ (w.heap.size ≤ s_) ∧ (w.heap.size ≤ s_) ∧ (gb177 ≠ s_) ∧ (s_ ≠ gb177) ∧ (gb178 ≠ s_) ∧ (s_ ≠ gb178) ∧ (Below w.heap.size w w')) ?_ ?_
              rotate_left
              ·intro hJ9
               refine th_ 0 4 9 (some 23) (some 27) (some 8) (h1 := fun K hK => ?_) (h2 := fun K hK => ?_) (h3 := fun K hK => ?_)
               ·skip
                refine Kd.R_lit_step (Kd.int .i64) _ 3 rfl (N := 23) rfl (xs := ([] : List Int)) (inner := []) (ok := fun _ => True) (okp := fun _ => True) gs_ ?hp (fun _ hk => hk) trivial (Below.refl _ _) (Nat.le_refl _) (by simp) ?_; (case hp => exact (Reps.none _ _))
                intro v183 w115 ho116 hb hg_ hnew_
                clear hg_ hnew_
                (first | rw [← Ny182.out] at ho116 | (simp only [Int.reduceToNat] at ho116; rw [← Ny182.out] at ho116))
                have HO184 := Aside0.mk (Kd.R_lower ho116 bz_)
                replace BK177 := bb_ BK177 hb
                replace BK178 := bb_ BK178 hb
                replace HB := Aside0.mk (below_step bl_ hb)
                clear hb ho116
                refine hK.out _ _ ⟨bc_ BK177.out 0, bc_ BK177.out 1⟩ (fun hHeld => ?_)
                clear hK K
                refine norm_ nn_ ?_
                exact norm_ nq_ (hJ0 (v183) _ ⟨hHeld, kr_ HO184.out, kb_ BK177.out, kb_ BK178.out, bl_⟩)
               ·skip
                refine Kd.R_lit_step (Kd.int .i64) _ 3 rfl (N := 27) rfl (xs := ([] : List Int)) (inner := []) (ok := fun _ => True) (okp := fun _ => True) gs_ ?hp (fun _ hk => hk) trivial (Below.refl _ _) (Nat.le_refl _) (by simp) ?_; (case hp => exact (Reps.none _ _))
                intro v189 w115 ho116 hb hg_ hnew_
                clear hg_ hnew_
                (first | rw [← Ny188.out] at ho116 | (simp only [Int.reduceToNat] at ho116; rw [← Ny188.out] at ho116))
                have HO190 := Aside0.mk (Kd.R_lower ho116 bz_)
                replace BK177 := bb_ BK177 hb
                replace BK178 := bb_ BK178 hb
                replace HB := Aside0.mk (below_step bl_ hb)
                clear hb ho116
                refine hK.out _ _ ⟨bc_ BK177.out 0, bc_ BK177.out 1⟩ (fun hHeld => ?_)
                clear hK K
                refine norm_ nn_ ?_
                exact norm_ nq_ (hJ4 (v189) _ ⟨hHeld, kr_ HO190.out, kb_ BK177.out, kb_ BK178.out, bl_⟩)
               ·skip
                refine box_step rfl (N := 8) rfl (cs := #[.slice none 0 0, .slice none 0 0]) (t := 27) gs_ ?_
                intro gb194 hg w115 hbox hb
                have BK194 := Aside0.mk (hbox)
                have GW194 := Aside0.mk ((by rw [hg]; exact bz_ : w.heap.size ≤ gb194))
                have GE194 := GW194
                replace HB := Aside0.mk (below_step bl_ hb)
                have NB177_194 := nl_ hg BK177
                have NB194_177 := nm_ hg BK177
                replace BK177 := bb_ BK177 hb
                have NB178_194 := nl_ hg BK178
                have NB194_178 := nm_ hg BK178
                replace BK178 := bb_ BK178 hb
                clear hb hbox hg
                refine hK.out _ _ ⟨bc_ BK177.out 0, bc_ BK177.out 1⟩ (fun hHeld => ?_)
                clear hK K
                refine norm_ nn_ ?_
                exact norm_ nq_ (hJ9 (gb194) _ ⟨hHeld, kb_ BK177.out, kb_ BK178.out, kb_ BK194.out, GW194.out, GE194.out, NB177_194.out, NB194_177.out, NB178_194.out, NB194_178.out, bl_⟩)
              ·skip
               rintro gb194 w116 ⟨hS_, h0_, h1_, h2_, h3_, h4_, h5_, h6_, h7_, h8_, h9_⟩
               try dsimp only at h0_ h1_ h2_ h3_ h4_ h5_ h6_ h7_ h8_ h9_
               replace BK177 := Aside0.mk h0_
               replace BK178 := Aside0.mk h1_
               have BK194 := Aside0.mk h2_
               have GW194 := Aside0.mk h3_
               have GE194 := Aside0.mk h4_
               have NB177_194 := Aside0.mk h5_
               have NB194_177 := Aside0.mk h6_
               have NB178_194 := Aside0.mk h7_
               have NB194_178 := Aside0.mk h8_
               replace HB := Aside0.mk h9_
               clear h0_ h1_ h2_ h3_ h4_ h5_ h6_ h7_ h8_ h9_
               try dsimp only at hS_
               have hHeld := hS_
               refine norm_ np_ ?_
               refine tw_ 0 4 (some 23) (some 27) (h1 := fun K hK => ?_) (h2 := fun K hK => ?_)
               ·skip
                refine Kd.R_lit_step (Kd.int .i64) _ 3 rfl (N := 23) rfl (xs := ([] : List Int)) (inner := []) (ok := fun _ => True) (okp := fun _ => True) gs_ ?hp (fun _ hk => hk) trivial (Below.refl _ _) (Nat.le_refl _) (by simp) ?_; (case hp => exact (Reps.none _ _))
                intro v183 w117 ho118 hb hg_ hnew_
                clear hg_ hnew_
                (first | rw [← Ny182.out] at ho118 | (simp only [Int.reduceToNat] at ho118; rw [← Ny182.out] at ho118))
                have HO184 := Aside0.mk (Kd.R_lower ho118 bz_)
                replace BK177 := bb_ BK177 hb
                replace BK178 := bb_ BK178 hb
                replace BK194 := bb_ BK194 hb
                replace HB := Aside0.mk (below_step bl_ hb)
                clear hb ho118
                refine hK.out _ _ ⟨bc_ BK177.out 0, bc_ BK177.out 1⟩ (fun hHeld => ?_)
                clear hK K
                refine norm_ nn_ ?_
                exact norm_ nq_ (hJ0_9 (v183, gb194) _ ⟨hHeld, kr_ HO184.out, kb_ BK177.out, kb_ BK178.out, kb_ BK194.out, GW194.out, GE194.out, NB177_194.out, NB194_177.out, NB178_194.out, NB194_178.out, bl_⟩)
               ·skip
                refine Kd.R_lit_step (Kd.int .i64) _ 3 rfl (N := 27) rfl (xs := ([] : List Int)) (inner := []) (ok := fun _ => True) (okp := fun _ => True) gs_ ?hp (fun _ hk => hk) trivial (Below.refl _ _) (Nat.le_refl _) (by simp) ?_; (case hp => exact (Reps.none _ _))
                intro v189 w117 ho118 hb hg_ hnew_
                clear hg_ hnew_
                (first | rw [← Ny188.out] at ho118 | (simp only [Int.reduceToNat] at ho118; rw [← Ny188.out] at ho118))
                have HO190 := Aside0.mk (Kd.R_lower ho118 bz_)
                replace BK177 := bb_ BK177 hb
                replace BK178 := bb_ BK178 hb
                replace BK194 := bb_ BK194 hb
                replace HB := Aside0.mk (below_step bl_ hb)
                clear hb ho118
                refine hK.out _ _ ⟨bc_ BK177.out 0, bc_ BK177.out 1⟩ (fun hHeld => ?_)
                clear hK K
                refine norm_ nn_ ?_
                exact norm_ nq_ (hJ4_9 (v189, gb194) _ ⟨hHeld, kr_ HO190.out, kb_ BK177.out, kb_ BK178.out, kb_ BK194.out, GW194.out, GE194.out, NB177_194.out, NB194_177.out, NB178_194.out, NB194_178.out, bl_⟩)
             ·skip
              rintro v189 w117 ⟨hS_, h0_, h1_, h2_, h3_⟩
              try dsimp only at h0_ h1_ h2_ h3_
              have HO190 := Aside0.mk h0_
              replace BK177 := Aside0.mk h1_
              replace BK178 := Aside0.mk h2_
              replace HB := Aside0.mk h3_
              clear h0_ h1_ h2_ h3_
              try dsimp only at hS_
              have hHeld := hS_
              refine norm_ np_ ?_
              refine tw_ 0 9 (some 23) (some 8) (h1 := fun K hK => ?_) (h2 := fun K hK => ?_)
              ·skip
               refine Kd.R_lit_step (Kd.int .i64) _ 3 rfl (N := 23) rfl (xs := ([] : List Int)) (inner := []) (ok := fun _ => True) (okp := fun _ => True) gs_ ?hp (fun _ hk => hk) trivial (Below.refl _ _) (Nat.le_refl _) (by simp) ?_; (case hp => exact (Reps.none _ _))
               intro v183 w118 ho119 hb hg_ hnew_
               clear hg_ hnew_
               (first | rw [← Ny182.out] at ho119 | (simp only [Int.reduceToNat] at ho119; rw [← Ny182.out] at ho119))
               have HO184 := Aside0.mk (Kd.R_lower (rn_ ho119 HO190.out) bz_)
               replace HO190 := Aside0.mk (Kd.R_elder' (kr_ HO190.out) (Kd.R_base ho119) hb)
               replace BK177 := bb_ BK177 hb
               replace BK178 := bb_ BK178 hb
               replace HB := Aside0.mk (below_step bl_ hb)
               clear hb ho119
               refine hK.out _ _ ⟨bc_ BK177.out 0, bc_ BK177.out 1⟩ (fun hHeld => ?_)
               clear hK K
               refine norm_ nn_ ?_
               exact norm_ nq_ (hJ0_4 (v183, v189) _ ⟨hHeld, kp_ HO184.out, kp_ HO190.out, kb_ BK177.out, kb_ BK178.out, bl_⟩)
              ·skip
               refine box_step rfl (N := 8) rfl (cs := #[.slice none 0 0, .slice none 0 0]) (t := 27) gs_ ?_
               intro gb194 hg w118 hbox hb
               replace HO190 := rb_ HO190 hb
               have BK194 := Aside0.mk (hbox)
               have GW194 := Aside0.mk ((by rw [hg]; exact bz_ : w.heap.size ≤ gb194))
               have GE194 := GW194
               replace HB := Aside0.mk (below_step bl_ hb)
               have NB177_194 := nl_ hg BK177
               have NB194_177 := nm_ hg BK177
               replace BK177 := bb_ BK177 hb
               have NB178_194 := nl_ hg BK178
               have NB194_178 := nm_ hg BK178
               replace BK178 := bb_ BK178 hb
               clear hb hbox hg
               refine hK.out _ _ ⟨bc_ BK177.out 0, bc_ BK177.out 1⟩ (fun hHeld => ?_)
               clear hK K
               refine norm_ nn_ ?_
               exact norm_ nq_ (hJ4_9 (v189, gb194) _ ⟨hHeld, kr_ HO190.out, kb_ BK177.out, kb_ BK178.out, kb_ BK194.out, GW194.out, GE194.out, NB177_194.out, NB194_177.out, NB178_194.out, NB194_178.out, bl_⟩)
            ·skip
             rintro v183 w117 ⟨hS_, h0_, h1_, h2_, h3_⟩
             try dsimp only at h0_ h1_ h2_ h3_
             have HO184 := Aside0.mk h0_
             replace BK177 := Aside0.mk h1_
             replace BK178 := Aside0.mk h2_
             replace HB := Aside0.mk h3_
             clear h0_ h1_ h2_ h3_
             try dsimp only at hS_
             have hHeld := hS_
             refine norm_ np_ ?_
             refine th_ 3 4 9 (some 26) (some 27) (some 8) (h1 := fun K hK => ?_) (h2 := fun K hK => ?_) (h3 := fun K hK => ?_)
             ·skip
              refine Kd.R_append_rows_step (Kd.int .i64) (w0 := w) w.heap.size (by rfl) (.tmp 23) (.tmp 25) 22 3 (.int .i64 0) 8 rfl Try.underlying22 info3 rfl (by decide) (by omega) v183 y182 l0_0 _ _ _ (fun _ => True) (fun _ => False) rfl rfl ?aO ?aR (fun _ _ h => h) (fun _ h => h.elim) ?aF ?aB ?aS ?aL ?_
              (case aR => exact kc_ (Kd.C_below HR0_0.out HB.out))
              (case aB => exact bl_)
              (case aF => exact (fun _ _ => trivial))
              (case aO => exact (kr_ HO184.out))
              (case aS => exact bz_)
              (case aL => have := LMc24.out; omega)
              intro v186 w118 ho hb hg hat
              rw [← Ny185.out] at ho
              replace BK177 := bgr_ BK177 hg HO184 BK177
              replace BK178 := bgr_ BK178 hg HO184 BK178
              replace HB := Aside0.mk (hb)
              have HO187 := Aside0.mk (ho)
              clear HO184 ho hb hg hat
              refine hK.out _ _ ⟨bc_ BK177.out 0, bc_ BK177.out 1⟩ (fun hHeld => ?_)
              clear hK K
              refine norm_ nn_ ?_
              exact norm_ nq_ (hJ0_3 (v183, v186) _ ⟨hHeld, kr_ HO187.out, kb_ BK177.out, kb_ BK178.out, bl_⟩)
             ·skip
              refine Kd.R_lit_step (Kd.int .i64) _ 3 rfl (N := 27) rfl (xs := ([] : List Int)) (inner := []) (ok := fun _ => True) (okp := fun _ => True) gs_ ?hp (fun _ hk => hk) trivial (Below.refl _ _) (Nat.le_refl _) (by simp) ?_; (case hp => exact (Reps.none _ _))
              intro v189 w118 ho119 hb hg_ hnew_
              clear hg_ hnew_
              (first | rw [← Ny188.out] at ho119 | (simp only [Int.reduceToNat] at ho119; rw [← Ny188.out] at ho119))
              have HO190 := Aside0.mk (Kd.R_lower (rn_ ho119 HO184.out) bz_)
              replace HO184 := Aside0.mk (Kd.R_elder' (kr_ HO184.out) (Kd.R_base ho119) hb)
              replace BK177 := bb_ BK177 hb
              replace BK178 := bb_ BK178 hb
              replace HB := Aside0.mk (below_step bl_ hb)
              clear hb ho119
              refine hK.out _ _ ⟨bc_ BK177.out 0, bc_ BK177.out 1⟩ (fun hHeld => ?_)
              clear hK K
              refine norm_ nn_ ?_
              exact norm_ nq_ (hJ0_4 (v183, v189) _ ⟨hHeld, kp_ HO184.out, kp_ HO190.out, kb_ BK177.out, kb_ BK178.out, bl_⟩)
             ·skip
              refine box_step rfl (N := 8) rfl (cs := #[.slice none 0 0, .slice none 0 0]) (t := 27) gs_ ?_
              intro gb194 hg w118 hbox hb
              replace HO184 := rb_ HO184 hb
              have BK194 := Aside0.mk (hbox)
              have GW194 := Aside0.mk ((by rw [hg]; exact bz_ : w.heap.size ≤ gb194))
              have GE194 := GW194
              replace HB := Aside0.mk (below_step bl_ hb)
              have NB177_194 := nl_ hg BK177
              have NB194_177 := nm_ hg BK177
              replace BK177 := bb_ BK177 hb
              have NB178_194 := nl_ hg BK178
              have NB194_178 := nm_ hg BK178
              replace BK178 := bb_ BK178 hb
              clear hb hbox hg
              refine hK.out _ _ ⟨bc_ BK177.out 0, bc_ BK177.out 1⟩ (fun hHeld => ?_)
              clear hK K
              refine norm_ nn_ ?_
              exact norm_ nq_ (hJ0_9 (v183, gb194) _ ⟨hHeld, kr_ HO184.out, kb_ BK177.out, kb_ BK178.out, kb_ BK194.out, GW194.out, GE194.out, NB177_194.out, NB194_177.out, NB178_194.out, NB194_178.out, bl_⟩)
           ·skip
            rintro ⟨v189, gb194⟩ w118 ⟨hS_, h0_, h1_, h2_, h3_, h4_, h5_, h6_, h7_, h8_, h9_, h10_⟩
            dsimp only at h0_ h1_ h2_ h3_ h4_ h5_ h6_ h7_ h8_ h9_ h10_
            have HO190 := Aside0.mk h0_
            replace BK177 := Aside0.mk h1_
            replace BK178 := Aside0.mk h2_
            have BK194 := Aside0.mk h3_
            have GW194 := Aside0.mk h4_
            have GE194 := Aside0.mk h5_
            have NB177_194 := Aside0.mk h6_
            have NB194_177 := Aside0.mk h7_
            have NB178_194 := Aside0.mk h8_
            have NB194_178 := Aside0.mk h9_
            replace HB := Aside0.mk h10_
            clear h0_ h1_ h2_ h3_ h4_ h5_ h6_ h7_ h8_ h9_ h10_
            try dsimp only at hS_
            have hHeld := hS_
            refine norm_ np_ ?_
            refine on_ 0 (some 23) (h := fun K hK => ?_)
            refine Kd.R_lit_step (Kd.int .i64) _ 3 rfl (N := 23) rfl (xs := ([] : List Int)) (inner := []) (ok := fun _ => True) (okp := fun _ => True) gs_ ?hp (fun _ hk => hk) trivial (Below.refl _ _) (Nat.le_refl _) (by simp) ?_; (case hp => exact (Reps.none _ _))
            intro v183 w119 ho120 hb hg_ hnew_
            clear hg_ hnew_
            (first | rw [← Ny182.out] at ho120 | (simp only [Int.reduceToNat] at ho120; rw [← Ny182.out] at ho120))
            have HO184 := Aside0.mk (Kd.R_lower (rn_ ho120 HO190.out) bz_)
            replace HO190 := Aside0.mk (Kd.R_elder' (kr_ HO190.out) (Kd.R_base ho120) hb)
            replace BK177 := bb_ BK177 hb
            replace BK178 := bb_ BK178 hb
            replace BK194 := bb_ BK194 hb
            replace HB := Aside0.mk (below_step bl_ hb)
            clear hb ho120
            refine hK.out _ _ ⟨bc_ BK177.out 0, bc_ BK177.out 1⟩ (fun hHeld => ?_)
            clear hK K
            refine norm_ nn_ ?_
            exact norm_ nq_ (hJ0_4_9 (v183, v189, gb194) _ ⟨hHeld, kp_ HO184.out, kp_ HO190.out, kb_ BK177.out, kb_ BK178.out, kb_ BK194.out, GW194.out, GE194.out, NB177_194.out, NB194_177.out, NB178_194.out, NB194_178.out, bl_⟩)
          ·skip
           rintro ⟨v183, gb194⟩ w118 ⟨hS_, h0_, h1_, h2_, h3_, h4_, h5_, h6_, h7_, h8_, h9_, h10_⟩
           dsimp only at h0_ h1_ h2_ h3_ h4_ h5_ h6_ h7_ h8_ h9_ h10_
           have HO184 := Aside0.mk h0_
           replace BK177 := Aside0.mk h1_
           replace BK178 := Aside0.mk h2_
           have BK194 := Aside0.mk h3_
           have GW194 := Aside0.mk h4_
           have GE194 := Aside0.mk h5_
           have NB177_194 := Aside0.mk h6_
           have NB194_177 := Aside0.mk h7_
           have NB178_194 := Aside0.mk h8_
           have NB194_178 := Aside0.mk h9_
           replace HB := Aside0.mk h10_
           clear h0_ h1_ h2_ h3_ h4_ h5_ h6_ h7_ h8_ h9_ h10_
           try dsimp only at hS_
           have hHeld := hS_
           refine norm_ np_ ?_
           refine tw_ 3 4 (some 26) (some 27) (h1 := fun K hK => ?_) (h2 := fun K hK => ?_)
           ·skip
            refine Kd.R_append_rows_step (Kd.int .i64) (w0 := w) w.heap.size (by rfl) (.tmp 23) (.tmp 25) 22 3 (.int .i64 0) 8 rfl Try.underlying22 info3 rfl (by decide) (by omega) v183 y182 l0_0 _ _ _ (fun _ => True) (fun _ => False) rfl rfl ?aO ?aR (fun _ _ h => h) (fun _ h => h.elim) ?aF ?aB ?aS ?aL ?_
            (case aR => exact kc_ (Kd.C_below HR0_0.out HB.out))
            (case aB => exact bl_)
            (case aF => exact (fun _ _ => trivial))
            (case aO => exact (kr_ HO184.out))
            (case aS => exact bz_)
            (case aL => have := LMc24.out; omega)
            intro v186 w119 ho hb hg hat
            rw [← Ny185.out] at ho
            replace BK177 := bgr_ BK177 hg HO184 BK177
            replace BK178 := bgr_ BK178 hg HO184 BK178
            replace BK194 := bgr_ BK194 hg HO184 BK194
            replace HB := Aside0.mk (hb)
            have HO187 := Aside0.mk (ho)
            clear HO184 ho hb hg hat
            refine hK.out _ _ ⟨bc_ BK177.out 0, bc_ BK177.out 1⟩ (fun hHeld => ?_)
            clear hK K
            refine norm_ nn_ ?_
            exact norm_ nq_ (hJ0_3_9 (v183, v186, gb194) _ ⟨hHeld, kr_ HO187.out, kb_ BK177.out, kb_ BK178.out, kb_ BK194.out, GW194.out, GE194.out, NB177_194.out, NB194_177.out, NB178_194.out, NB194_178.out, bl_⟩)
           ·skip
            refine Kd.R_lit_step (Kd.int .i64) _ 3 rfl (N := 27) rfl (xs := ([] : List Int)) (inner := []) (ok := fun _ => True) (okp := fun _ => True) gs_ ?hp (fun _ hk => hk) trivial (Below.refl _ _) (Nat.le_refl _) (by simp) ?_; (case hp => exact (Reps.none _ _))
            intro v189 w119 ho120 hb hg_ hnew_
            clear hg_ hnew_
            (first | rw [← Ny188.out] at ho120 | (simp only [Int.reduceToNat] at ho120; rw [← Ny188.out] at ho120))
            have HO190 := Aside0.mk (Kd.R_lower (rn_ ho120 HO184.out) bz_)
            replace HO184 := Aside0.mk (Kd.R_elder' (kr_ HO184.out) (Kd.R_base ho120) hb)
            replace BK177 := bb_ BK177 hb
            replace BK178 := bb_ BK178 hb
            replace BK194 := bb_ BK194 hb
            replace HB := Aside0.mk (below_step bl_ hb)
            clear hb ho120
            refine hK.out _ _ ⟨bc_ BK177.out 0, bc_ BK177.out 1⟩ (fun hHeld => ?_)
            clear hK K
            refine norm_ nn_ ?_
            exact norm_ nq_ (hJ0_4_9 (v183, v189, gb194) _ ⟨hHeld, kp_ HO184.out, kp_ HO190.out, kb_ BK177.out, kb_ BK178.out, kb_ BK194.out, GW194.out, GE194.out, NB177_194.out, NB194_177.out, NB178_194.out, NB194_178.out, bl_⟩)
         ·skip
          rintro ⟨v183, v189⟩ w119 ⟨hS_, h0_, h1_, h2_, h3_, h4_⟩
          dsimp only at h0_ h1_ h2_ h3_ h4_
          have HO184 := Aside0.mk h0_
          have HO190 := Aside0.mk h1_
          replace BK177 := Aside0.mk h2_
          replace BK178 := Aside0.mk h3_
          replace HB := Aside0.mk h4_
          clear h0_ h1_ h2_ h3_ h4_
          try dsimp only at hS_
          have hHeld := hS_
          refine norm_ np_ ?_
          refine tw_ 3 9 (some 26) (some 8) (h1 := fun K hK => ?_) (h2 := fun K hK => ?_)
          ·skip
           refine Kd.R_append_rows_step (Kd.int .i64) (w0 := w) w.heap.size (by rfl) (.tmp 23) (.tmp 25) 22 3 (.int .i64 0) 8 rfl Try.underlying22 info3 rfl (by decide) (by omega) v183 y182 l0_0 _ _ _ (fun k_ => some k_ ≠ (v189 : Value).ownBlock) (fun _ => False) rfl rfl ?aO ?aR (fun _ _ h => h) (fun _ h => h.elim) ?aF ?aB ?aS ?aL ?_
           (case aR => exact kc_ (Kd.C_below HR0_0.out HB.out))
           (case aB => exact bl_)
           (case aF => exact (fun k_ hk => Kd.fresh' (Kd.R_lt (kr_ HO190.out)) k_ hk))
           (case aO => exact (kr_ HO184.out))
           (case aS => exact bz_)
           (case aL => have := LMc24.out; omega)
           intro v186 w120 ho hb hg hat
           rw [← Ny185.out] at ho
           replace BK177 := bgr_ BK177 hg HO184 BK177
           replace BK178 := bgr_ BK178 hg HO184 BK178
           replace HO190 := Aside0.mk (Kd.R_after (ok := (fun _ => True)) (by exact kr_ (Kd.R_mono HO190.out (fun _ hk => ⟨trivial, hk⟩))) hg hat)
           replace HB := Aside0.mk (hb)
           have HO187 := Aside0.mk (ho)
           clear HO184 ho hb hg hat
           refine hK.out _ _ ⟨bc_ BK177.out 0, bc_ BK177.out 1⟩ (fun hHeld => ?_)
           clear hK K
           refine norm_ nn_ ?_
           exact norm_ nq_ (hJ0_3_4 (v183, v186, v189) _ ⟨hHeld, kr_ HO187.out, kp_ HO190.out, kb_ BK177.out, kb_ BK178.out, bl_⟩)
          ·skip
           refine box_step rfl (N := 8) rfl (cs := #[.slice none 0 0, .slice none 0 0]) (t := 27) gs_ ?_
           intro gb194 hg w120 hbox hb
           replace HO184 := rb_ HO184 hb
           replace HO190 := rb_ HO190 hb
           have BK194 := Aside0.mk (hbox)
           have GW194 := Aside0.mk ((by rw [hg]; exact bz_ : w.heap.size ≤ gb194))
           have GE194 := GW194
           replace HB := Aside0.mk (below_step bl_ hb)
           have NB177_194 := nl_ hg BK177
           have NB194_177 := nm_ hg BK177
           replace BK177 := bb_ BK177 hb
           have NB178_194 := nl_ hg BK178
           have NB194_178 := nm_ hg BK178
           replace BK178 := bb_ BK178 hb
           clear hb hbox hg
           refine hK.out _ _ ⟨bc_ BK177.out 0, bc_ BK177.out 1⟩ (fun hHeld => ?_)
           clear hK K
           refine norm_ nn_ ?_
           exact norm_ nq_ (hJ0_4_9 (v183, v189, gb194) _ ⟨hHeld, kr_ HO184.out, kr_ HO190.out, kb_ BK177.out, kb_ BK178.out, kb_ BK194.out, GW194.out, GE194.out, NB177_194.out, NB194_177.out, NB178_194.out, NB194_178.out, bl_⟩)
        ·skip
         rintro ⟨v183, v186⟩ w118 ⟨hS_, h0_, h1_, h2_, h3_⟩
         dsimp only at h0_ h1_ h2_ h3_
         have HO187 := Aside0.mk h0_
         replace BK177 := Aside0.mk h1_
         replace BK178 := Aside0.mk h2_
         replace HB := Aside0.mk h3_
         clear h0_ h1_ h2_ h3_
         try dsimp only at hS_
         have hHeld := hS_
         refine norm_ np_ ?_
         refine tw_ 4 9 (some 27) (some 8) (h1 := fun K hK => ?_) (h2 := fun K hK => ?_)
         ·skip
          refine Kd.R_lit_step (Kd.int .i64) _ 3 rfl (N := 27) rfl (xs := ([] : List Int)) (inner := []) (ok := fun _ => True) (okp := fun _ => True) gs_ ?hp (fun _ hk => hk) trivial (Below.refl _ _) (Nat.le_refl _) (by simp) ?_; (case hp => exact (Reps.none _ _))
          intro v189 w119 ho120 hb hg_ hnew_
          clear hg_ hnew_
          (first | rw [← Ny188.out] at ho120 | (simp only [Int.reduceToNat] at ho120; rw [← Ny188.out] at ho120))
          have HO190 := Aside0.mk (Kd.R_lower (rn_ ho120 HO187.out) bz_)
          replace HO187 := Aside0.mk (Kd.R_elder' (kr_ HO187.out) (Kd.R_base ho120) hb)
          replace BK177 := bb_ BK177 hb
          replace BK178 := bb_ BK178 hb
          replace HB := Aside0.mk (below_step bl_ hb)
          clear hb ho120
          refine hK.out _ _ ⟨bc_ BK177.out 0, bc_ BK177.out 1⟩ (fun hHeld => ?_)
          clear hK K
          refine norm_ nn_ ?_
          exact norm_ nq_ (hJ0_3_4 (v183, v186, v189) _ ⟨hHeld, kp_ HO187.out, kp_ HO190.out, kb_ BK177.out, kb_ BK178.out, bl_⟩)
         ·skip
          refine box_step rfl (N := 8) rfl (cs := #[.slice none 0 0, .slice none 0 0]) (t := 27) gs_ ?_
          intro gb194 hg w119 hbox hb
          replace HO187 := rb_ HO187 hb
          have BK194 := Aside0.mk (hbox)
          have GW194 := Aside0.mk ((by rw [hg]; exact bz_ : w.heap.size ≤ gb194))
          have GE194 := GW194
          replace HB := Aside0.mk (below_step bl_ hb)
          have NB177_194 := nl_ hg BK177
          have NB194_177 := nm_ hg BK177
          replace BK177 := bb_ BK177 hb
          have NB178_194 := nl_ hg BK178
          have NB194_178 := nm_ hg BK178
          replace BK178 := bb_ BK178 hb
          clear hb hbox hg
          refine hK.out _ _ ⟨bc_ BK177.out 0, bc_ BK177.out 1⟩ (fun hHeld => ?_)
          clear hK K
          refine norm_ nn_ ?_
          exact norm_ nq_ (hJ0_3_9 (v183, v186, gb194) _ ⟨hHeld, kr_ HO187.out, kb_ BK177.out, kb_ BK178.out, kb_ BK194.out, GW194.out, GE194.out, NB177_194.out, NB194_177.out, NB178_194.out, NB194_178.out, bl_⟩)
       ·skip
        rintro ⟨v183, v189, gb194⟩ w120 ⟨hS_, h0_, h1_, h2_, h3_, h4_, h5_, h6_, h7_, h8_, h9_, h10_, h11_⟩
        dsimp only at h0_ h1_ h2_ h3_ h4_ h5_ h6_ h7_ h8_ h9_ h10_ h11_
        have HO184 := Aside0.mk h0_
        have HO190 := Aside0.mk h1_
        replace BK177 := Aside0.mk h2_
        replace BK178 := Aside0.mk h3_
        have BK194 := Aside0.mk h4_
        have GW194 := Aside0.mk h5_
        have GE194 := Aside0.mk h6_
        have NB177_194 := Aside0.mk h7_
        have NB194_177 := Aside0.mk h8_
        have NB178_194 := Aside0.mk h9_
        have NB194_178 := Aside0.mk h10_
        replace HB := Aside0.mk h11_
        clear h0_ h1_ h2_ h3_ h4_ h5_ h6_ h7_ h8_ h9_ h10_ h11_
        try dsimp only at hS_
        have hHeld := hS_
        refine norm_ np_ ?_
        refine on_ 3 (some 26) (h := fun K hK => ?_)
        refine Kd.R_append_rows_step (Kd.int .i64) (w0 := w) w.heap.size (by rfl) (.tmp 23) (.tmp 25) 22 3 (.int .i64 0) 8 rfl Try.underlying22 info3 rfl (by decide) (by omega) v183 y182 l0_0 _ _ _ (fun k_ => some k_ ≠ (v189 : Value).ownBlock) (fun _ => False) rfl rfl ?aO ?aR (fun _ _ h => h) (fun _ h => h.elim) ?aF ?aB ?aS ?aL ?_
        (case aR => exact kc_ (Kd.C_below HR0_0.out HB.out))
        (case aB => exact bl_)
        (case aF => exact (fun k_ hk => Kd.fresh' (Kd.R_lt (kr_ HO190.out)) k_ hk))
        (case aO => exact (kr_ HO184.out))
        (case aS => exact bz_)
        (case aL => have := LMc24.out; omega)
        intro v186 w121 ho hb hg hat
        rw [← Ny185.out] at ho
        replace BK177 := bgr_ BK177 hg HO184 BK177
        replace BK178 := bgr_ BK178 hg HO184 BK178
        replace HO190 := Aside0.mk (Kd.R_after (ok := (fun _ => True)) (by exact kr_ (Kd.R_mono HO190.out (fun _ hk => ⟨trivial, hk⟩))) hg hat)
        replace BK194 := bgr_ BK194 hg HO184 BK194
        replace HB := Aside0.mk (hb)
        have HO187 := Aside0.mk (ho)
        clear HO184 ho hb hg hat
        refine hK.out _ _ ⟨bc_ BK177.out 0, bc_ BK177.out 1⟩ (fun hHeld => ?_)
        clear hK K
        refine norm_ nn_ ?_
        exact norm_ nq_ (hJ0_3_4_9 (v183, v186, v189, gb194) _ ⟨hHeld, kr_ HO187.out, kp_ HO190.out, kb_ BK177.out, kb_ BK178.out, kb_ BK194.out, GW194.out, GE194.out, NB177_194.out, NB194_177.out, NB178_194.out, NB194_178.out, bl_⟩)
      ·skip
       rintro ⟨v183, v186, gb194⟩ w119 ⟨hS_, h0_, h1_, h2_, h3_, h4_, h5_, h6_, h7_, h8_, h9_, h10_⟩
       dsimp only at h0_ h1_ h2_ h3_ h4_ h5_ h6_ h7_ h8_ h9_ h10_
       have HO187 := Aside0.mk h0_
       replace BK177 := Aside0.mk h1_
       replace BK178 := Aside0.mk h2_
       have BK194 := Aside0.mk h3_
       have GW194 := Aside0.mk h4_
       have GE194 := Aside0.mk h5_
       have NB177_194 := Aside0.mk h6_
       have NB194_177 := Aside0.mk h7_
       have NB178_194 := Aside0.mk h8_
       have NB194_178 := Aside0.mk h9_
       replace HB := Aside0.mk h10_
       clear h0_ h1_ h2_ h3_ h4_ h5_ h6_ h7_ h8_ h9_ h10_
       try dsimp only at hS_
       have hHeld := hS_
       refine norm_ np_ ?_
       refine on_ 4 (some 27) (h := fun K hK => ?_)
       refine Kd.R_lit_step (Kd.int .i64) _ 3 rfl (N := 27) rfl (xs := ([] : List Int)) (inner := []) (ok := fun _ => True) (okp := fun _ => True) gs_ ?hp (fun _ hk => hk) trivial (Below.refl _ _) (Nat.le_refl _) (by simp) ?_; (case hp => exact (Reps.none _ _))
       intro v189 w120 ho121 hb hg_ hnew_
       clear hg_ hnew_
       (first | rw [← Ny188.out] at ho121 | (simp only [Int.reduceToNat] at ho121; rw [← Ny188.out] at ho121))
       have HO190 := Aside0.mk (Kd.R_lower (rn_ ho121 HO187.out) bz_)
       replace HO187 := Aside0.mk (Kd.R_elder' (kr_ HO187.out) (Kd.R_base ho121) hb)
       replace BK177 := bb_ BK177 hb
       replace BK178 := bb_ BK178 hb
       replace BK194 := bb_ BK194 hb
       replace HB := Aside0.mk (below_step bl_ hb)
       clear hb ho121
       refine hK.out _ _ ⟨bc_ BK177.out 0, bc_ BK177.out 1⟩ (fun hHeld => ?_)
       clear hK K
       refine norm_ nn_ ?_
       exact norm_ nq_ (hJ0_3_4_9 (v183, v186, v189, gb194) _ ⟨hHeld, kp_ HO187.out, kp_ HO190.out, kb_ BK177.out, kb_ BK178.out, kb_ BK194.out, GW194.out, GE194.out, NB177_194.out, NB194_177.out, NB178_194.out, NB194_178.out, bl_⟩)
     ·skip
      rintro ⟨v183, v186, v189⟩ w120 ⟨hS_, h0_, h1_, h2_, h3_, h4_⟩
      dsimp only at h0_ h1_ h2_ h3_ h4_
      have HO187 := Aside0.mk h0_
      have HO190 := Aside0.mk h1_
      replace BK177 := Aside0.mk h2_
      replace BK178 := Aside0.mk h3_
      replace HB := Aside0.mk h4_
      clear h0_ h1_ h2_ h3_ h4_
      try dsimp only at hS_
      have hHeld := hS_
      refine norm_ np_ ?_
      refine tw_ 7 9 (some 30) (some 8) (h1 := fun K hK => ?_) (h2 := fun K hK => ?_)
      ·skip
       refine Kd.R_append_rows_step (Kd.int .i64) (w0 := w) w.heap.size (by rfl) (.tmp 27) (.tmp 29) 22 3 (.int .i64 0) 8 rfl Try.underlying22 info3 rfl (by decide) (by omega) v189 y188 l0_1 _ _ _ (fun k_ => some k_ ≠ (v186 : Value).ownBlock) (fun _ => False) rfl rfl ?aO ?aR (fun _ _ h => h) (fun _ h => h.elim) ?aF ?aB ?aS ?aL ?_
       (case aR => exact kc_ (Kd.C_below HR0_1.out HB.out))
       (case aB => exact bl_)
       (case aF => exact (fun k_ hk => Kd.fresh' (Kd.R_lt (kr_ HO187.out)) k_ hk))
       (case aO => exact (kr_ HO190.out))
       (case aS => exact bz_)
       (case aL => have := LMc25.out; omega)
       intro v192 w121 ho hb hg hat
       rw [← Ny191.out] at ho
       replace BK177 := bgr_ BK177 hg HO190 BK177
       replace BK178 := bgr_ BK178 hg HO190 BK178
       replace HO187 := Aside0.mk (Kd.R_after (ok := (fun _ => True)) (by exact kr_ (Kd.R_mono HO187.out (fun _ hk => ⟨trivial, hk⟩))) hg hat)
       replace HB := Aside0.mk (hb)
       have HO193 := Aside0.mk (ho)
       clear HO190 ho hb hg hat
       obtain ⟨Ao122, co122, eo122⟩ := Kd.R_slice HO193.out
       (first | subst eo122 | (injection eo122 with f1_ f2_ f3_; have f4_ := f1_.symm; have f5_ := f3_.symm; clear f1_ f2_ f3_; subst f4_; subst f5_))
       obtain ⟨Ao123, co123, eo123⟩ := Kd.R_slice HO187.out
       (first | subst eo123 | (injection eo123 with f1_ f2_ f3_; have f4_ := f1_.symm; have f5_ := f3_.symm; clear f1_ f2_ f3_; subst f4_; subst f5_))
       refine hK.out _ _ ⟨bc_ BK177.out 0, bc_ BK177.out 1⟩ (fun hHeld => ?_)
       clear hK K
       refine norm_ nn_ ?_
       refine pu_ 8 (some 31) (h := ?_)
       exact norm_ nq_ (hJ0_3_4_7 (v183, .slice Ao123 y185.length co123, v189, .slice Ao122 y191.length co122) _ ⟨hHeld, kp_ HO187.out, kr_ HO193.out, kb_ BK177.out, kb_ BK178.out, bl_⟩)
      ·skip
       refine box_step rfl (N := 8) rfl (cs := #[.slice none 0 0, .slice none 0 0]) (t := 27) gs_ ?_
       intro gb194 hg w121 hbox hb
       replace HO187 := rb_ HO187 hb
       replace HO190 := rb_ HO190 hb
       have BK194 := Aside0.mk (hbox)
       have GW194 := Aside0.mk ((by rw [hg]; exact bz_ : w.heap.size ≤ gb194))
       have GE194 := GW194
       replace HB := Aside0.mk (below_step bl_ hb)
       have NB177_194 := nl_ hg BK177
       have NB194_177 := nm_ hg BK177
       replace BK177 := bb_ BK177 hb
       have NB178_194 := nl_ hg BK178
       have NB194_178 := nm_ hg BK178
       replace BK178 := bb_ BK178 hb
       clear hb hbox hg
       refine hK.out _ _ ⟨bc_ BK177.out 0, bc_ BK177.out 1⟩ (fun hHeld => ?_)
       clear hK K
       refine norm_ nn_ ?_
       exact norm_ nq_ (hJ0_3_4_9 (v183, v186, v189, gb194) _ ⟨hHeld, kr_ HO187.out, kr_ HO190.out, kb_ BK177.out, kb_ BK178.out, kb_ BK194.out, GW194.out, GE194.out, NB177_194.out, NB194_177.out, NB178_194.out, NB194_178.out, bl_⟩)
    ·skip
     rintro ⟨v183, v186, v189, gb194⟩ w121 ⟨hS_, h0_, h1_, h2_, h3_, h4_, h5_, h6_, h7_, h8_, h9_, h10_, h11_⟩
     dsimp only at h0_ h1_ h2_ h3_ h4_ h5_ h6_ h7_ h8_ h9_ h10_ h11_
     have HO187 := Aside0.mk h0_
     have HO190 := Aside0.mk h1_
     replace BK177 := Aside0.mk h2_
     replace BK178 := Aside0.mk h3_
     have BK194 := Aside0.mk h4_
     have GW194 := Aside0.mk h5_
     have GE194 := Aside0.mk h6_
     have NB177_194 := Aside0.mk h7_
     have NB194_177 := Aside0.mk h8_
     have NB178_194 := Aside0.mk h9_
     have NB194_178 := Aside0.mk h10_
     replace HB := Aside0.mk h11_
     clear h0_ h1_ h2_ h3_ h4_ h5_ h6_ h7_ h8_ h9_ h10_ h11_
     try dsimp only at hS_
     have hHeld := hS_
     refine norm_ np_ ?_
     refine on_ 7 (some 30) (h := fun K hK => ?_)
     refine Kd.R_append_rows_step (Kd.int .i64) (w0 := w) w.heap.size (by rfl) (.tmp 27) (.tmp 29) 22 3 (.int .i64 0) 8 rfl Try.underlying22 info3 rfl (by decide) (by omega) v189 y188 l0_1 _ _ _ (fun k_ => some k_ ≠ (v186 : Value).ownBlock) (fun _ => False) rfl rfl ?aO ?aR (fun _ _ h => h) (fun _ h => h.elim) ?aF ?aB ?aS ?aL ?_
     (case aR => exact kc_ (Kd.C_below HR0_1.out HB.out))
     (case aB => exact bl_)
     (case aF => exact (fun k_ hk => Kd.fresh' (Kd.R_lt (kr_ HO187.out)) k_ hk))
     (case aO => exact (kr_ HO190.out))
     (case aS => exact bz_)
     (case aL => have := LMc25.out; omega)
     intro v192 w122 ho hb hg hat
     rw [← Ny191.out] at ho
     replace BK177 := bgr_ BK177 hg HO190 BK177
     replace BK178 := bgr_ BK178 hg HO190 BK178
     replace HO187 := Aside0.mk (Kd.R_after (ok := (fun _ => True)) (by exact kr_ (Kd.R_mono HO187.out (fun _ hk => ⟨trivial, hk⟩))) hg hat)
     replace BK194 := bgr_ BK194 hg HO190 BK194
     replace HB := Aside0.mk (hb)
     have HO193 := Aside0.mk (ho)
     clear HO190 ho hb hg hat
     obtain ⟨Ao123, co123, eo123⟩ := Kd.R_slice HO193.out
     (first | subst eo123 | (injection eo123 with f1_ f2_ f3_; have f4_ := f1_.symm; have f5_ := f3_.symm; clear f1_ f2_ f3_; subst f4_; subst f5_))
     obtain ⟨Ao124, co124, eo124⟩ := Kd.R_slice HO187.out
     (first | subst eo124 | (injection eo124 with f1_ f2_ f3_; have f4_ := f1_.symm; have f5_ := f3_.symm; clear f1_ f2_ f3_; subst f4_; subst f5_))
     refine hK.out _ _ ⟨bc_ BK177.out 0, bc_ BK177.out 1⟩ (fun hHeld => ?_)
     clear hK K
     refine norm_ nn_ ?_
     refine pu_ 8 (some 31) (h := ?_)
     exact norm_ nq_ (hJ0_3_4_7_9 (v183, .slice Ao124 y185.length co124, v189, .slice Ao123 y191.length co123, gb194) _ ⟨hHeld, kp_ HO187.out, kr_ HO193.out, kb_ BK177.out, kb_ BK178.out, kb_ BK194.out, GW194.out, GE194.out, NB177_194.out, NB194_177.out, NB178_194.out, NB194_178.out, bl_⟩)
   ·skip
    rintro ⟨v183, v186, v189, v192⟩ w123 ⟨hS_, h0_, h1_, h2_, h3_, h4_⟩
    dsimp only at h0_ h1_ h2_ h3_ h4_
    have HO187 := Aside0.mk h0_
    have HO193 := Aside0.mk h1_
    replace BK177 := Aside0.mk h2_
    replace BK178 := Aside0.mk h3_
    replace HB := Aside0.mk h4_
    clear h0_ h1_ h2_ h3_ h4_
    try dsimp only at hS_
    have hHeld := hS_
    obtain ⟨Ao124, co124, eo124⟩ := Kd.R_slice HO193.out
    (first | subst eo124 | (injection eo124 with f1_ f2_ f3_; have f4_ := f1_.symm; have f5_ := f3_.symm; clear f1_ f2_ f3_; subst f4_; subst f5_))
    obtain ⟨Ao125, co125, eo125⟩ := Kd.R_slice HO187.out
    (first | subst eo125 | (injection eo125 with f1_ f2_ f3_; have f4_ := f1_.symm; have f5_ := f3_.symm; clear f1_ f2_ f3_; subst f4_; subst f5_))
    refine norm_ np_ ?_
    refine on_ 9 (some 8) (h := fun K hK => ?_)
    refine box_step rfl (N := 8) rfl (cs := #[.slice none 0 0, .slice none 0 0]) (t := 27) gs_ ?_
    intro gb194 hg w126 hbox hb
    replace HO187 := rb_ HO187 hb
    replace HO193 := rb_ HO193 hb
    have BK194 := Aside0.mk (hbox)
    have GW194 := Aside0.mk ((by rw [hg]; exact bz_ : w.heap.size ≤ gb194))
    have GE194 := GW194
    replace HB := Aside0.mk (below_step bl_ hb)
    have NB177_194 := nl_ hg BK177
    have NB194_177 := nm_ hg BK177
    replace BK177 := bb_ BK177 hb
    have NB178_194 := nl_ hg BK178
    have NB194_178 := nm_ hg BK178
    replace BK178 := bb_ BK178 hb
    clear hb hbox hg
    refine hK.out _ _ ⟨bc_ BK177.out 0, bc_ BK177.out 1⟩ (fun hHeld => ?_)
    clear hK K
    refine norm_ nn_ ?_
    exact norm_ nq_ (hJ0_3_4_7_9 (v183, .slice Ao125 y185.length co125, v189, .slice Ao124 y191.length co124, gb194) _ ⟨hHeld, kr_ HO187.out, kr_ HO193.out, kb_ BK177.out, kb_ BK178.out, kb_ BK194.out, GW194.out, GE194.out, NB177_194.out, NB194_177.out, NB178_194.out, NB194_178.out, bl_⟩)
  rintro ⟨v183, v186, v189, v192, gb194⟩ w124 ⟨hS_, h0_, h1_, h2_, h3_, h4_, h5_, h6_, h7_, h8_, h9_, h10_, h11_⟩
  dsimp only at h0_ h1_ h2_ h3_ h4_ h5_ h6_ h7_ h8_ h9_ h10_ h11_
  have HO187 := Aside0.mk h0_
  have HO193 := Aside0.mk h1_
  replace BK177 := Aside0.mk h2_
  replace BK178 := Aside0.mk h3_
  have BK194 := Aside0.mk h4_
  have GW194 := Aside0.mk h5_
  have GE194 := Aside0.mk h6_
  have NB177_194 := Aside0.mk h7_
  have NB194_177 := Aside0.mk h8_
  have NB178_194 := Aside0.mk h9_
  have NB194_178 := Aside0.mk h10_
  replace HB := Aside0.mk h11_
  clear h0_ h1_ h2_ h3_ h4_ h5_ h6_ h7_ h8_ h9_ h10_ h11_
  try dsimp only at hS_
  have hHeld := hS_
  obtain ⟨Ao125, co125, eo125⟩ := Kd.R_slice HO193.out
  (first | subst eo125 | (injection eo125 with f1_ f2_ f3_; have f4_ := f1_.symm; have f5_ := f3_.symm; clear f1_ f2_ f3_; subst f4_; subst f5_))
  obtain ⟨Ao126, co126, eo126⟩ := Kd.R_slice HO187.out
  (first | subst eo126 | (injection eo126 with f1_ f2_ f3_; have f4_ := f1_.symm; have f5_ := f3_.symm; clear f1_ f2_ f3_; subst f4_; subst f5_))
  refine norm_ np_ ?_
  refine on_ 10 none (h := fun K hK => ?_)
  have hs127 : w124.cell? ⟨gb194, 0, none⟩ = some (.slice none 0 0) := bc_ BK194.out 0
  have hfs127 := blk_frozen BK194.out 0
  have hns127_0 := NB177_194.out
  have hns127_1 := NB178_194.out
  have hms127_0 := NB194_177.out
  have hms127_1 := NB194_178.out
  have hs128 : w124.cell? ⟨gb194, 1, none⟩ = some (.slice none 0 0) := bc_ BK194.out 1
  have hfs128 := blk_frozen BK194.out 1
  have hns128_0 := NB177_194.out
  have hns128_1 := NB178_194.out
  have hms128_0 := NB194_177.out
  have hms128_1 := NB194_178.out
  refine skip_ (w1 := ?_) (by rfl) rfl ?_ ?_
  rotate_left
  ·go_simp
   rfl
  refine hK.out _ _ ⟨((cell_far (p := ⟨gb194, _, none⟩) NB177_194.out _).trans (((cell_far (p := ⟨gb194, _, none⟩) NB177_194.out _).trans (hHeld.1)))), ((cell_far (p := ⟨gb194, _, none⟩) NB177_194.out _).trans (((cell_far (p := ⟨gb194, _, none⟩) NB177_194.out _).trans (hHeld.2))))⟩ (fun hHeld => ?_)
  clear hK K
  refine done_ (done_of HT_.out (by kernel_rfl)) ?_
  have n0_ : Aside0 (Kd.R (Kd.int .i64) 3 ((w124.setCell ⟨gb194, 0, none⟩ (.slice Ao126 y185.length co126)).setCell ⟨gb194, 1, none⟩ (.slice Ao125 y191.length co125)) w.heap.size (fun k_ => some k_ ≠ (.slice Ao125 y191.length co125 : Value).ownBlock) (.slice Ao126 y185.length co126) y185) := ⟨by exact kr_ (Kd.R_mono (Kd.R_far (p := ⟨gb194, 1, none⟩) (Kd.R_far (p := ⟨gb194, 0, none⟩) (Kd.R_types HO187.out BK194.out (by decide)) (fun _ hk => hk.2) (.slice Ao126 y185.length co126)) (fun _ hk => hk.2) (.slice Ao125 y191.length co125)) (fun _ hk => hk.1))⟩
  have n1_ : Aside0 (Kd.R (Kd.int .i64) 3 ((w124.setCell ⟨gb194, 0, none⟩ (.slice Ao126 y185.length co126)).setCell ⟨gb194, 1, none⟩ (.slice Ao125 y191.length co125)) w.heap.size (fun k_ => some k_ ≠ (.slice Ao126 y185.length co126 : Value).ownBlock) (.slice Ao125 y191.length co125) y191) := ⟨by exact kr_ (Kd.R_mono (Kd.R_far (p := ⟨gb194, 1, none⟩) (Kd.R_far (p := ⟨gb194, 0, none⟩) (Kd.R_types HO193.out BK194.out (by decide)) (fun _ hk => hk.2) (.slice Ao126 y185.length co126)) (fun _ hk => hk.2) (.slice Ao125 y191.length co125)) (fun _ hk => hk.1))⟩
  have n2_ : Aside0 (((w124.setCell ⟨gb194, 0, none⟩ (.slice Ao126 y185.length co126)).setCell ⟨gb194, 1, none⟩ (.slice Ao125 y191.length co125)).heap[gb177]? = some (.cells #[.slice A0_0 l0_0.length c0_0, .slice A0_1 l0_1.length c0_1] 27 (0, 0))) := ⟨kz_⟩
  have n3_ : Aside0 (((w124.setCell ⟨gb194, 0, none⟩ (.slice Ao126 y185.length co126)).setCell ⟨gb194, 1, none⟩ (.slice Ao125 y191.length co125)).heap[gb178]? = some (.cells #[.slice none 0 0, .slice none 0 0] 27 (0, 0))) := ⟨kz_⟩
  have n4_ : Aside0 (((w124.setCell ⟨gb194, 0, none⟩ (.slice Ao126 y185.length co126)).setCell ⟨gb194, 1, none⟩ (.slice Ao125 y191.length co125)).heap[gb194]? = some (.cells #[.slice Ao126 y185.length co126, .slice Ao125 y191.length co125] 27 (0, 0))) := ⟨by (with_reducible repeat (first | refine blk_drewN ?_ _ | refine blk_drew ?_ | refine blk_alloc ?_ _)); refine blk_put (cs := #[.slice Ao126 y185.length co126, .slice none 0 0]) ?_ 1 _ rfl; (with_reducible repeat (first | refine blk_drewN ?_ _ | refine blk_drew ?_ | refine blk_alloc ?_ _)); refine blk_put (cs := #[.slice none 0 0, .slice none 0 0]) ?_ 0 _ rfl; exact kb_ BK194.out⟩
  have n5_ : Aside0 (Below w.heap.size w ((w124.setCell ⟨gb194, 0, none⟩ (.slice Ao126 y185.length co126)).setCell ⟨gb194, 1, none⟩ (.slice Ao125 y191.length co125))) := ⟨bl_⟩
  (try clear HO187)
  (try clear HO193)
  (try clear BK177)
  (try clear BK178)
  (try clear BK194)
  (try clear HB)
  generalize ((w124.setCell ⟨gb194, 0, none⟩ (.slice Ao126 y185.length co126)).setCell ⟨gb194, 1, none⟩ (.slice Ao125 y191.length co125)) = w129 at n0_ n1_ n2_ n3_ n4_ n5_ ⊢
  have HO187 := n0_
  have HO193 := n1_
  have BK177 := n2_
  have BK178 := n3_
  have BK194 := n4_
  have HB := n5_
  clear n0_ n1_ n2_ n3_ n4_ n5_
  have hnb130 := NB194_177.out
  have hnc130 := NB177_194.out
  have hnb131 := NB194_178.out
  have hnc131 := NB178_194.out
  have hcz132_0 : w129.cell? ⟨gb194, 0, none⟩ = some (.slice Ao126 y185.length co126) := bc_ BK194.out 0
  have hcz132_1 : w129.cell? ⟨gb194, 1, none⟩ = some (.slice Ao125 y191.length co125) := bc_ BK194.out 1
  have hfz132_0 := blk_frozen BK194.out 0
  have hfz132_1 := blk_frozen BK194.out 1
  have p198 : 0 ≤ (a1 : Int) := of_decide_eq_true (by first | (with_reducible assumption) | assumption)
  have q198 : a1 < (y191.length : Int) := of_decide_eq_true (by first | (with_reducible assumption) | assumption)
  obtain ⟨ad198, e198, hx198_0⟩ := Kd.at_int (Kd.R_reads' HO193.out).2.2 a1 p198 q198
  cases e198
  replace p198 := eq_true p198
  replace q198 := eq_true q198
  have p85 : 0 ≤ (a1 : Int) := of_decide_eq_true (by first | (with_reducible assumption) | assumption)
  have q85 : (a1 : Int) < ((y191.length : Int) : Int) := of_decide_eq_true (by first | (with_reducible assumption) | assumption)
  obtain ⟨go85, co85, eo85, gb85, gl85, cl85, HG85⟩ := Kd.R_form HO193.out (by omega)
  (first | cases eo85 | (injection eo85 with ea_ en_ ec_; (first | subst ea_ | (injection ea_ with ea_; subst ea_)); subst ec_; clear en_))
  have GB85 := Aside0.mk gb85
  have GG85 := Aside0.mk HG85
  clear gb85 gl85 HG85
  (first | simp only [add_plain] at hx198_0 | skip)
  obtain ⟨hx85_0, hf85_0⟩ := Kd.R_celln 0 HO193.out (a1 : Int) p85 q85
  replace p85 := eq_true p85
  replace q85 := eq_true q85
  obtain ⟨hy133_, hz133_⟩ := Kd.R_celln 0 HO193.out (a1 : Int) (of_decide_eq_true (by first | (with_reducible assumption) | assumption)) (of_decide_eq_true (by first | (with_reducible assumption) | assumption))
  have HP133 := Kd.R_putg HO193.out (a1 : Int) (wrap64 ((rd y191 a1) - a2))
  try go_wp2_with (first | ((with_reducible refine gate_store (t := 3) (p := 49) rfl ?_); refine store_event (t := 3) (p := 49) (v := ?vo_w134) (w1 := (w129.setCell ⟨go85, (a1 : Int).toNat, none⟩ (.int .i64 (wrap64 ((rd y191 a1) - a2))))) ?hg ?ho ?hn ?hr ?_; (case ho => rfl); (case hg => rfl); (case hn => rfl); (case hr => first | (go_simp; done) | (go_simp; rfl)); intro w134 hw; have hg : w129.grownBy w134 (some go85) := (by rw [hw]; exact HP133.2); have hp_ : Kd.R (Kd.int .i64) 3 w134 w.heap.size (fun k_ => some k_ ≠ (.slice Ao126 y185.length co126 : Value).ownBlock) (.slice (some ⟨go85, 0, none⟩) y191.length co125) y199 := (by rw [hw, Ny199.out]; exact HP133.1); clear HP133; replace BK177 := bgr_ BK177 hg HO193 BK177; replace BK178 := bgr_ BK178 hg HO193 BK178; replace HO187 := Aside0.mk (Kd.R_after (v := (.slice (some ⟨go85, 0, none⟩) y191.length co125)) (v1 := (.slice (some ⟨go85, 0, none⟩) y191.length co125)) (ok := (fun _ => True)) (by exact kr_ (Kd.R_mono HO187.out (fun _ hk => ⟨trivial, hk⟩))) hg (.inl rfl)); replace BK194 := bgr_ BK194 hg HO193 BK194; replace HO193 := Aside0.mk (hp_); replace HB := Aside0.mk ((by rw [hw]; exact below_set (HB.out) GB85.out : Below w.heap.size w w134)); clear hg hw hp_; have hcz135_0 : w134.cell? ⟨gb194, 0, none⟩ = some (.slice Ao126 y185.length co126) := bc_ BK194.out 0; have hcz135_1 : w134.cell? ⟨gb194, 1, none⟩ = some (.slice (some ⟨go85, 0, none⟩) y191.length co125) := bc_ BK194.out 1; have hfz135_0 := blk_frozen BK194.out 0; have hfz135_1 := blk_frozen BK194.out 1) | ((with_reducible refine gate_callee (f := 35) rfl ?_); refine goesL_ (some 51) rfl rfl Try.func35 (by kernel_rfl) rfl #[.agg #[.slice Ao126 y185.length co126, .slice (some ⟨go85, 0, none⟩) y199.length co125]] rfl (by (try simp only [List.map_toArray, List.map_cons, List.map_nil]); first | done | (rw [show y199.length = y191.length from (Kd.R_reads' HO193.out).1.symm] <;> rfl) | rfl | (simp only [List.length_drop, List.length_take]; rfl)) ?_; (with_reducible refine (impl_isCounter.calls _ _ y185 _ _ y199 false _ ?side1 ?side2 ?side3 ?side4 A86.out).mono ?_); (case side1 => exact kc_ (Kd.R_reads' HO187.out).2.2); (case side2 => exact (Kd.R_reads' HO187.out).2.1); (case side3 => exact kc_ (Kd.R_reads' HO193.out).2.2); (case side4 => rw [show y199.length = y191.length from (Kd.R_reads' HO193.out).1.symm]; exact (Kd.R_reads' HO193.out).2.1); rintro e w136 ⟨rfl, hb⟩; refine ⟨_, rfl, ?_⟩; replace HO187 := rb_ HO187 hb; replace HO193 := rb_ HO193 hb; replace BK177 := bb_ BK177 hb; replace BK178 := bb_ BK178 hb; replace BK194 := bb_ BK194 hb; replace HB := Aside0.mk (below_step bl_ hb); clear hb; have hnb137 := NB178_177.out; have hnc137 := NB177_178.out; have hcz138_0 : w136.cell? ⟨gb178, 0, none⟩ = some (.slice none 0 0) := bc_ BK178.out 0; have hcz138_1 : w136.cell? ⟨gb178, 1, none⟩ = some (.slice none 0 0) := bc_ BK178.out 1; have hfz138_0 := blk_frozen BK178.out 0; have hfz138_1 := blk_frozen BK178.out 1))
  refine bodyPost_ret (results_ct rfl _ _ gb178 27 #[.slice none 0 0, .slice none 0 0] (0, 0) _ rfl (by (with_reducible repeat (first | refine blk_drewN ?_ _ | refine blk_drew ?_ | refine blk_alloc ?_ _)); refine blk_put (cs := #[.slice none 0 0, .slice none 0 0]) ?_ 1 _ rfl; (with_reducible repeat (first | refine blk_drewN ?_ _ | refine blk_drew ?_ | refine blk_alloc ?_ _)); refine blk_put (cs := #[.slice none 0 0, .slice none 0 0]) ?_ 0 _ rfl; exact kb_ BK178.out) Try.underlying27 rfl (by kernel_rfl)) rfl ?_
  exact ⟨_, _, ng_, by first | exact Kd.R_nil _ _ _ _ _ | exact Kd.N_nil _ _ _ _ _ | exact Kd.V_nil _ _ _ _ _ | exact Kd.Q_nil _ _ _ _ _ | exact Kd.S_nil _ _ _ _ _, by first | exact Kd.R_nil _ _ _ _ _ | exact Kd.N_nil _ _ _ _ _ | exact Kd.V_nil _ _ _ _ _ | exact Kd.Q_nil _ _ _ _ _ | exact Kd.S_nil _ _ _ _ _, bl_⟩
 subst c87
 have H1 : (some (y185, y199, true)) = some (r1, r2, r3) := by rw [if_pos rfl] at H; exact H
 clear H
 have H := H1
 clear H1
 simp only [Option.some.injEq, Prod.mk.injEq] at H
 obtain ⟨rfl, rfl, rfl⟩ := H
 try go_wp2
 replace BK177 := Aside0.mk (blk_drew BK177.out)
 replace BK178 := Aside0.mk (blk_drew BK178.out)
 replace HB := Aside0.mk (below_drew1 HB.out)
 refine start_ (n := 11) (S := fun w' => w'.cell? ⟨gb177, 0, none⟩ = some (.slice A0_0 l0_0.length c0_0) ∧ w'.cell? ⟨gb177, 1, none⟩ = some (.slice A0_1 l0_1.length c0_1)) (ds := []) #[false, false, false, false, false, false, false, false, false, false, false] (by kernel_rfl) rfl rfl ⟨bc_ BK177.out 0, bc_ BK177.out 1⟩ (fun hHeld => ?_); refine with_tabW impl_CountBy.tab3 impl_CountBy.bits3 (fun HT_ HW_ => ?_)
 generalize wc.drew = w88 at BK177 BK178 HB hHeld ⊢
 refine pu_ 1 (some 24) (h := ?_)
 refine pu_ 5 (some 28) (h := ?_)
 refine tk2_ 2 (some 25) (h := ?_)
 refine tk2_ 6 (some 29) (h := ?_)
 refine join_ (σ := Value × Value × Value × Value × Nat) 1 #[true, true, true, true, true, true, true, true, true, true, false] (fun s_ => [(23, s_.1), (26, s_.2.1), (27, s_.2.2.1), (30, s_.2.2.2.1), (8, .pointer (some ⟨s_.2.2.2.2, 0, none⟩)), (31, .agg #[s_.2.1, s_.2.2.2.1])]) (fun s_ w' => (w'.cell? ⟨gb177, 0, none⟩ = some (.slice A0_0 l0_0.length c0_0) ∧ w'.cell? ⟨gb177, 1, none⟩ = some (.slice A0_1 l0_1.length c0_1)) ∧ (Kd.R (Kd.int .i64) 3 w' w.heap.size (fun k_ => some k_ ≠ (s_.2.2.2.1 : Value).ownBlock) s_.2.1 y185) ∧ (Kd.R (Kd.int .i64) 3 w' w.heap.size (fun k_ => some k_ ≠ (s_.2.1 : Value).ownBlock) s_.2.2.2.1 y191) ∧ (w'.heap[gb177]? = some (.cells #[.slice A0_0 l0_0.length c0_0, .slice A0_1 l0_1.length c0_1] 27 (0, 0))) ∧ (w'.heap[gb178]? = some (.cells #[.slice none 0 0, .slice none 0 0] 27 (0, 0))) ∧ (w'.heap[s_.2.2.2.2]? = some (.cells #[.slice none 0 0, .slice none 0 0] 27 (0, 0))) ∧ (w.heap.size ≤ s_.2.2.2.2) ∧ (w.heap.size ≤ s_.2.2.2.2) ∧ (gb177 ≠ s_.2.2.2.2) ∧ (s_.2.2.2.2 ≠ gb177) ∧ (gb178 ≠ s_.2.2.2.2) ∧ (s_.2.2.2.2 ≠ gb178) ∧ (Below w.heap.size w w')) ?_ ?_
 rotate_left
 ·intro hJ0_3_4_7_9
  refine join_ (σ := Value × Value × Value × Value) 2 #[true, true, true, true, true, true, true, true, true, false, false] (fun s_ => [(23, s_.1), (26, s_.2.1), (27, s_.2.2.1), (30, s_.2.2.2), (31, .agg #[s_.2.1, s_.2.2.2])]) (fun s_ w' => (w'.cell? ⟨gb177, 0, none⟩ = some (.slice A0_0 l0_0.length c0_0) ∧ w'.cell? ⟨gb177, 1, none⟩ = some (.slice A0_1 l0_1.length c0_1)) ∧ (Kd.R (Kd.int .i64) 3 w' w.heap.size (fun k_ => some k_ ≠ (s_.2.2.2 : Value).ownBlock) s_.2.1 y185) ∧ (Kd.R (Kd.int .i64) 3 w' w.heap.size (fun k_ => some k_ ≠ (s_.2.1 : Value).ownBlock) s_.2.2.2 y191) ∧ (w'.heap[gb177]? = some (.cells #[.slice A0_0 l0_0.length c0_0, .slice A0_1 l0_1.length c0_1] 27 (0, 0))) ∧ (w'.heap[gb178]? = some (.cells #[.slice none 0 0, .slice none 0 0] 27 (0, 0))) ∧ (Below w.heap.size w w')) ?_ ?_
  rotate_left
  ·intro hJ0_3_4_7
   refine join_ (σ := Value × Value × Value × Nat) 3 #[true, true, true, true, true, true, true, false, false, true, false] (fun s_ => [(23, s_.1), (26, s_.2.1), (27, s_.2.2.1), (8, .pointer (some ⟨s_.2.2.2, 0, none⟩))]) (fun s_ w' => (w'.cell? ⟨gb177, 0, none⟩ = some (.slice A0_0 l0_0.length c0_0) ∧ w'.cell? ⟨gb177, 1, none⟩ = some (.slice A0_1 l0_1.length c0_1)) ∧ (Kd.R (Kd.int .i64) 3 w' w.heap.size (fun k_ => some k_ ≠ (s_.2.2.1 : Value).ownBlock) s_.2.1 y185) ∧ (Kd.R (Kd.int .i64) 3 w' w.heap.size (fun k_ => some k_ ≠ (s_.2.1 : Value).ownBlock) s_.2.2.1 y188) ∧ (w'.heap[gb177]? = some (.cells #[.slice A0_0 l0_0.length c0_0, .slice A0_1 l0_1.length c0_1] 27 (0, 0))) ∧ (w'.heap[gb178]? = some (.cells #[.slice none 0 0, .slice none 0 0] 27 (0, 0))) ∧ (w'.heap[s_.2.2.2]? = some (.cells #[.slice none 0 0, .slice none 0 0] 27 (0, 0))) ∧ (w.heap.size ≤ s_.2.2.2) ∧ (w.heap.size ≤ s_.2.2.2) ∧ (gb177 ≠ s_.2.2.2) ∧ (s_.2.2.2 ≠ gb177) ∧ (gb178 ≠ s_.2.2.2) ∧ (s_.2.2.2 ≠ gb178) ∧ (Below w.heap.size w w')) ?_ ?_
   rotate_left
   ·intro hJ0_3_4_9
    refine join_ (σ := Value × Value × Value) 4 #[true, true, true, true, true, true, true, false, false, false, false] (fun s_ => [(23, s_.1), (26, s_.2.1), (27, s_.2.2)]) (fun s_ w' => (w'.cell? ⟨gb177, 0, none⟩ = some (.slice A0_0 l0_0.length c0_0) ∧ w'.cell? ⟨gb177, 1, none⟩ = some (.slice A0_1 l0_1.length c0_1)) ∧ (Kd.R (Kd.int .i64) 3 w' w.heap.size (fun k_ => some k_ ≠ (s_.2.2 : Value).ownBlock) s_.2.1 y185) ∧ (Kd.R (Kd.int .i64) 3 w' w.heap.size (fun k_ => some k_ ≠ (s_.2.1 : Value).ownBlock) s_.2.2 y188) ∧ (w'.heap[gb177]? = some (.cells #[.slice A0_0 l0_0.length c0_0, .slice A0_1 l0_1.length c0_1] 27 (0, 0))) ∧ (w'.heap[gb178]? = some (.cells #[.slice none 0 0, .slice none 0 0] 27 (0, 0))) ∧ (Below w.heap.size w w')) ?_ ?_
    rotate_left
    ·intro hJ0_3_4
     refine join_ (σ := Value × Value × Nat) 4 #[true, true, true, true, false, true, true, false, false, true, false] (fun s_ => [(23, s_.1), (26, s_.2.1), (8, .pointer (some ⟨s_.2.2, 0, none⟩))]) (fun s_ w' => (w'.cell? ⟨gb177, 0, none⟩ = some (.slice A0_0 l0_0.length c0_0) ∧ w'.cell? ⟨gb177, 1, none⟩ = some (.slice A0_1 l0_1.length c0_1)) ∧ (Kd.R (Kd.int .i64) 3 w' w.heap.size (fun _ => True) s_.2.1 y185) ∧ (w'.heap[gb177]? = some (.cells #[.slice A0_0 l0_0.length c0_0, .slice A0_1 l0_1.length c0_1] 27 (0, 0))) ∧ (w'.heap[gb178]? = some (.cells #[.slice none 0 0, .slice none 0 0] 27 (0, 0))) ∧ (w'.heap[s_.2.2]? = some (.cells #[.slice none 0 0, .slice none 0 0] 27 (0, 0))) ∧ (w.heap.size ≤ s_.2.2) ∧ (w.heap.size ≤ s_.2.2) ∧ (gb177 ≠ s_.2.2) ∧ (s_.2.2 ≠ gb177) ∧ (gb178 ≠ s_.2.2) ∧ (s_.2.2 ≠ gb178) ∧ (Below w.heap.size w w')) ?_ ?_
     rotate_left
     ·intro hJ0_3_9
      refine join_ (σ := Value × Value × Nat) 4 #[true, true, true, false, true, true, true, false, false, true, false] (fun s_ => [(23, s_.1), (27, s_.2.1), (8, .pointer (some ⟨s_.2.2, 0, none⟩))]) (fun s_ w' => (w'.cell? ⟨gb177, 0, none⟩ = some (.slice A0_0 l0_0.length c0_0) ∧ w'.cell? ⟨gb177, 1, none⟩ = some (.slice A0_1 l0_1.length c0_1)) ∧ (Kd.R (Kd.int .i64) 3 w' w.heap.size (fun k_ => some k_ ≠ (s_.2.1 : Value).ownBlock) s_.1 y182) ∧ (Kd.R (Kd.int .i64) 3 w' w.heap.size (fun k_ => some k_ ≠ (s_.1 : Value).ownBlock) s_.2.1 y188) ∧ (w'.heap[gb177]? = some (.cells #[.slice A0_0 l0_0.length c0_0, .slice A0_1 l0_1.length c0_1] 27 (0, 0))) ∧ (w'.heap[gb178]? = some (.cells #[.slice none 0 0, .slice none 0 0] 27 (0, 0))) ∧ (w'.heap[s_.2.2]? = some (.cells #[.slice none 0 0, .slice none 0 0] 27 (0, 0))) ∧ (w.heap.size ≤ s_.2.2) ∧ (w.heap.size ≤ s_.2.2) ∧ (gb177 ≠ s_.2.2) ∧ (s_.2.2 ≠ gb177) ∧ (gb178 ≠ s_.2.2) ∧ (s_.2.2 ≠ gb178) ∧ (Below w.heap.size w w')) ?_ ?_
      rotate_left
      ·intro hJ0_4_9
       refine join_ (σ := Value × Value) 5 #[true, true, true, true, false, true, true, false, false, false, false] (fun s_ => [(23, s_.1), (26, s_.2)]) (fun s_ w' => (w'.cell? ⟨gb177, 0, none⟩ = some (.slice A0_0 l0_0.length c0_0) ∧ w'.cell? ⟨gb177, 1, none⟩ = some (.slice A0_1 l0_1.length c0_1)) ∧ (Kd.R (Kd.int .i64) 3 w' w.heap.size (fun _ => True) s_.2 y185) ∧ (w'.heap[gb177]? = some (.cells #[.slice A0_0 l0_0.length c0_0, .slice A0_1 l0_1.length c0_1] 27 (0, 0))) ∧ (w'.heap[gb178]? = some (.cells #[.slice none 0 0, .slice none 0 0] 27 (0, 0))) ∧ (Below w.heap.size w w')) ?_ ?_
       rotate_left
       ·intro hJ0_3
        refine join_ (σ := Value × Value) 5 #[true, true, true, false, true, true, true, false, false, false, false] (fun s_ => [(23, s_.1), (27, s_.2)]) (fun s_ w' => (w'.cell? ⟨gb177, 0, none⟩ = some (.slice A0_0 l0_0.length c0_0) ∧ w'.cell? ⟨gb177, 1, none⟩ = some (.slice A0_1 l0_1.length c0_1)) ∧ (Kd.R (Kd.int .i64) 3 w' w.heap.size (fun k_ => some k_ ≠ (s_.2 : Value).ownBlock) s_.1 y182) ∧ (Kd.R (Kd.int .i64) 3 w' w.heap.size (fun k_ => some k_ ≠ (s_.1 : Value).ownBlock) s_.2 y188) ∧ (w'.heap[gb177]? = some (.cells #[.slice A0_0 l0_0.length c0_0, .slice A0_1 l0_1.length c0_1] 27 (0, 0))) ∧ (w'.heap[gb178]? = some (.cells #[.slice none 0 0, .slice none 0 0] 27 (0, 0))) ∧ (Below w.heap.size w w')) ?_ ?_
        rotate_left
        ·intro hJ0_4
         refine join_ (σ := Value × Nat) 5 #[true, true, true, false, false, true, true, false, false, true, false] (fun s_ => [(23, s_.1), (8, .pointer (some ⟨s_.2, 0, none⟩))]) (fun s_ w' => (w'.cell? ⟨gb177, 0, none⟩ = some (.slice A0_0 l0_0.length c0_0) ∧ w'.cell? ⟨gb177, 1, none⟩ = some (.slice A0_1 l0_1.length c0_1)) ∧ (Kd.R (Kd.int .i64) 3 w' w.heap.size (fun _ => True) s_.1 y182) ∧ (w'.heap[gb177]? = some (.cells #[.slice A0_0 l0_0.length c0_0, .slice A0_1 l0_1.length c0_1] 27 (0, 0))) ∧ (w'.heap[gb178]? = some (.cells #[.slice none 0 0, .slice none 0 0] 27 (0, 0))) ∧ (w'.heap[s_.2]? = some (.cells #[.slice none 0 0, .slice none 0 0] 27 (0, 0))) ∧ (w.heap.size ≤ s_.2) ∧ (w.heap.size ≤ s_.2) ∧ (gb177 ≠ s_.2) ∧ (s_.2 ≠ gb177) ∧ (gb178 ≠ s_.2) ∧ (s_.2 ≠ gb178) ∧ (Below w.heap.size w w')) ?_ ?_
         rotate_left
         ·intro hJ0_9
          refine join_ (σ := Value × Nat) 5 #[false, true, true, false, true, true, true, false, false, true, false] (fun s_ => [(27, s_.1), (8, .pointer (some ⟨s_.2, 0, none⟩))]) (fun s_ w' => (w'.cell? ⟨gb177, 0, none⟩ = some (.slice A0_0 l0_0.length c0_0) ∧ w'.cell? ⟨gb177, 1, none⟩ = some (.slice A0_1 l0_1.length c0_1)) ∧ (Kd.R (Kd.int .i64) 3 w' w.heap.size (fun _ => True) s_.1 y188) ∧ (w'.heap[gb177]? = some (.cells #[.slice A0_0 l0_0.length c0_0, .slice A0_1 l0_1.length c0_1] 27 (0, 0))) ∧ (w'.heap[gb178]? = some (.cells #[.slice none 0 0, .slice none 0 0] 27 (0, 0))) ∧ (w'.heap[s_.2]? = some (.cells #[.slice none 0 0, .slice none 0 0] 27 (0, 0))) ∧ (w.heap.size ≤ s_.2) ∧ (w.heap.size ≤ s_.2) ∧ (gb177 ≠ s_.2) ∧ (s_.2 ≠ gb177) ∧ (gb178 ≠ s_.2) ∧ (s_.2 ≠ gb178) ∧ (Below w.heap.size w w')) ?_ ?_
          rotate_left
          ·intro hJ4_9
           refine join_ (σ := Value) 6 #[true, true, true, false, false, true, true, false, false, false, false] (fun s_ => [(23, s_)]) (fun s_ w' => (w'.cell? ⟨gb177, 0, none⟩ = some (.slice A0_0 l0_0.length c0_0) ∧ w'.cell? ⟨gb177, 1, none⟩ = some (.slice A0_1 l0_1.length c0_1)) ∧ (Kd.R (Kd.int .i64) 3 w' w.heap.size (fun _ => True) s_ y182) ∧ (w'.heap[gb177]? = some (.cells #[.slice A0_0 l0_0.length c0_0, .slice A0_1 l0_1.length c0_1] 27 (0, 0))) ∧ (w'.heap[gb178]? = some (.cells #[.slice none 0 0, .slice none 0 0] 27 (0, 0))) ∧ (Below w.heap.size w w')) ?_ ?_
           rotate_left
           ·intro hJ0
            refine join_ (σ := Value) 6 #[false, true, true, false, true, true, true, false, false, false, false] (fun s_ => [(27, s_)]) (fun s_ w' => (w'.cell? ⟨gb177, 0, none⟩ = some (.slice A0_0 l0_0.length c0_0) ∧ w'.cell? ⟨gb177, 1, none⟩ = some (.slice A0_1 l0_1.length c0_1)) ∧ (Kd.R (Kd.int .i64) 3 w' w.heap.size (fun _ => True) s_ y188) ∧ (w'.heap[gb177]? = some (.cells #[.slice A0_0 l0_0.length c0_0, .slice A0_1 l0_1.length c0_1] 27 (0, 0))) ∧ (w'.heap[gb178]? = some (.cells #[.slice none 0 0, .slice none 0 0] 27 (0, 0))) ∧ (Below w.heap.size w w')) ?_ ?_
            rotate_left
            ·intro hJ4
             refine join_ (σ := Nat) 6 #[false, true, true, false, false, true, true, false, false, true, false] (fun s_ => [(8, .pointer (some ⟨s_, 0, none⟩))]) (fun s_ w' => (w'.cell? ⟨gb177, 0, none⟩ = some (.slice A0_0 l0_0.length c0_0) ∧ w'.cell? ⟨gb177, 1, none⟩ = some (.slice A0_1 l0_1.length c0_1)) ∧ (w'.heap[gb177]? = some (.cells #[.slice A0_0 l0_0.length c0_0, .slice A0_1 l0_1.length c0_1] 27 (0, 0))) ∧ (w'.heap[gb178]? = some (.cells #[.slice none 0 0, .slice none 0 0] 27 (0, 0))) ∧ (w'.heap[s_]? = some (.cells #[.slice none 0 0, .slice none 0 0] 27 (0, 0))) ∧ (w.heap.size ≤ s_) ∧ (w.heap.size ≤ s_) ∧ (gb177 ≠ s_) ∧ (s_ ≠ gb177) ∧ (gb178 ≠ s_) ∧ (s_ ≠ gb178) ∧ (Below w.heap.size w w')) ?_ ?_
             rotate_left
             ·intro hJ9
              refine th_ 0 4 9 (some 23) (some 27) (some 8) (h1 := fun K hK => ?_) (h2 := fun K hK => ?_) (h3 := fun K hK => ?_)
              ·skip
               refine Kd.R_lit_step (Kd.int .i64) _ 3 rfl (N := 23) rfl (xs := ([] : List Int)) (inner := []) (ok := fun _ => True) (okp := fun _ => True) gs_ ?hp (fun _ hk => hk) trivial (Below.refl _ _) (Nat.le_refl _) (by simp) ?_; (case hp => exact (Reps.none _ _))
               intro v183 w89 ho90 hb hg_ hnew_
               clear hg_ hnew_
               (first | rw [← Ny182.out] at ho90 | (simp only [Int.reduceToNat] at ho90; rw [← Ny182.out] at ho90))
               have HO184 := Aside0.mk (Kd.R_lower ho90 bz_)
               replace BK177 := bb_ BK177 hb
               replace BK178 := bb_ BK178 hb
               replace HB := Aside0.mk (below_step bl_ hb)
               clear hb ho90
               refine hK.out _ _ ⟨bc_ BK177.out 0, bc_ BK177.out 1⟩ (fun hHeld => ?_)
               clear hK K
               refine norm_ nn_ ?_
               exact norm_ nq_ (hJ0 (v183) _ ⟨hHeld, kr_ HO184.out, kb_ BK177.out, kb_ BK178.out, bl_⟩)
              ·skip
               refine Kd.R_lit_step (Kd.int .i64) _ 3 rfl (N := 27) rfl (xs := ([] : List Int)) (inner := []) (ok := fun _ => True) (okp := fun _ => True) gs_ ?hp (fun _ hk => hk) trivial (Below.refl _ _) (Nat.le_refl _) (by simp) ?_; (case hp => exact (Reps.none _ _))
               intro v189 w89 ho90 hb hg_ hnew_
               clear hg_ hnew_
               (first | rw [← Ny188.out] at ho90 | (simp only [Int.reduceToNat] at ho90; rw [← Ny188.out] at ho90))
               have HO190 := Aside0.mk (Kd.R_lower ho90 bz_)
               replace BK177 := bb_ BK177 hb
               replace BK178 := bb_ BK178 hb
               replace HB := Aside0.mk (below_step bl_ hb)
               clear hb ho90
               refine hK.out _ _ ⟨bc_ BK177.out 0, bc_ BK177.out 1⟩ (fun hHeld => ?_)
               clear hK K
               refine norm_ nn_ ?_
               exact norm_ nq_ (hJ4 (v189) _ ⟨hHeld, kr_ HO190.out, kb_ BK177.out, kb_ BK178.out, bl_⟩)
              ·skip
               refine box_step rfl (N := 8) rfl (cs := #[.slice none 0 0, .slice none 0 0]) (t := 27) gs_ ?_
               intro gb194 hg w89 hbox hb
               have BK194 := Aside0.mk (hbox)
               have GW194 := Aside0.mk ((by rw [hg]; exact bz_ : w.heap.size ≤ gb194))
               have GE194 := GW194
               replace HB := Aside0.mk (below_step bl_ hb)
               have NB177_194 := nl_ hg BK177
               have NB194_177 := nm_ hg BK177
               replace BK177 := bb_ BK177 hb
               have NB178_194 := nl_ hg BK178
               have NB194_178 := nm_ hg BK178
               replace BK178 := bb_ BK178 hb
               clear hb hbox hg
               refine hK.out _ _ ⟨bc_ BK177.out 0, bc_ BK177.out 1⟩ (fun hHeld => ?_)
               clear hK K
               refine norm_ nn_ ?_
               exact norm_ nq_ (hJ9 (gb194) _ ⟨hHeld, kb_ BK177.out, kb_ BK178.out, kb_ BK194.out, GW194.out, GE194.out, NB177_194.out, NB194_177.out, NB178_194.out, NB194_178.out, bl_⟩)
             ·skip
              rintro gb194 w90 ⟨hS_, h0_, h1_, h2_, h3_, h4_, h5_, h6_, h7_, h8_, h9_⟩
              try dsimp only at h0_ h1_ h2_ h3_ h4_ h5_ h6_ h7_ h8_ h9_
              replace BK177 := Aside0.mk h0_
              replace BK178 := Aside0.mk h1_
              have BK194 := Aside0.mk h2_
              have GW194 := Aside0.mk h3_
              have GE194 := Aside0.mk h4_
              have NB177_194 := Aside0.mk h5_
              have NB194_177 := Aside0.mk h6_
              have NB178_194 := Aside0.mk h7_
              have NB194_178 := Aside0.mk h8_
              replace HB := Aside0.mk h9_
              clear h0_ h1_ h2_ h3_ h4_ h5_ h6_ h7_ h8_ h9_
              try dsimp only at hS_
              have hHeld := hS_
              refine norm_ np_ ?_
              refine tw_ 0 4 (some 23) (some 27) (h1 := fun K hK => ?_) (h2 := fun K hK => ?_)
              ·skip
               refine Kd.R_lit_step (Kd.int .i64) _ 3 rfl (N := 23) rfl (xs := ([] : List Int)) (inner := []) (ok := fun _ => True) (okp := fun _ => True) gs_ ?hp (fun _ hk => hk) trivial (Below.refl _ _) (Nat.le_refl _) (by simp) ?_; (case hp => exact (Reps.none _ _))
               intro v183 w91 ho92 hb hg_ hnew_
               clear hg_ hnew_
               (first | rw [← Ny182.out] at ho92 | (simp only [Int.reduceToNat] at ho92; rw [← Ny182.out] at ho92))
               have HO184 := Aside0.mk (Kd.R_lower ho92 bz_)
               replace BK177 := bb_ BK177 hb
               replace BK178 := bb_ BK178 hb
               replace BK194 := bb_ BK194 hb
               replace HB := Aside0.mk (below_step bl_ hb)
               clear hb ho92
               refine hK.out _ _ ⟨bc_ BK177.out 0, bc_ BK177.out 1⟩ (fun hHeld => ?_)
               clear hK K
               refine norm_ nn_ ?_
               exact norm_ nq_ (hJ0_9 (v183, gb194) _ ⟨hHeld, kr_ HO184.out, kb_ BK177.out, kb_ BK178.out, kb_ BK194.out, GW194.out, GE194.out, NB177_194.out, NB194_177.out, NB178_194.out, NB194_178.out, bl_⟩)
              ·skip
               refine Kd.R_lit_step (Kd.int .i64) _ 3 rfl (N := 27) rfl (xs := ([] : List Int)) (inner := []) (ok := fun _ => True) (okp := fun _ => True) gs_ ?hp (fun _ hk => hk) trivial (Below.refl _ _) (Nat.le_refl _) (by simp) ?_; (case hp => exact (Reps.none _ _))
               intro v189 w91 ho92 hb hg_ hnew_
               clear hg_ hnew_
               (first | rw [← Ny188.out] at ho92 | (simp only [Int.reduceToNat] at ho92; rw [← Ny188.out] at ho92))
               have HO190 := Aside0.mk (Kd.R_lower ho92 bz_)
               replace BK177 := bb_ BK177 hb
               replace BK178 := bb_ BK178 hb
               replace BK194 := bb_ BK194 hb
               replace HB := Aside0.mk (below_step bl_ hb)
               clear hb ho92
               refine hK.out _ _ ⟨bc_ BK177.out 0, bc_ BK177.out 1⟩ (fun hHeld => ?_)
               clear hK K
               refine norm_ nn_ ?_
               exact norm_ nq_ (hJ4_9 (v189, gb194) _ ⟨hHeld, kr_ HO190.out, kb_ BK177.out, kb_ BK178.out, kb_ BK194.out, GW194.out, GE194.out, NB177_194.out, NB194_177.out, NB178_194.out, NB194_178.out, bl_⟩)
            ·skip
             rintro v189 w91 ⟨hS_, h0_, h1_, h2_, h3_⟩
             try dsimp only at h0_ h1_ h2_ h3_
             have HO190 := Aside0.mk h0_
             replace BK177 := Aside0.mk h1_
             replace BK178 := Aside0.mk h2_
             replace HB := Aside0.mk h3_
             clear h0_ h1_ h2_ h3_
             try dsimp only at hS_
             have hHeld := hS_
             refine norm_ np_ ?_
             refine tw_ 0 9 (some 23) (some 8) (h1 := fun K hK => ?_) (h2 := fun K hK => ?_)
             ·skip
              refine Kd.R_lit_step (Kd.int .i64) _ 3 rfl (N := 23) rfl (xs := ([] : List Int)) (inner := []) (ok := fun _ => True) (okp := fun _ => True) gs_ ?hp (fun _ hk => hk) trivial (Below.refl _ _) (Nat.le_refl _) (by simp) ?_; (case hp => exact (Reps.none _ _))
              intro v183 w92 ho93 hb hg_ hnew_
              clear hg_ hnew_
              (first | rw [← Ny182.out] at ho93 | (simp only [Int.reduceToNat] at ho93; rw [← Ny182.out] at ho93))
              have HO184 := Aside0.mk (Kd.R_lower (rn_ ho93 HO190.out) bz_)
              replace HO190 := Aside0.mk (Kd.R_elder' (kr_ HO190.out) (Kd.R_base ho93) hb)
              replace BK177 := bb_ BK177 hb
              replace BK178 := bb_ BK178 hb
              replace HB := Aside0.mk (below_step bl_ hb)
              clear hb ho93
              refine hK.out _ _ ⟨bc_ BK177.out 0, bc_ BK177.out 1⟩ (fun hHeld => ?_)
              clear hK K
              refine norm_ nn_ ?_
              exact norm_ nq_ (hJ0_4 (v183, v189) _ ⟨hHeld, kp_ HO184.out, kp_ HO190.out, kb_ BK177.out, kb_ BK178.out, bl_⟩)
             ·skip
              refine box_step rfl (N := 8) rfl (cs := #[.slice none 0 0, .slice none 0 0]) (t := 27) gs_ ?_
              intro gb194 hg w92 hbox hb
              replace HO190 := rb_ HO190 hb
              have BK194 := Aside0.mk (hbox)
              have GW194 := Aside0.mk ((by rw [hg]; exact bz_ : w.heap.size ≤ gb194))
              have GE194 := GW194
              replace HB := Aside0.mk (below_step bl_ hb)
              have NB177_194 := nl_ hg BK177
              have NB194_177 := nm_ hg BK177
              replace BK177 := bb_ BK177 hb
              have NB178_194 := nl_ hg BK178
              have NB194_178 := nm_ hg BK178
              replace BK178 := bb_ BK178 hb
              clear hb hbox hg
              refine hK.out _ _ ⟨bc_ BK177.out 0, bc_ BK177.out 1⟩ (fun hHeld => ?_)
              clear hK K
              refine norm_ nn_ ?_
              exact norm_ nq_ (hJ4_9 (v189, gb194) _ ⟨hHeld, kr_ HO190.out, kb_ BK177.out, kb_ BK178.out, kb_ BK194.out, GW194.out, GE194.out, NB177_194.out, NB194_177.out, NB178_194.out, NB194_178.out, bl_⟩)
           ·skip
            rintro v183 w91 ⟨hS_, h0_, h1_, h2_, h3_⟩
            try dsimp only at h0_ h1_ h2_ h3_
            have HO184 := Aside0.mk h0_
            replace BK177 := Aside0.mk h1_
            replace BK178 := Aside0.mk h2_
            replace HB := Aside0.mk h3_
            clear h0_ h1_ h2_ h3_
            try dsimp only at hS_
            have hHeld := hS_
            refine norm_ np_ ?_
            refine th_ 3 4 9 (some 26) (some 27) (some 8) (h1 := fun K hK => ?_) (h2 := fun K hK => ?_) (h3 := fun K hK => ?_)
            ·skip
             refine Kd.R_append_rows_step (Kd.int .i64) (w0 := w) w.heap.size (by rfl) (.tmp 23) (.tmp 25) 22 3 (.int .i64 0) 8 rfl Try.underlying22 info3 rfl (by decide) (by omega) v183 y182 l0_0 _ _ _ (fun _ => True) (fun _ => False) rfl rfl ?aO ?aR (fun _ _ h => h) (fun _ h => h.elim) ?aF ?aB ?aS ?aL ?_
             (case aR => exact kc_ (Kd.C_below HR0_0.out HB.out))
             (case aB => exact bl_)
             (case aF => exact (fun _ _ => trivial))
             (case aO => exact (kr_ HO184.out))
             (case aS => exact bz_)
             (case aL => have := LMc24.out; omega)
             intro v186 w92 ho hb hg hat
             rw [← Ny185.out] at ho
             replace BK177 := bgr_ BK177 hg HO184 BK177
             replace BK178 := bgr_ BK178 hg HO184 BK178
             replace HB := Aside0.mk (hb)
             have HO187 := Aside0.mk (ho)
             clear HO184 ho hb hg hat
             refine hK.out _ _ ⟨bc_ BK177.out 0, bc_ BK177.out 1⟩ (fun hHeld => ?_)
             clear hK K
             refine norm_ nn_ ?_
             exact norm_ nq_ (hJ0_3 (v183, v186) _ ⟨hHeld, kr_ HO187.out, kb_ BK177.out, kb_ BK178.out, bl_⟩)
            ·skip
             refine Kd.R_lit_step (Kd.int .i64) _ 3 rfl (N := 27) rfl (xs := ([] : List Int)) (inner := []) (ok := fun _ => True) (okp := fun _ => True) gs_ ?hp (fun _ hk => hk) trivial (Below.refl _ _) (Nat.le_refl _) (by simp) ?_; (case hp => exact (Reps.none _ _))
             intro v189 w92 ho93 hb hg_ hnew_
             clear hg_ hnew_
             (first | rw [← Ny188.out] at ho93 | (simp only [Int.reduceToNat] at ho93; rw [← Ny188.out] at ho93))
             have HO190 := Aside0.mk (Kd.R_lower (rn_ ho93 HO184.out) bz_)
             replace HO184 := Aside0.mk (Kd.R_elder' (kr_ HO184.out) (Kd.R_base ho93) hb)
             replace BK177 := bb_ BK177 hb
             replace BK178 := bb_ BK178 hb
             replace HB := Aside0.mk (below_step bl_ hb)
             clear hb ho93
             refine hK.out _ _ ⟨bc_ BK177.out 0, bc_ BK177.out 1⟩ (fun hHeld => ?_)
             clear hK K
             refine norm_ nn_ ?_
             exact norm_ nq_ (hJ0_4 (v183, v189) _ ⟨hHeld, kp_ HO184.out, kp_ HO190.out, kb_ BK177.out, kb_ BK178.out, bl_⟩)
            ·skip
             refine box_step rfl (N := 8) rfl (cs := #[.slice none 0 0, .slice none 0 0]) (t := 27) gs_ ?_
             intro gb194 hg w92 hbox hb
             replace HO184 := rb_ HO184 hb
             have BK194 := Aside0.mk (hbox)
             have GW194 := Aside0.mk ((by rw [hg]; exact bz_ : w.heap.size ≤ gb194))
             have GE194 := GW194
             replace HB := Aside0.mk (below_step bl_ hb)
             have NB177_194 := nl_ hg BK177
             have NB194_177 := nm_ hg BK177
             replace BK177 := bb_ BK177 hb
             have NB178_194 := nl_ hg BK178
             have NB194_178 := nm_ hg BK178
             replace BK178 := bb_ BK178 hb
             clear hb hbox hg
             refine hK.out _ _ ⟨bc_ BK177.out 0, bc_ BK177.out 1⟩ (fun hHeld => ?_)
             clear hK K
             refine norm_ nn_ ?_
             exact norm_ nq_ (hJ0_9 (v183, gb194) _ ⟨hHeld, kr_ HO184.out, kb_ BK177.out, kb_ BK178.out, kb_ BK194.out, GW194.out, GE194.out, NB177_194.out, NB194_177.out, NB178_194.out, NB194_178.out, bl_⟩)
          ·skip
           rintro ⟨v189, gb194⟩ w92 ⟨hS_, h0_, h1_, h2_, h3_, h4_, h5_, h6_, h7_, h8_, h9_, h10_⟩
           dsimp only at h0_ h1_ h2_ h3_ h4_ h5_ h6_ h7_ h8_ h9_ h10_
           have HO190 := Aside0.mk h0_
           replace BK177 := Aside0.mk h1_
           replace BK178 := Aside0.mk h2_
           have BK194 := Aside0.mk h3_
           have GW194 := Aside0.mk h4_
           have GE194 := Aside0.mk h5_
           have NB177_194 := Aside0.mk h6_
           have NB194_177 := Aside0.mk h7_
           have NB178_194 := Aside0.mk h8_
           have NB194_178 := Aside0.mk h9_
           replace HB := Aside0.mk h10_
           clear h0_ h1_ h2_ h3_ h4_ h5_ h6_ h7_ h8_ h9_ h10_
           try dsimp only at hS_
           have hHeld := hS_
           refine norm_ np_ ?_
           refine on_ 0 (some 23) (h := fun K hK => ?_)
           refine Kd.R_lit_step (Kd.int .i64) _ 3 rfl (N := 23) rfl (xs := ([] : List Int)) (inner := []) (ok := fun _ => True) (okp := fun _ => True) gs_ ?hp (fun _ hk => hk) trivial (Below.refl _ _) (Nat.le_refl _) (by simp) ?_; (case hp => exact (Reps.none _ _))
           intro v183 w93 ho94 hb hg_ hnew_
           clear hg_ hnew_
           (first | rw [← Ny182.out] at ho94 | (simp only [Int.reduceToNat] at ho94; rw [← Ny182.out] at ho94))
           have HO184 := Aside0.mk (Kd.R_lower (rn_ ho94 HO190.out) bz_)
           replace HO190 := Aside0.mk (Kd.R_elder' (kr_ HO190.out) (Kd.R_base ho94) hb)
           replace BK177 := bb_ BK177 hb
           replace BK178 := bb_ BK178 hb
           replace BK194 := bb_ BK194 hb
           replace HB := Aside0.mk (below_step bl_ hb)
           clear hb ho94
           refine hK.out _ _ ⟨bc_ BK177.out 0, bc_ BK177.out 1⟩ (fun hHeld => ?_)
           clear hK K
           refine norm_ nn_ ?_
           exact norm_ nq_ (hJ0_4_9 (v183, v189, gb194) _ ⟨hHeld, kp_ HO184.out, kp_ HO190.out, kb_ BK177.out, kb_ BK178.out, kb_ BK194.out, GW194.out, GE194.out, NB177_194.out, NB194_177.out, NB178_194.out, NB194_178.out, bl_⟩)
         ·skip
          rintro ⟨v183, gb194⟩ w92 ⟨hS_, h0_, h1_, h2_, h3_, h4_, h5_, h6_, h7_, h8_, h9_, h10_⟩
          dsimp only at h0_ h1_ h2_ h3_ h4_ h5_ h6_ h7_ h8_ h9_ h10_
          have HO184 := Aside0.mk h0_
          replace BK177 := Aside0.mk h1_
          replace BK178 := Aside0.mk h2_
          have BK194 := Aside0.mk h3_
          have GW194 := Aside0.mk h4_
          have GE194 := Aside0.mk h5_
          have NB177_194 := Aside0.mk h6_
          have NB194_177 := Aside0.mk h7_
          have NB178_194 := Aside0.mk h8_
          have NB194_178 := Aside0.mk h9_
          replace HB := Aside0.mk h10_
          clear h0_ h1_ h2_ h3_ h4_ h5_ h6_ h7_ h8_ h9_ h10_
          try dsimp only at hS_
          have hHeld := hS_
          refine norm_ np_ ?_
          refine tw_ 3 4 (some 26) (some 27) (h1 := fun K hK => ?_) (h2 := fun K hK => ?_)
          ·skip
           refine Kd.R_append_rows_step (Kd.int .i64) (w0 := w) w.heap.size (by rfl) (.tmp 23) (.tmp 25) 22 3 (.int .i64 0) 8 rfl Try.underlying22 info3 rfl (by decide) (by omega) v183 y182 l0_0 _ _ _ (fun _ => True) (fun _ => False) rfl rfl ?aO ?aR (fun _ _ h => h) (fun _ h => h.elim) ?aF ?aB ?aS ?aL ?_
           (case aR => exact kc_ (Kd.C_below HR0_0.out HB.out))
           (case aB => exact bl_)
           (case aF => exact (fun _ _ => trivial))
           (case aO => exact (kr_ HO184.out))
           (case aS => exact bz_)
           (case aL => have := LMc24.out; omega)
           intro v186 w93 ho hb hg hat
           rw [← Ny185.out] at ho
           replace BK177 := bgr_ BK177 hg HO184 BK177
           replace BK178 := bgr_ BK178 hg HO184 BK178
           replace BK194 := bgr_ BK194 hg HO184 BK194
           replace HB := Aside0.mk (hb)
           have HO187 := Aside0.mk (ho)
           clear HO184 ho hb hg hat
           refine hK.out _ _ ⟨bc_ BK177.out 0, bc_ BK177.out 1⟩ (fun hHeld => ?_)
           clear hK K
           refine norm_ nn_ ?_
           exact norm_ nq_ (hJ0_3_9 (v183, v186, gb194) _ ⟨hHeld, kr_ HO187.out, kb_ BK177.out, kb_ BK178.out, kb_ BK194.out, GW194.out, GE194.out, NB177_194.out, NB194_177.out, NB178_194.out, NB194_178.out, bl_⟩)
          ·skip
           refine Kd.R_lit_step (Kd.int .i64) _ 3 rfl (N := 27) rfl (xs := ([] : List Int)) (inner := []) (ok := fun _ => True) (okp := fun _ => True) gs_ ?hp (fun _ hk => hk) trivial (Below.refl _ _) (Nat.le_refl _) (by simp) ?_; (case hp => exact (Reps.none _ _))
           intro v189 w93 ho94 hb hg_ hnew_
           clear hg_ hnew_
           (first | rw [← Ny188.out] at ho94 | (simp only [Int.reduceToNat] at ho94; rw [← Ny188.out] at ho94))
           have HO190 := Aside0.mk (Kd.R_lower (rn_ ho94 HO184.out) bz_)
           replace HO184 := Aside0.mk (Kd.R_elder' (kr_ HO184.out) (Kd.R_base ho94) hb)
           replace BK177 := bb_ BK177 hb
           replace BK178 := bb_ BK178 hb
           replace BK194 := bb_ BK194 hb
           replace HB := Aside0.mk (below_step bl_ hb)
           clear hb ho94
           refine hK.out _ _ ⟨bc_ BK177.out 0, bc_ BK177.out 1⟩ (fun hHeld => ?_)
           clear hK K
           refine norm_ nn_ ?_
           exact norm_ nq_ (hJ0_4_9 (v183, v189, gb194) _ ⟨hHeld, kp_ HO184.out, kp_ HO190.out, kb_ BK177.out, kb_ BK178.out, kb_ BK194.out, GW194.out, GE194.out, NB177_194.out, NB194_177.out, NB178_194.out, NB194_178.out, bl_⟩)
        ·skip
         rintro ⟨v183, v189⟩ w93 ⟨hS_, h0_, h1_, h2_, h3_, h4_⟩
         dsimp only at h0_ h1_ h2_ h3_ h4_
         have HO184 := Aside0.mk h0_
         have HO190 := Aside0.mk h1_
         replace BK177 := Aside0.mk h2_
         replace BK178 := Aside0.mk h3_
         replace HB := Aside0.mk h4_
         clear h0_ h1_ h2_ h3_ h4_
         try dsimp only at hS_
         have hHeld := hS_
         refine norm_ np_ ?_
         refine tw_ 3 9 (some 26) (some 8) (h1 := fun K hK => ?_) (h2 := fun K hK => ?_)
         ·skip
          refine Kd.R_append_rows_step (Kd.int .i64) (w0 := w) w.heap.size (by rfl) (.tmp 23) (.tmp 25) 22 3 (.int .i64 0) 8 rfl Try.underlying22 info3 rfl (by decide) (by omega) v183 y182 l0_0 _ _ _ (fun k_ => some k_ ≠ (v189 : Value).ownBlock) (fun _ => False) rfl rfl ?aO ?aR (fun _ _ h => h) (fun _ h => h.elim) ?aF ?aB ?aS ?aL ?_
          (case aR => exact kc_ (Kd.C_below HR0_0.out HB.out))
          (case aB => exact bl_)
          (case aF => exact (fun k_ hk => Kd.fresh' (Kd.R_lt (kr_ HO190.out)) k_ hk))
          (case aO => exact (kr_ HO184.out))
          (case aS => exact bz_)
          (case aL => have := LMc24.out; omega)
          intro v186 w94 ho hb hg hat
          rw [← Ny185.out] at ho
          replace BK177 := bgr_ BK177 hg HO184 BK177
          replace BK178 := bgr_ BK178 hg HO184 BK178
          replace HO190 := Aside0.mk (Kd.R_after (ok := (fun _ => True)) (by exact kr_ (Kd.R_mono HO190.out (fun _ hk => ⟨trivial, hk⟩))) hg hat)
          replace HB := Aside0.mk (hb)
          have HO187 := Aside0.mk (ho)
          clear HO184 ho hb hg hat
          refine hK.out _ _ ⟨bc_ BK177.out 0, bc_ BK177.out 1⟩ (fun hHeld => ?_)
          clear hK K
          refine norm_ nn_ ?_
          exact norm_ nq_ (hJ0_3_4 (v183, v186, v189) _ ⟨hHeld, kr_ HO187.out, kp_ HO190.out, kb_ BK177.out, kb_ BK178.out, bl_⟩)
         ·skip
          refine box_step rfl (N := 8) rfl (cs := #[.slice none 0 0, .slice none 0 0]) (t := 27) gs_ ?_
          intro gb194 hg w94 hbox hb
          replace HO184 := rb_ HO184 hb
          replace HO190 := rb_ HO190 hb
          have BK194 := Aside0.mk (hbox)
          have GW194 := Aside0.mk ((by rw [hg]; exact bz_ : w.heap.size ≤ gb194))
          have GE194 := GW194
          replace HB := Aside0.mk (below_step bl_ hb)
          have NB177_194 := nl_ hg BK177
          have NB194_177 := nm_ hg BK177
          replace BK177 := bb_ BK177 hb
          have NB178_194 := nl_ hg BK178
          have NB194_178 := nm_ hg BK178
          replace BK178 := bb_ BK178 hb
          clear hb hbox hg
          refine hK.out _ _ ⟨bc_ BK177.out 0, bc_ BK177.out 1⟩ (fun hHeld => ?_)
          clear hK K
          refine norm_ nn_ ?_
          exact norm_ nq_ (hJ0_4_9 (v183, v189, gb194) _ ⟨hHeld, kr_ HO184.out, kr_ HO190.out, kb_ BK177.out, kb_ BK178.out, kb_ BK194.out, GW194.out, GE194.out, NB177_194.out, NB194_177.out, NB178_194.out, NB194_178.out, bl_⟩)
       ·skip
        rintro ⟨v183, v186⟩ w92 ⟨hS_, h0_, h1_, h2_, h3_⟩
        dsimp only at h0_ h1_ h2_ h3_
        have HO187 := Aside0.mk h0_
        replace BK177 := Aside0.mk h1_
        replace BK178 := Aside0.mk h2_
        replace HB := Aside0.mk h3_
        clear h0_ h1_ h2_ h3_
        try dsimp only at hS_
        have hHeld := hS_
        refine norm_ np_ ?_
        refine tw_ 4 9 (some 27) (some 8) (h1 := fun K hK => ?_) (h2 := fun K hK => ?_)
        ·skip
         refine Kd.R_lit_step (Kd.int .i64) _ 3 rfl (N := 27) rfl (xs := ([] : List Int)) (inner := []) (ok := fun _ => True) (okp := fun _ => True) gs_ ?hp (fun _ hk => hk) trivial (Below.refl _ _) (Nat.le_refl _) (by simp) ?_; (case hp => exact (Reps.none _ _))
         intro v189 w93 ho94 hb hg_ hnew_
         clear hg_ hnew_
         (first | rw [← Ny188.out] at ho94 | (simp only [Int.reduceToNat] at ho94; rw [← Ny188.out] at ho94))
         have HO190 := Aside0.mk (Kd.R_lower (rn_ ho94 HO187.out) bz_)
         replace HO187 := Aside0.mk (Kd.R_elder' (kr_ HO187.out) (Kd.R_base ho94) hb)
         replace BK177 := bb_ BK177 hb
         replace BK178 := bb_ BK178 hb
         replace HB := Aside0.mk (below_step bl_ hb)
         clear hb ho94
         refine hK.out _ _ ⟨bc_ BK177.out 0, bc_ BK177.out 1⟩ (fun hHeld => ?_)
         clear hK K
         refine norm_ nn_ ?_
         exact norm_ nq_ (hJ0_3_4 (v183, v186, v189) _ ⟨hHeld, kp_ HO187.out, kp_ HO190.out, kb_ BK177.out, kb_ BK178.out, bl_⟩)
        ·skip
         refine box_step rfl (N := 8) rfl (cs := #[.slice none 0 0, .slice none 0 0]) (t := 27) gs_ ?_
         intro gb194 hg w93 hbox hb
         replace HO187 := rb_ HO187 hb
         have BK194 := Aside0.mk (hbox)
         have GW194 := Aside0.mk ((by rw [hg]; exact bz_ : w.heap.size ≤ gb194))
         have GE194 := GW194
         replace HB := Aside0.mk (below_step bl_ hb)
         have NB177_194 := nl_ hg BK177
         have NB194_177 := nm_ hg BK177
         replace BK177 := bb_ BK177 hb
         have NB178_194 := nl_ hg BK178
         have NB194_178 := nm_ hg BK178
         replace BK178 := bb_ BK178 hb
         clear hb hbox hg
         refine hK.out _ _ ⟨bc_ BK177.out 0, bc_ BK177.out 1⟩ (fun hHeld => ?_)
         clear hK K
         refine norm_ nn_ ?_
         exact norm_ nq_ (hJ0_3_9 (v183, v186, gb194) _ ⟨hHeld, kr_ HO187.out, kb_ BK177.out, kb_ BK178.out, kb_ BK194.out, GW194.out, GE194.out, NB177_194.out, NB194_177.out, NB178_194.out, NB194_178.out, bl_⟩)
      ·skip
       rintro ⟨v183, v189, gb194⟩ w94 ⟨hS_, h0_, h1_, h2_, h3_, h4_, h5_, h6_, h7_, h8_, h9_, h10_, h11_⟩
       dsimp only at h0_ h1_ h2_ h3_ h4_ h5_ h6_ h7_ h8_ h9_ h10_ h11_
       have HO184 := Aside0.mk h0_
       have HO190 := Aside0.mk h1_
       replace BK177 := Aside0.mk h2_
       replace BK178 := Aside0.mk h3_
       have BK194 := Aside0.mk h4_
       have GW194 := Aside0.mk h5_
       have GE194 := Aside0.mk h6_
       have NB177_194 := Aside0.mk h7_
       have NB194_177 := Aside0.mk h8_
       have NB178_194 := Aside0.mk h9_
       have NB194_178 := Aside0.mk h10_
       replace HB := Aside0.mk h11_
       clear h0_ h1_ h2_ h3_ h4_ h5_ h6_ h7_ h8_ h9_ h10_ h11_
       try dsimp only at hS_
       have hHeld := hS_
       refine norm_ np_ ?_
       refine on_ 3 (some 26) (h := fun K hK => ?_)
       refine Kd.R_append_rows_step (Kd.int .i64) (w0 := w) w.heap.size (by rfl) (.tmp 23) (.tmp 25) 22 3 (.int .i64 0) 8 rfl Try.underlying22 info3 rfl (by decide) (by omega) v183 y182 l0_0 _ _ _ (fun k_ => some k_ ≠ (v189 : Value).ownBlock) (fun _ => False) rfl rfl ?aO ?aR (fun _ _ h => h) (fun _ h => h.elim) ?aF ?aB ?aS ?aL ?_
       (case aR => exact kc_ (Kd.C_below HR0_0.out HB.out))
       (case aB => exact bl_)
       (case aF => exact (fun k_ hk => Kd.fresh' (Kd.R_lt (kr_ HO190.out)) k_ hk))
       (case aO => exact (kr_ HO184.out))
       (case aS => exact bz_)
       (case aL => have := LMc24.out; omega)
       intro v186 w95 ho hb hg hat
       rw [← Ny185.out] at ho
       replace BK177 := bgr_ BK177 hg HO184 BK177
       replace BK178 := bgr_ BK178 hg HO184 BK178
       replace HO190 := Aside0.mk (Kd.R_after (ok := (fun _ => True)) (by exact kr_ (Kd.R_mono HO190.out (fun _ hk => ⟨trivial, hk⟩))) hg hat)
       replace BK194 := bgr_ BK194 hg HO184 BK194
       replace HB := Aside0.mk (hb)
       have HO187 := Aside0.mk (ho)
       clear HO184 ho hb hg hat
       refine hK.out _ _ ⟨bc_ BK177.out 0, bc_ BK177.out 1⟩ (fun hHeld => ?_)
       clear hK K
       refine norm_ nn_ ?_
       exact norm_ nq_ (hJ0_3_4_9 (v183, v186, v189, gb194) _ ⟨hHeld, kr_ HO187.out, kp_ HO190.out, kb_ BK177.out, kb_ BK178.out, kb_ BK194.out, GW194.out, GE194.out, NB177_194.out, NB194_177.out, NB178_194.out, NB194_178.out, bl_⟩)
     ·skip
      rintro ⟨v183, v186, gb194⟩ w93 ⟨hS_, h0_, h1_, h2_, h3_, h4_, h5_, h6_, h7_, h8_, h9_, h10_⟩
      dsimp only at h0_ h1_ h2_ h3_ h4_ h5_ h6_ h7_ h8_ h9_ h10_
      have HO187 := Aside0.mk h0_
      replace BK177 := Aside0.mk h1_
      replace BK178 := Aside0.mk h2_
      have BK194 := Aside0.mk h3_
      have GW194 := Aside0.mk h4_
      have GE194 := Aside0.mk h5_
      have NB177_194 := Aside0.mk h6_
      have NB194_177 := Aside0.mk h7_
      have NB178_194 := Aside0.mk h8_
      have NB194_178 := Aside0.mk h9_
      replace HB := Aside0.mk h10_
      clear h0_ h1_ h2_ h3_ h4_ h5_ h6_ h7_ h8_ h9_ h10_
      try dsimp only at hS_
      have hHeld := hS_
      refine norm_ np_ ?_
      refine on_ 4 (some 27) (h := fun K hK => ?_)
      refine Kd.R_lit_step (Kd.int .i64) _ 3 rfl (N := 27) rfl (xs := ([] : List Int)) (inner := []) (ok := fun _ => True) (okp := fun _ => True) gs_ ?hp (fun _ hk => hk) trivial (Below.refl _ _) (Nat.le_refl _) (by simp) ?_; (case hp => exact (Reps.none _ _))
      intro v189 w94 ho95 hb hg_ hnew_
      clear hg_ hnew_
      (first | rw [← Ny188.out] at ho95 | (simp only [Int.reduceToNat] at ho95; rw [← Ny188.out] at ho95))
      have HO190 := Aside0.mk (Kd.R_lower (rn_ ho95 HO187.out) bz_)
      replace HO187 := Aside0.mk (Kd.R_elder' (kr_ HO187.out) (Kd.R_base ho95) hb)
      replace BK177 := bb_ BK177 hb
      replace BK178 := bb_ BK178 hb
      replace BK194 := bb_ BK194 hb
      replace HB := Aside0.mk (below_step bl_ hb)
      clear hb ho95
      refine hK.out _ _ ⟨bc_ BK177.out 0, bc_ BK177.out 1⟩ (fun hHeld => ?_)
      clear hK K
      refine norm_ nn_ ?_
      exact norm_ nq_ (hJ0_3_4_9 (v183, v186, v189, gb194) _ ⟨hHeld, kp_ HO187.out, kp_ HO190.out, kb_ BK177.out, kb_ BK178.out, kb_ BK194.out, GW194.out, GE194.out, NB177_194.out, NB194_177.out, NB178_194.out, NB194_178.out, bl_⟩)
    ·skip
     rintro ⟨v183, v186, v189⟩ w94 ⟨hS_, h0_, h1_, h2_, h3_, h4_⟩
     dsimp only at h0_ h1_ h2_ h3_ h4_
     have HO187 := Aside0.mk h0_
     have HO190 := Aside0.mk h1_
     replace BK177 := Aside0.mk h2_
     replace BK178 := Aside0.mk h3_
     replace HB := Aside0.mk h4_
     clear h0_ h1_ h2_ h3_ h4_
     try dsimp only at hS_
     have hHeld := hS_
     refine norm_ np_ ?_
     refine tw_ 7 9 (some 30) (some 8) (h1 := fun K hK => ?_) (h2 := fun K hK => ?_)
     ·skip
      refine Kd.R_append_rows_step (Kd.int .i64) (w0 := w) w.heap.size (by rfl) (.tmp 27) (.tmp 29) 22 3 (.int .i64 0) 8 rfl Try.underlying22 info3 rfl (by decide) (by omega) v189 y188 l0_1 _ _ _ (fun k_ => some k_ ≠ (v186 : Value).ownBlock) (fun _ => False) rfl rfl ?aO ?aR (fun _ _ h => h) (fun _ h => h.elim) ?aF ?aB ?aS ?aL ?_
      (case aR => exact kc_ (Kd.C_below HR0_1.out HB.out))
      (case aB => exact bl_)
      (case aF => exact (fun k_ hk => Kd.fresh' (Kd.R_lt (kr_ HO187.out)) k_ hk))
      (case aO => exact (kr_ HO190.out))
      (case aS => exact bz_)
      (case aL => have := LMc25.out; omega)
      intro v192 w95 ho hb hg hat
      rw [← Ny191.out] at ho
      replace BK177 := bgr_ BK177 hg HO190 BK177
      replace BK178 := bgr_ BK178 hg HO190 BK178
      replace HO187 := Aside0.mk (Kd.R_after (ok := (fun _ => True)) (by exact kr_ (Kd.R_mono HO187.out (fun _ hk => ⟨trivial, hk⟩))) hg hat)
      replace HB := Aside0.mk (hb)
      have HO193 := Aside0.mk (ho)
      clear HO190 ho hb hg hat
      obtain ⟨Ao96, co96, eo96⟩ := Kd.R_slice HO193.out
      (first | subst eo96 | (injection eo96 with f1_ f2_ f3_; have f4_ := f1_.symm; have f5_ := f3_.symm; clear f1_ f2_ f3_; subst f4_; subst f5_))
      obtain ⟨Ao97, co97, eo97⟩ := Kd.R_slice HO187.out
      (first | subst eo97 | (injection eo97 with f1_ f2_ f3_; have f4_ := f1_.symm; have f5_ := f3_.symm; clear f1_ f2_ f3_; subst f4_; subst f5_))
      refine hK.out _ _ ⟨bc_ BK177.out 0, bc_ BK177.out 1⟩ (fun hHeld => ?_)
      clear hK K
      refine norm_ nn_ ?_
      refine pu_ 8 (some 31) (h := ?_)
      exact norm_ nq_ (hJ0_3_4_7 (v183, .slice Ao97 y185.length co97, v189, .slice Ao96 y191.length co96) _ ⟨hHeld, kp_ HO187.out, kr_ HO193.out, kb_ BK177.out, kb_ BK178.out, bl_⟩)
     ·skip
      refine box_step rfl (N := 8) rfl (cs := #[.slice none 0 0, .slice none 0 0]) (t := 27) gs_ ?_
      intro gb194 hg w95 hbox hb
      replace HO187 := rb_ HO187 hb
      replace HO190 := rb_ HO190 hb
      have BK194 := Aside0.mk (hbox)
      have GW194 := Aside0.mk ((by rw [hg]; exact bz_ : w.heap.size ≤ gb194))
      have GE194 := GW194
      replace HB := Aside0.mk (below_step bl_ hb)
      have NB177_194 := nl_ hg BK177
      have NB194_177 := nm_ hg BK177
      replace BK177 := bb_ BK177 hb
      have NB178_194 := nl_ hg BK178
      have NB194_178 := nm_ hg BK178
      replace BK178 := bb_ BK178 hb
      clear hb hbox hg
      refine hK.out _ _ ⟨bc_ BK177.out 0, bc_ BK177.out 1⟩ (fun hHeld => ?_)
      clear hK K
      refine norm_ nn_ ?_
      exact norm_ nq_ (hJ0_3_4_9 (v183, v186, v189, gb194) _ ⟨hHeld, kr_ HO187.out, kr_ HO190.out, kb_ BK177.out, kb_ BK178.out, kb_ BK194.out, GW194.out, GE194.out, NB177_194.out, NB194_177.out, NB178_194.out, NB194_178.out, bl_⟩)
   ·skip
    rintro ⟨v183, v186, v189, gb194⟩ w95 ⟨hS_, h0_, h1_, h2_, h3_, h4_, h5_, h6_, h7_, h8_, h9_, h10_, h11_⟩
    dsimp only at h0_ h1_ h2_ h3_ h4_ h5_ h6_ h7_ h8_ h9_ h10_ h11_
    have HO187 := Aside0.mk h0_
    have HO190 := Aside0.mk h1_
    replace BK177 := Aside0.mk h2_
    replace BK178 := Aside0.mk h3_
    have BK194 := Aside0.mk h4_
    have GW194 := Aside0.mk h5_
    have GE194 := Aside0.mk h6_
    have NB177_194 := Aside0.mk h7_
    have NB194_177 := Aside0.mk h8_
    have NB178_194 := Aside0.mk h9_
    have NB194_178 := Aside0.mk h10_
    replace HB := Aside0.mk h11_
    clear h0_ h1_ h2_ h3_ h4_ h5_ h6_ h7_ h8_ h9_ h10_ h11_
    try dsimp only at hS_
    have hHeld := hS_
    refine norm_ np_ ?_
    refine on_ 7 (some 30) (h := fun K hK => ?_)
    refine Kd.R_append_rows_step (Kd.int .i64) (w0 := w) w.heap.size (by rfl) (.tmp 27) (.tmp 29) 22 3 (.int .i64 0) 8 rfl Try.underlying22 info3 rfl (by decide) (by omega) v189 y188 l0_1 _ _ _ (fun k_ => some k_ ≠ (v186 : Value).ownBlock) (fun _ => False) rfl rfl ?aO ?aR (fun _ _ h => h) (fun _ h => h.elim) ?aF ?aB ?aS ?aL ?_
    (case aR => exact kc_ (Kd.C_below HR0_1.out HB.out))
    (case aB => exact bl_)
    (case aF => exact (fun k_ hk => Kd.fresh' (Kd.R_lt (kr_ HO187.out)) k_ hk))
    (case aO => exact (kr_ HO190.out))
    (case aS => exact bz_)
    (case aL => have := LMc25.out; omega)
    intro v192 w96 ho hb hg hat
    rw [← Ny191.out] at ho
    replace BK177 := bgr_ BK177 hg HO190 BK177
    replace BK178 := bgr_ BK178 hg HO190 BK178
    replace HO187 := Aside0.mk (Kd.R_after (ok := (fun _ => True)) (by exact kr_ (Kd.R_mono HO187.out (fun _ hk => ⟨trivial, hk⟩))) hg hat)
    replace BK194 := bgr_ BK194 hg HO190 BK194
    replace HB := Aside0.mk (hb)
    have HO193 := Aside0.mk (ho)
    clear HO190 ho hb hg hat
    obtain ⟨Ao97, co97, eo97⟩ := Kd.R_slice HO193.out
    (first | subst eo97 | (injection eo97 with f1_ f2_ f3_; have f4_ := f1_.symm; have f5_ := f3_.symm; clear f1_ f2_ f3_; subst f4_; subst f5_))
    obtain ⟨Ao98, co98, eo98⟩ := Kd.R_slice HO187.out
    (first | subst eo98 | (injection eo98 with f1_ f2_ f3_; have f4_ := f1_.symm; have f5_ := f3_.symm; clear f1_ f2_ f3_; subst f4_; subst f5_))
    refine hK.out _ _ ⟨bc_ BK177.out 0, bc_ BK177.out 1⟩ (fun hHeld => ?_)
    clear hK K
    refine norm_ nn_ ?_
    refine pu_ 8 (some 31) (h := ?_)
    exact norm_ nq_ (hJ0_3_4_7_9 (v183, .slice Ao98 y185.length co98, v189, .slice Ao97 y191.length co97, gb194) _ ⟨hHeld, kp_ HO187.out, kr_ HO193.out, kb_ BK177.out, kb_ BK178.out, kb_ BK194.out, GW194.out, GE194.out, NB177_194.out, NB194_177.out, NB178_194.out, NB194_178.out, bl_⟩)
  ·skip
   rintro ⟨v183, v186, v189, v192⟩ w97 ⟨hS_, h0_, h1_, h2_, h3_, h4_⟩
   dsimp only at h0_ h1_ h2_ h3_ h4_
   have HO187 := Aside0.mk h0_
   have HO193 := Aside0.mk h1_
   replace BK177 := Aside0.mk h2_
   replace BK178 := Aside0.mk h3_
   replace HB := Aside0.mk h4_
   clear h0_ h1_ h2_ h3_ h4_
   try dsimp only at hS_
   have hHeld := hS_
   obtain ⟨Ao98, co98, eo98⟩ := Kd.R_slice HO193.out
   (first | subst eo98 | (injection eo98 with f1_ f2_ f3_; have f4_ := f1_.symm; have f5_ := f3_.symm; clear f1_ f2_ f3_; subst f4_; subst f5_))
   obtain ⟨Ao99, co99, eo99⟩ := Kd.R_slice HO187.out
   (first | subst eo99 | (injection eo99 with f1_ f2_ f3_; have f4_ := f1_.symm; have f5_ := f3_.symm; clear f1_ f2_ f3_; subst f4_; subst f5_))
   refine norm_ np_ ?_
   refine on_ 9 (some 8) (h := fun K hK => ?_)
   refine box_step rfl (N := 8) rfl (cs := #[.slice none 0 0, .slice none 0 0]) (t := 27) gs_ ?_
   intro gb194 hg w100 hbox hb
   replace HO187 := rb_ HO187 hb
   replace HO193 := rb_ HO193 hb
   have BK194 := Aside0.mk (hbox)
   have GW194 := Aside0.mk ((by rw [hg]; exact bz_ : w.heap.size ≤ gb194))
   have GE194 := GW194
   replace HB := Aside0.mk (below_step bl_ hb)
   have NB177_194 := nl_ hg BK177
   have NB194_177 := nm_ hg BK177
   replace BK177 := bb_ BK177 hb
   have NB178_194 := nl_ hg BK178
   have NB194_178 := nm_ hg BK178
   replace BK178 := bb_ BK178 hb
   clear hb hbox hg
   refine hK.out _ _ ⟨bc_ BK177.out 0, bc_ BK177.out 1⟩ (fun hHeld => ?_)
   clear hK K
   refine norm_ nn_ ?_
   exact norm_ nq_ (hJ0_3_4_7_9 (v183, .slice Ao99 y185.length co99, v189, .slice Ao98 y191.length co98, gb194) _ ⟨hHeld, kr_ HO187.out, kr_ HO193.out, kb_ BK177.out, kb_ BK178.out, kb_ BK194.out, GW194.out, GE194.out, NB177_194.out, NB194_177.out, NB178_194.out, NB194_178.out, bl_⟩)
 rintro ⟨v183, v186, v189, v192, gb194⟩ w98 ⟨hS_, h0_, h1_, h2_, h3_, h4_, h5_, h6_, h7_, h8_, h9_, h10_, h11_⟩
 dsimp only at h0_ h1_ h2_ h3_ h4_ h5_ h6_ h7_ h8_ h9_ h10_ h11_
 have HO187 := Aside0.mk h0_
 have HO193 := Aside0.mk h1_
 replace BK177 := Aside0.mk h2_
 replace BK178 := Aside0.mk h3_
 have BK194 := Aside0.mk h4_
 have GW194 := Aside0.mk h5_
 have GE194 := Aside0.mk h6_
 have NB177_194 := Aside0.mk h7_
 have NB194_177 := Aside0.mk h8_
 have NB178_194 := Aside0.mk h9_
 have NB194_178 := Aside0.mk h10_
 replace HB := Aside0.mk h11_
 clear h0_ h1_ h2_ h3_ h4_ h5_ h6_ h7_ h8_ h9_ h10_ h11_
 try dsimp only at hS_
 have hHeld := hS_
 obtain ⟨Ao99, co99, eo99⟩ := Kd.R_slice HO193.out
 (first | subst eo99 | (injection eo99 with f1_ f2_ f3_; have f4_ := f1_.symm; have f5_ := f3_.symm; clear f1_ f2_ f3_; subst f4_; subst f5_))
 obtain ⟨Ao100, co100, eo100⟩ := Kd.R_slice HO187.out
 (first | subst eo100 | (injection eo100 with f1_ f2_ f3_; have f4_ := f1_.symm; have f5_ := f3_.symm; clear f1_ f2_ f3_; subst f4_; subst f5_))
 refine norm_ np_ ?_
 refine on_ 10 none (h := fun K hK => ?_)
 have hs101 : w98.cell? ⟨gb194, 0, none⟩ = some (.slice none 0 0) := bc_ BK194.out 0
 have hfs101 := blk_frozen BK194.out 0
 have hns101_0 := NB177_194.out
 have hns101_1 := NB178_194.out
 have hms101_0 := NB194_177.out
 have hms101_1 := NB194_178.out
 have hs102 : w98.cell? ⟨gb194, 1, none⟩ = some (.slice none 0 0) := bc_ BK194.out 1
 have hfs102 := blk_frozen BK194.out 1
 have hns102_0 := NB177_194.out
 have hns102_1 := NB178_194.out
 have hms102_0 := NB194_177.out
 have hms102_1 := NB194_178.out
 refine skip_ (w1 := ?_) (by rfl) rfl ?_ ?_
 rotate_left
 ·go_simp
  rfl
 refine hK.out _ _ ⟨((cell_far (p := ⟨gb194, _, none⟩) NB177_194.out _).trans (((cell_far (p := ⟨gb194, _, none⟩) NB177_194.out _).trans (hHeld.1)))), ((cell_far (p := ⟨gb194, _, none⟩) NB177_194.out _).trans (((cell_far (p := ⟨gb194, _, none⟩) NB177_194.out _).trans (hHeld.2))))⟩ (fun hHeld => ?_)
 clear hK K
 refine done_ (done_of HT_.out (by kernel_rfl)) ?_
 have n0_ : Aside0 (Kd.R (Kd.int .i64) 3 ((w98.setCell ⟨gb194, 0, none⟩ (.slice Ao100 y185.length co100)).setCell ⟨gb194, 1, none⟩ (.slice Ao99 y191.length co99)) w.heap.size (fun k_ => some k_ ≠ (.slice Ao99 y191.length co99 : Value).ownBlock) (.slice Ao100 y185.length co100) y185) := ⟨by exact kr_ (Kd.R_mono (Kd.R_far (p := ⟨gb194, 1, none⟩) (Kd.R_far (p := ⟨gb194, 0, none⟩) (Kd.R_types HO187.out BK194.out (by decide)) (fun _ hk => hk.2) (.slice Ao100 y185.length co100)) (fun _ hk => hk.2) (.slice Ao99 y191.length co99)) (fun _ hk => hk.1))⟩
 have n1_ : Aside0 (Kd.R (Kd.int .i64) 3 ((w98.setCell ⟨gb194, 0, none⟩ (.slice Ao100 y185.length co100)).setCell ⟨gb194, 1, none⟩ (.slice Ao99 y191.length co99)) w.heap.size (fun k_ => some k_ ≠ (.slice Ao100 y185.length co100 : Value).ownBlock) (.slice Ao99 y191.length co99) y191) := ⟨by exact kr_ (Kd.R_mono (Kd.R_far (p := ⟨gb194, 1, none⟩) (Kd.R_far (p := ⟨gb194, 0, none⟩) (Kd.R_types HO193.out BK194.out (by decide)) (fun _ hk => hk.2) (.slice Ao100 y185.length co100)) (fun _ hk => hk.2) (.slice Ao99 y191.length co99)) (fun _ hk => hk.1))⟩
 have n2_ : Aside0 (((w98.setCell ⟨gb194, 0, none⟩ (.slice Ao100 y185.length co100)).setCell ⟨gb194, 1, none⟩ (.slice Ao99 y191.length co99)).heap[gb177]? = some (.cells #[.slice A0_0 l0_0.length c0_0, .slice A0_1 l0_1.length c0_1] 27 (0, 0))) := ⟨kz_⟩
 have n3_ : Aside0 (((w98.setCell ⟨gb194, 0, none⟩ (.slice Ao100 y185.length co100)).setCell ⟨gb194, 1, none⟩ (.slice Ao99 y191.length co99)).heap[gb178]? = some (.cells #[.slice none 0 0, .slice none 0 0] 27 (0, 0))) := ⟨kz_⟩
 have n4_ : Aside0 (((w98.setCell ⟨gb194, 0, none⟩ (.slice Ao100 y185.length co100)).setCell ⟨gb194, 1, none⟩ (.slice Ao99 y191.length co99)).heap[gb194]? = some (.cells #[.slice Ao100 y185.length co100, .slice Ao99 y191.length co99] 27 (0, 0))) := ⟨by (with_reducible repeat (first | refine blk_drewN ?_ _ | refine blk_drew ?_ | refine blk_alloc ?_ _)); refine blk_put (cs := #[.slice Ao100 y185.length co100, .slice none 0 0]) ?_ 1 _ rfl; (with_reducible repeat (first | refine blk_drewN ?_ _ | refine blk_drew ?_ | refine blk_alloc ?_ _)); refine blk_put (cs := #[.slice none 0 0, .slice none 0 0]) ?_ 0 _ rfl; exact kb_ BK194.out⟩
 have n5_ : Aside0 (Below w.heap.size w ((w98.setCell ⟨gb194, 0, none⟩ (.slice Ao100 y185.length co100)).setCell ⟨gb194, 1, none⟩ (.slice Ao99 y191.length co99))) := ⟨bl_⟩
 (try clear HO187)
 (try clear HO193)
 (try clear BK177)
 (try clear BK178)
 (try clear BK194)
 (try clear HB)
 generalize ((w98.setCell ⟨gb194, 0, none⟩ (.slice Ao100 y185.length co100)).setCell ⟨gb194, 1, none⟩ (.slice Ao99 y191.length co99)) = w103 at n0_ n1_ n2_ n3_ n4_ n5_ ⊢
 have HO187 := n0_
 have HO193 := n1_
 have BK177 := n2_
 have BK178 := n3_
 have BK194 := n4_
 have HB := n5_
 clear n0_ n1_ n2_ n3_ n4_ n5_
 have hnb104 := NB194_177.out
 have hnc104 := NB177_194.out
 have hnb105 := NB194_178.out
 have hnc105 := NB178_194.out
 have hcz106_0 : w103.cell? ⟨gb194, 0, none⟩ = some (.slice Ao100 y185.length co100) := bc_ BK194.out 0
 have hcz106_1 : w103.cell? ⟨gb194, 1, none⟩ = some (.slice Ao99 y191.length co99) := bc_ BK194.out 1
 have hfz106_0 := blk_frozen BK194.out 0
 have hfz106_1 := blk_frozen BK194.out 1
 have p198 : 0 ≤ (a1 : Int) := of_decide_eq_true (by first | (with_reducible assumption) | assumption)
 have q198 : a1 < (y191.length : Int) := of_decide_eq_true (by first | (with_reducible assumption) | assumption)
 obtain ⟨ad198, e198, hx198_0⟩ := Kd.at_int (Kd.R_reads' HO193.out).2.2 a1 p198 q198
 cases e198
 replace p198 := eq_true p198
 replace q198 := eq_true q198
 have p85 : 0 ≤ (a1 : Int) := of_decide_eq_true (by first | (with_reducible assumption) | assumption)
 have q85 : (a1 : Int) < ((y191.length : Int) : Int) := of_decide_eq_true (by first | (with_reducible assumption) | assumption)
 obtain ⟨go85, co85, eo85, gb85, gl85, cl85, HG85⟩ := Kd.R_form HO193.out (by omega)
 (first | cases eo85 | (injection eo85 with ea_ en_ ec_; (first | subst ea_ | (injection ea_ with ea_; subst ea_)); subst ec_; clear en_))
 have GB85 := Aside0.mk gb85
 have GG85 := Aside0.mk HG85
 clear gb85 gl85 HG85
 (first | simp only [add_plain] at hx198_0 | skip)
 obtain ⟨hx85_0, hf85_0⟩ := Kd.R_celln 0 HO193.out (a1 : Int) p85 q85
 replace p85 := eq_true p85
 replace q85 := eq_true q85
 obtain ⟨hy107_, hz107_⟩ := Kd.R_celln 0 HO193.out (a1 : Int) (of_decide_eq_true (by first | (with_reducible assumption) | assumption)) (of_decide_eq_true (by first | (with_reducible assumption) | assumption))
 have HP107 := Kd.R_putg HO193.out (a1 : Int) (wrap64 ((rd y191 a1) - a2))
 try go_wp2_with (first | ((with_reducible refine gate_store (t := 3) (p := 49) rfl ?_); refine store_event (t := 3) (p := 49) (v := ?vo_w108) (w1 := (w103.setCell ⟨go85, (a1 : Int).toNat, none⟩ (.int .i64 (wrap64 ((rd y191 a1) - a2))))) ?hg ?ho ?hn ?hr ?_; (case ho => rfl); (case hg => rfl); (case hn => rfl); (case hr => first | (go_simp; done) | (go_simp; rfl)); intro w108 hw; have hg : w103.grownBy w108 (some go85) := (by rw [hw]; exact HP107.2); have hp_ : Kd.R (Kd.int .i64) 3 w108 w.heap.size (fun k_ => some k_ ≠ (.slice Ao100 y185.length co100 : Value).ownBlock) (.slice (some ⟨go85, 0, none⟩) y191.length co99) y199 := (by rw [hw, Ny199.out]; exact HP107.1); clear HP107; replace BK177 := bgr_ BK177 hg HO193 BK177; replace BK178 := bgr_ BK178 hg HO193 BK178; replace HO187 := Aside0.mk (Kd.R_after (v := (.slice (some ⟨go85, 0, none⟩) y191.length co99)) (v1 := (.slice (some ⟨go85, 0, none⟩) y191.length co99)) (ok := (fun _ => True)) (by exact kr_ (Kd.R_mono HO187.out (fun _ hk => ⟨trivial, hk⟩))) hg (.inl rfl)); replace BK194 := bgr_ BK194 hg HO193 BK194; replace HO193 := Aside0.mk (hp_); replace HB := Aside0.mk ((by rw [hw]; exact below_set (HB.out) GB85.out : Below w.heap.size w w108)); clear hg hw hp_; have hcz109_0 : w108.cell? ⟨gb194, 0, none⟩ = some (.slice Ao100 y185.length co100) := bc_ BK194.out 0; have hcz109_1 : w108.cell? ⟨gb194, 1, none⟩ = some (.slice (some ⟨go85, 0, none⟩) y191.length co99) := bc_ BK194.out 1; have hfz109_0 := blk_frozen BK194.out 0; have hfz109_1 := blk_frozen BK194.out 1) | ((with_reducible refine gate_callee (f := 35) rfl ?_); refine goesL_ (some 51) rfl rfl Try.func35 (by kernel_rfl) rfl #[.agg #[.slice Ao100 y185.length co100, .slice (some ⟨go85, 0, none⟩) y199.length co99]] rfl (by (try simp only [List.map_toArray, List.map_cons, List.map_nil]); first | done | (rw [show y199.length = y191.length from (Kd.R_reads' HO193.out).1.symm] <;> rfl) | rfl | (simp only [List.length_drop, List.length_take]; rfl)) ?_; (with_reducible refine (impl_isCounter.calls _ _ y185 _ _ y199 true _ ?side1 ?side2 ?side3 ?side4 A86.out).mono ?_); (case side1 => exact kc_ (Kd.R_reads' HO187.out).2.2); (case side2 => exact (Kd.R_reads' HO187.out).2.1); (case side3 => exact kc_ (Kd.R_reads' HO193.out).2.2); (case side4 => rw [show y199.length = y191.length from (Kd.R_reads' HO193.out).1.symm]; exact (Kd.R_reads' HO193.out).2.1); rintro e w110 ⟨rfl, hb⟩; refine ⟨_, rfl, ?_⟩; replace HO187 := rb_ HO187 hb; replace HO193 := rb_ HO193 hb; replace BK177 := bb_ BK177 hb; replace BK178 := bb_ BK178 hb; replace BK194 := bb_ BK194 hb; replace HB := Aside0.mk (below_step bl_ hb); clear hb; have hcz111_0 : w110.cell? ⟨gb194, 0, none⟩ = some (.slice Ao100 y185.length co100) := bc_ BK194.out 0; have hcz111_1 : w110.cell? ⟨gb194, 1, none⟩ = some (.slice (some ⟨go85, 0, none⟩) y191.length co99) := bc_ BK194.out 1; have hfz111_0 := blk_frozen BK194.out 0; have hfz111_1 := blk_frozen BK194.out 1; have hnb112 := NB178_177.out; have hnc112 := NB177_178.out; have hcz113_0 : w110.cell? ⟨gb178, 0, none⟩ = some (.slice none 0 0) := bc_ BK178.out 0; have hcz113_1 : w110.cell? ⟨gb178, 1, none⟩ = some (.slice none 0 0) := bc_ BK178.out 1; have hfz113_0 := blk_frozen BK178.out 0; have hfz113_1 := blk_frozen BK178.out 1))
 refine bodyPost_ret (results_ct rfl _ _ gb178 27 #[.slice Ao100 y185.length co100, .slice (some ⟨go85, 0, none⟩) y191.length co99] (0, 0) _ rfl (by (with_reducible repeat (first | refine blk_drewN ?_ _ | refine blk_drew ?_ | refine blk_alloc ?_ _)); refine blk_put (cs := #[.slice Ao100 y185.length co100, .slice none 0 0]) ?_ 1 _ rfl; (with_reducible repeat (first | refine blk_drewN ?_ _ | refine blk_drew ?_ | refine blk_alloc ?_ _)); refine blk_put (cs := #[.slice none 0 0, .slice none 0 0]) ?_ 0 _ rfl; exact kb_ BK178.out) Try.underlying27 rfl (by kernel_rfl)) rfl ?_
 exact ⟨_, _, ng_, by exact kr_ (Kd.R_mono (Kd.R_far (p := ⟨gb178, 1, none⟩) (Kd.R_far (p := ⟨gb178, 0, none⟩) (Kd.R_types HO187.out BK178.out (by decide)) (fun _ hk => hk.2) (.slice Ao100 y185.length co100)) (fun _ hk => hk.2) (.slice (some ⟨go85, 0, none⟩) y191.length co99)) (fun _ hk => hk.1.2)), by exact kr_ (Kd.R_mono (Kd.R_far (p := ⟨gb178, 1, none⟩) (Kd.R_far (p := ⟨gb178, 0, none⟩) (Kd.R_types HO193.out BK178.out (by decide)) (fun _ hk => hk.2) (.slice Ao100 y185.length co100)) (fun _ hk => hk.2) (.slice (some ⟨go85, 0, none⟩) y191.length co99)) (fun _ hk => hk.1)), bl_⟩

end Go.Proofs.Ytcloilddgimamaa.PFC
