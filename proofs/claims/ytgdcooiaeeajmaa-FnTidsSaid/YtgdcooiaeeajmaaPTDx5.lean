/- What this text proves: the machine calls of these functions return what the plain functions say. Conditions: as each theorem says. Printed by a program of this session out of the translation. -/
import Derived.Test.YtgdcooiaeeajmaaPTDx0
import Derived.Test.YtgdcooiaeeajmaaPTDx1
import Derived.Test.YtgdcooiaeeajmaaPTDx2
import Derived.Test.YtgdcooiaeeajmaaPTDx3
import Derived.Test.YtgdcooiaeeajmaaPTDx4
namespace Go.Proofs.Ytgdcooiaeeajmaa.PTD
open Go.RowKit Go.Proofs.YtgdcooiaeeajmaaW.PrintWords Go.Proofs.YtgdcooiaeeajmaaW.PrintLast Go.Proofs.YtgdcooiaeeajmaaW.PrintMore
attribute [local go_sem] max2_int min2_int max_two min_two max_three min_three max_four min_four   -- for this text's walks alone
set_option linter.unusedVariables false
set_option linter.unusedSimpArgs false

attribute [local go_sem high] eqA27
/-! ### laws_FnTids: function 4 -/
mutual
def laws_FnTids.j0 : Nat → List Int → Int → Bool → Bool → Int → Int → Bool → Int → Int → Bool → Option (Bool)
 | 0, _, _, _, _, _, _, _, _, _, _ => none
 | k + 1, x1, x7, x8, x54, x219000, x219001, x219002, x220000, x220001, x220002 => if x54 = true then (none) else ((impl_PackTid.f x219000 x219001 x219002).bind fun bt224 => ((impl_PackTid.f x220000 x220001 x220002).bind fun bt226 => (if bt224.2 = true then (laws_FnTids.j1 k x1 x7 x8 bt224.1 bt224.2 bt226.1 (bt226.2 != x8) x219000 x219001 x219002) else (laws_FnTids.j1 k x1 x7 x8 bt224.1 bt224.2 bt226.1 (false != x8) x219000 x219001 x219002))))
def laws_FnTids.j1 : Nat → List Int → Int → Bool → Int → Bool → Int → Bool → Int → Int → Bool → Option (Bool)
 | 0, _, _, _, _, _, _, _, _, _, _ => none
 | k + 1, x1, x7, x8, x11, x12, x13, x70, x219000, x219001, x219002 => if x70 = true then (none) else (if x8 = true then (if ((decide ((x11 / 2) < (x13 / 2))) != (decide (x7 < 0))) = true then (none) else (laws_FnTids.j2 k x1 x11 x12 (((x11 / 2) == (x13 / 2)) != (x7 == 0)) x219000 x219001 x219002)) else (laws_FnTids.j2 k x1 x11 x12 false x219000 x219001 x219002))
def laws_FnTids.j2 : Nat → List Int → Int → Bool → Bool → Int → Int → Bool → Option (Bool)
 | 0, _, _, _, _, _, _, _ => none
 | k + 1, x1, x11, x12, x94, x219000, x219001, x219002 => if x94 = true then (none) else (if x12 = true then ((impl_UnpackTid.f x11).bind fun bt228 => (if bt228.2.2.2 = true then (if (!(bt228.1 == x219000) || (!(bt228.2.1 == x219001) || (!(bt228.2.2.1 == x219002)))) = true then (none) else (laws_FnTids.j3 k x1)) else (none))) else (laws_FnTids.j3 k x1))
def laws_FnTids.j3 : Nat → List Int → Option (Bool)
 | 0, _ => none
 | k + 1, x1 => (spec_DrawUnpackTid.f k x1).bind fun t233 => ((impl_UnpackTid.f t233).bind fun bt234 => ((spec_UnpackTid.f t233).bind fun bt239 => (if (bt234.2.2.2 != bt239.2.2.2) = true then (none) else (laws_FnTids.j4 k t233 bt234.2.2.2 (!(bt234.1 == bt239.1) || (!(bt234.2.1 == bt239.2.1) || (!(bt234.2.2.1 == bt239.2.2.1)))) bt234.1 bt234.2.1 bt234.2.2.1))))
def laws_FnTids.j4 : Nat → Int → Bool → Bool → Int → Int → Bool → Option (Bool)
 | 0, _, _, _, _, _, _ => none
 | k + 1, x17, x19, x127, x239000, x239001, x239002 => if x127 = true then (none) else (if x19 = true then ((impl_PackTid.f x239000 x239001 x239002).bind fun bt244 => (if bt244.2 = true then (some (bt244.1 == x17)) else (none))) else (some (x239000 == 0 && (x239001 == 0 && (!x239002)))))
end
def laws_FnTids.f (k : Nat) (l0 : List Int) (l1 : List Int) : Option (Bool) := if (wrap64 ((l0.length : Int) + (l1.length : Int))) > 1048576 then (some true) else ((spec_DrawCompareTid.f l0).bind fun bt212 => ((impl_CompareTid.f k bt212.1 bt212.2.1 bt212.2.2.1 bt212.2.2.2.1 bt212.2.2.2.2.1 bt212.2.2.2.2.2).bind fun bt220 => ((spec_CompareTid.f k bt212.1 bt212.2.1 bt212.2.2.1 bt212.2.2.2.1 bt212.2.2.2.2.1 bt212.2.2.2.2.2).bind fun bt222 => (if (bt220.2 != bt222.2) = true then (none) else (laws_FnTids.j0 k l1 bt220.1 bt220.2 (bt220.1 != bt222.1) bt212.1 bt212.2.1 bt212.2.2.1 bt212.2.2.2.1 bt212.2.2.2.2.1 bt212.2.2.2.2.2)))))
theorem laws_FnTids.mono_l : ∀ k, (∀ y0 y1 y2 y3 y4 y5 y6 y7 y8 y9, LeO (laws_FnTids.j0 k y0 y1 y2 y3 y4 y5 y6 y7 y8 y9) (laws_FnTids.j0 (k + 1) y0 y1 y2 y3 y4 y5 y6 y7 y8 y9)) ∧ (∀ y0 y1 y2 y3 y4 y5 y6 y7 y8 y9, LeO (laws_FnTids.j1 k y0 y1 y2 y3 y4 y5 y6 y7 y8 y9) (laws_FnTids.j1 (k + 1) y0 y1 y2 y3 y4 y5 y6 y7 y8 y9)) ∧ (∀ y0 y1 y2 y3 y4 y5 y6, LeO (laws_FnTids.j2 k y0 y1 y2 y3 y4 y5 y6) (laws_FnTids.j2 (k + 1) y0 y1 y2 y3 y4 y5 y6)) ∧ (∀ y0, LeO (laws_FnTids.j3 k y0) (laws_FnTids.j3 (k + 1) y0)) ∧ (∀ y0 y1 y2 y3 y4 y5, LeO (laws_FnTids.j4 k y0 y1 y2 y3 y4 y5) (laws_FnTids.j4 (k + 1) y0 y1 y2 y3 y4 y5))
 | 0 => ⟨fun _ _ _ _ _ _ _ _ _ _ r h => by simp [laws_FnTids.j0] at h, fun _ _ _ _ _ _ _ _ _ _ r h => by simp [laws_FnTids.j1] at h, fun _ _ _ _ _ _ _ r h => by simp [laws_FnTids.j2] at h, fun _ r h => by simp [laws_FnTids.j3] at h, fun _ _ _ _ _ _ r h => by simp [laws_FnTids.j4] at h⟩
 | k + 1 => by
  obtain ⟨ih0, ih1, ih2, ih3, ih4⟩ := laws_FnTids.mono_l k
  refine ⟨?_, ?_, ?_, ?_, ?_⟩
  ·intro y0 y1 y2 y3 y4 y5 y6 y7 y8 y9
   unfold laws_FnTids.j0
   repeat' first
   | (with_reducible exact ih0 _ _ _ _ _ _ _ _ _ _)
   | (with_reducible exact ih1 _ _ _ _ _ _ _ _ _ _)
   | (with_reducible exact ih2 _ _ _ _ _ _ _)
   | (with_reducible exact ih3 _)
   | (with_reducible exact ih4 _ _ _ _ _ _)
   | (with_reducible exact impl_CompareTid.mono _ _ _ _ _ _ _)
   | (with_reducible exact spec_CompareTid.mono _ _ _ _ _ _ _)
   | (with_reducible exact spec_DrawUnpackTid.mono _ _)
   | (with_reducible exact LeO.refl _)
   | (with_reducible exact LeO.none _)
   | (with_reducible refine LeO.ite ?_ ?_)
   | (with_reducible refine LeO.bind ?_ (fun _ => ?_))
   | exact ih0 _ _ _ _ _ _ _ _ _ _
   | exact ih1 _ _ _ _ _ _ _ _ _ _
   | exact ih2 _ _ _ _ _ _ _
   | exact ih3 _
   | exact ih4 _ _ _ _ _ _
   | exact impl_CompareTid.mono _ _ _ _ _ _ _
   | exact spec_CompareTid.mono _ _ _ _ _ _ _
   | exact spec_DrawUnpackTid.mono _ _
   | exact LeO.none _
   | refine LeO.ite ?_ ?_
   | refine LeO.bind ?_ (fun _ => ?_)
  ·intro y0 y1 y2 y3 y4 y5 y6 y7 y8 y9
   unfold laws_FnTids.j1
   repeat' first
   | (with_reducible exact ih0 _ _ _ _ _ _ _ _ _ _)
   | (with_reducible exact ih1 _ _ _ _ _ _ _ _ _ _)
   | (with_reducible exact ih2 _ _ _ _ _ _ _)
   | (with_reducible exact ih3 _)
   | (with_reducible exact ih4 _ _ _ _ _ _)
   | (with_reducible exact impl_CompareTid.mono _ _ _ _ _ _ _)
   | (with_reducible exact spec_CompareTid.mono _ _ _ _ _ _ _)
   | (with_reducible exact spec_DrawUnpackTid.mono _ _)
   | (with_reducible exact LeO.refl _)
   | (with_reducible exact LeO.none _)
   | (with_reducible refine LeO.ite ?_ ?_)
   | (with_reducible refine LeO.bind ?_ (fun _ => ?_))
   | exact ih0 _ _ _ _ _ _ _ _ _ _
   | exact ih1 _ _ _ _ _ _ _ _ _ _
   | exact ih2 _ _ _ _ _ _ _
   | exact ih3 _
   | exact ih4 _ _ _ _ _ _
   | exact impl_CompareTid.mono _ _ _ _ _ _ _
   | exact spec_CompareTid.mono _ _ _ _ _ _ _
   | exact spec_DrawUnpackTid.mono _ _
   | exact LeO.none _
   | refine LeO.ite ?_ ?_
   | refine LeO.bind ?_ (fun _ => ?_)
  ·intro y0 y1 y2 y3 y4 y5 y6
   unfold laws_FnTids.j2
   repeat' first
   | (with_reducible exact ih0 _ _ _ _ _ _ _ _ _ _)
   | (with_reducible exact ih1 _ _ _ _ _ _ _ _ _ _)
   | (with_reducible exact ih2 _ _ _ _ _ _ _)
   | (with_reducible exact ih3 _)
   | (with_reducible exact ih4 _ _ _ _ _ _)
   | (with_reducible exact impl_CompareTid.mono _ _ _ _ _ _ _)
   | (with_reducible exact spec_CompareTid.mono _ _ _ _ _ _ _)
   | (with_reducible exact spec_DrawUnpackTid.mono _ _)
   | (with_reducible exact LeO.refl _)
   | (with_reducible exact LeO.none _)
   | (with_reducible refine LeO.ite ?_ ?_)
   | (with_reducible refine LeO.bind ?_ (fun _ => ?_))
   | exact ih0 _ _ _ _ _ _ _ _ _ _
   | exact ih1 _ _ _ _ _ _ _ _ _ _
   | exact ih2 _ _ _ _ _ _ _
   | exact ih3 _
   | exact ih4 _ _ _ _ _ _
   | exact impl_CompareTid.mono _ _ _ _ _ _ _
   | exact spec_CompareTid.mono _ _ _ _ _ _ _
   | exact spec_DrawUnpackTid.mono _ _
   | exact LeO.none _
   | refine LeO.ite ?_ ?_
   | refine LeO.bind ?_ (fun _ => ?_)
  ·intro y0
   unfold laws_FnTids.j3
   repeat' first
   | (with_reducible exact ih0 _ _ _ _ _ _ _ _ _ _)
   | (with_reducible exact ih1 _ _ _ _ _ _ _ _ _ _)
   | (with_reducible exact ih2 _ _ _ _ _ _ _)
   | (with_reducible exact ih3 _)
   | (with_reducible exact ih4 _ _ _ _ _ _)
   | (with_reducible exact impl_CompareTid.mono _ _ _ _ _ _ _)
   | (with_reducible exact spec_CompareTid.mono _ _ _ _ _ _ _)
   | (with_reducible exact spec_DrawUnpackTid.mono _ _)
   | (with_reducible exact LeO.refl _)
   | (with_reducible exact LeO.none _)
   | (with_reducible refine LeO.ite ?_ ?_)
   | (with_reducible refine LeO.bind ?_ (fun _ => ?_))
   | exact ih0 _ _ _ _ _ _ _ _ _ _
   | exact ih1 _ _ _ _ _ _ _ _ _ _
   | exact ih2 _ _ _ _ _ _ _
   | exact ih3 _
   | exact ih4 _ _ _ _ _ _
   | exact impl_CompareTid.mono _ _ _ _ _ _ _
   | exact spec_CompareTid.mono _ _ _ _ _ _ _
   | exact spec_DrawUnpackTid.mono _ _
   | exact LeO.none _
   | refine LeO.ite ?_ ?_
   | refine LeO.bind ?_ (fun _ => ?_)
  ·intro y0 y1 y2 y3 y4 y5
   unfold laws_FnTids.j4
   repeat' first
   | (with_reducible exact ih0 _ _ _ _ _ _ _ _ _ _)
   | (with_reducible exact ih1 _ _ _ _ _ _ _ _ _ _)
   | (with_reducible exact ih2 _ _ _ _ _ _ _)
   | (with_reducible exact ih3 _)
   | (with_reducible exact ih4 _ _ _ _ _ _)
   | (with_reducible exact impl_CompareTid.mono _ _ _ _ _ _ _)
   | (with_reducible exact spec_CompareTid.mono _ _ _ _ _ _ _)
   | (with_reducible exact spec_DrawUnpackTid.mono _ _)
   | (with_reducible exact LeO.refl _)
   | (with_reducible exact LeO.none _)
   | (with_reducible refine LeO.ite ?_ ?_)
   | (with_reducible refine LeO.bind ?_ (fun _ => ?_))
   | exact ih0 _ _ _ _ _ _ _ _ _ _
   | exact ih1 _ _ _ _ _ _ _ _ _ _
   | exact ih2 _ _ _ _ _ _ _
   | exact ih3 _
   | exact ih4 _ _ _ _ _ _
   | exact impl_CompareTid.mono _ _ _ _ _ _ _
   | exact spec_CompareTid.mono _ _ _ _ _ _ _
   | exact spec_DrawUnpackTid.mono _ _
   | exact LeO.none _
   | refine LeO.ite ?_ ?_
   | refine LeO.bind ?_ (fun _ => ?_)
theorem laws_FnTids.mono : ∀ a0 a1 k, LeO (laws_FnTids.f k a0 a1) (laws_FnTids.f (k + 1) a0 a1) := by
 intro a0 a1 k
 obtain ⟨ih0, ih1, ih2, ih3, ih4⟩ := laws_FnTids.mono_l k
 unfold laws_FnTids.f
 repeat' first
   | (with_reducible exact ih0 _ _ _ _ _ _ _ _ _ _)
   | (with_reducible exact ih1 _ _ _ _ _ _ _ _ _ _)
   | (with_reducible exact ih2 _ _ _ _ _ _ _)
   | (with_reducible exact ih3 _)
   | (with_reducible exact ih4 _ _ _ _ _ _)
   | (with_reducible exact impl_CompareTid.mono _ _ _ _ _ _ _)
   | (with_reducible exact spec_CompareTid.mono _ _ _ _ _ _ _)
   | (with_reducible exact spec_DrawUnpackTid.mono _ _)
   | (with_reducible exact LeO.refl _)
   | (with_reducible exact LeO.none _)
   | (with_reducible refine LeO.ite ?_ ?_)
   | (with_reducible refine LeO.bind ?_ (fun _ => ?_))
   | exact ih0 _ _ _ _ _ _ _ _ _ _
   | exact ih1 _ _ _ _ _ _ _ _ _ _
   | exact ih2 _ _ _ _ _ _ _
   | exact ih3 _
   | exact ih4 _ _ _ _ _ _
   | exact impl_CompareTid.mono _ _ _ _ _ _ _
   | exact spec_CompareTid.mono _ _ _ _ _ _ _
   | exact spec_DrawUnpackTid.mono _ _
   | exact LeO.none _
   | refine LeO.ite ?_ ?_
   | refine LeO.bind ?_ (fun _ => ?_)
set_option maxHeartbeats 8000000 in
set_option maxRecDepth 100000 in
theorem laws_FnTids.calls (k : Nat) (A0 : Option Addr) (c0 : Nat) (l0 : List Int) (A1 : Option Addr) (c1 : Nat) (l1 : List Int) (r : Bool) (w : World) (hr0 : Kd.C (Kd.int .u8) w A0 l0.length l0) (hc0 : l0.length ≤ c0) (hr1 : Kd.C (Kd.int .u8) w A1 l1.length l1) (hc1 : l1.length ≤ c1) (h : laws_FnTids.f k l0 l1 = some r) :
  Calls Try.prog 4 #[.slice A0 l0.length c0, .slice A1 l1.length c1] w fun e w' => e = .returned (.bool r) ∧ Below w.heap.size w w' := by
 have hu27 := Try.underlying27
 have HR0 := Aside0.mk hr0
 have HC0 := Aside0.mk hc0
 clear hr0 hc0
 have HR1 := Aside0.mk hr1
 have HC1 := Aside0.mk hc1
 clear hr1 hc1
 have HB := Aside0.mk (Below.refl w.heap.size w)
 have H : (if (wrap64 ((l0.length : Int) + (l1.length : Int))) > 1048576 then (some true) else ((spec_DrawCompareTid.f l0).bind fun bt212 => ((impl_CompareTid.f k bt212.1 bt212.2.1 bt212.2.2.1 bt212.2.2.2.1 bt212.2.2.2.2.1 bt212.2.2.2.2.2).bind fun bt220 => ((spec_CompareTid.f k bt212.1 bt212.2.1 bt212.2.2.1 bt212.2.2.2.1 bt212.2.2.2.2.1 bt212.2.2.2.2.2).bind fun bt222 => (if (bt220.2 != bt222.2) = true then (none) else (laws_FnTids.j0 k l1 bt220.1 bt220.2 (bt220.1 != bt222.1) bt212.1 bt212.2.1 bt212.2.2.1 bt212.2.2.2.1 bt212.2.2.2.2.1 bt212.2.2.2.2.2)))))) = some r := h
 clear h
 by_cases c3 : (wrap64 ((l0.length : Int) + (l1.length : Int))) > 1048576
 ·rw [if_pos c3] at H
  have c3b0 : decide (1048576 < (wrap64 ((l0.length : Int) + (l1.length : Int)))) = true := decide_eq_true c3
  clear c3
  obtain rfl := Option.some.inj H
  go_enter Try.func4, Try.ntmps4
  go_wp2
  go_ret
  exact ⟨by first | rfl | (simp [errW_none, errW_some] <;> rfl) | (simp [*, errW_none, errW_some] <;> rfl), by repeat (first | (with_reducible first | exact HB.out | apply below_alloc | apply pw_below_drewN | apply below_drew1) | exact HB.out)⟩
 rw [if_neg c3] at H
 have c3b0 : decide (1048576 < (wrap64 ((l0.length : Int) + (l1.length : Int)))) = false := decide_eq_false c3
 clear c3
 replace H := Option.bind_eq_some_iff.mp H
 obtain ⟨⟨t212, t213, t214, t215, t216, t217⟩, A40, H⟩ := H
 replace H : ((impl_CompareTid.f k t212 t213 t214 t215 t216 t217).bind fun bt220 => ((spec_CompareTid.f k t212 t213 t214 t215 t216 t217).bind fun bt222 => (if (bt220.2 != bt222.2) = true then (none) else (laws_FnTids.j0 k l1 bt220.1 bt220.2 (bt220.1 != bt222.1) t212 t213 t214 t215 t216 t217)))) = some r := H
 have A4 := Aside0.mk A40
 clear A40
 replace H := Option.bind_eq_some_iff.mp H
 obtain ⟨⟨t220, t221⟩, A50, H⟩ := H
 replace H : ((spec_CompareTid.f k t212 t213 t214 t215 t216 t217).bind fun bt222 => (if (t221 != bt222.2) = true then (none) else (laws_FnTids.j0 k l1 t220 t221 (t220 != bt222.1) t212 t213 t214 t215 t216 t217))) = some r := H
 have A5 := Aside0.mk A50
 clear A50
 replace H := Option.bind_eq_some_iff.mp H
 obtain ⟨⟨t222, t223⟩, A60, H⟩ := H
 replace H : (if (t221 != t223) = true then (none) else (laws_FnTids.j0 k l1 t220 t221 (t220 != t222) t212 t213 t214 t215 t216 t217)) = some r := H
 have A6 := Aside0.mk A60
 clear A60
 have HC7 := Aside0.mk H
 clear H
 go_enter Try.func4, Try.ntmps4
 go_upto_region 6 with (first | ((with_reducible refine gate_callee (f := 11) rfl ?_); refine goesL_ (some 32) rfl rfl Try.func11 (by kernel_rfl) rfl #[.slice A0 l0.length c0] rfl (by (try simp only [List.map_toArray, List.map_cons, List.map_nil]); first | done | rfl | (simp only [List.length_drop, List.length_take]; rfl)) ?_; (with_reducible refine (spec_DrawCompareTid.calls _ _ l0 t212 t213 t214 t215 t216 t217 _ ?side1 ?side2 A4.out).mono ?_); (case side1 => repeat (first | exact HR0.out | (with_reducible refine Kd.C_alloc ?_ _) | (with_reducible refine Kd.C_drewN ?_ _) | (with_reducible refine Kd.C_drew ?_))); (case side2 => exact HC0.out); rintro e w8 ⟨rfl, hb⟩; refine ⟨_, rfl, ?_⟩; have n0_ := Aside0.mk (below_step (by repeat (first | (with_reducible first | exact HB.out | apply below_alloc | apply pw_below_drewN | apply below_drew1) | exact HB.out)) hb); clear HB; have HB := n0_; clear n0_; (try clear hb); (try clear hb2); (try clear hk); (try clear hi)) | ((with_reducible refine gate_dst (N := 5) rfl ?_); refine box_event ?hg (N := 5) ?hd (cs := #[.int .i64 0, .int .i64 0, .bool false]) (t := 27) ?hr ?_; (case hd => rfl); (case hg => rfl); (case hr => first | (go_simp; done) | (go_simp; rfl)); intro gb218 hg w9 hbox hb; have n0_ := Aside0.mk (below_step (by repeat (first | (with_reducible first | exact HB.out | apply below_alloc | apply pw_below_drewN | apply below_drew1) | exact HB.out)) hb); have n1_ := Aside0.mk (hbox); have n2_ := Aside0.mk ((by rw [hg]; exact (below_size (by repeat (first | (with_reducible first | exact HB.out | apply below_alloc | apply pw_below_drewN | apply below_drew1) | exact HB.out))) : w.heap.size ≤ gb218)); have n3_ := Aside0.mk ((by rw [hg]; exact (below_size (by repeat (first | (with_reducible first | exact HB.out | apply below_alloc | apply pw_below_drewN | apply below_drew1) | exact HB.out))) : w.heap.size ≤ gb218)); clear HB; have HB := n0_; have BK218 := n1_; have GW218 := n2_; have GE218 := n3_; clear n0_ n1_ n2_ n3_; clear hb hbox hg) | ((with_reducible refine gate_dst (N := 6) rfl ?_); refine box_event ?hg (N := 6) ?hd (cs := #[.int .i64 0, .int .i64 0, .bool false]) (t := 27) ?hr ?_; (case hd => rfl); (case hg => rfl); (case hr => first | (go_simp; done) | (go_simp; rfl)); intro gb219 hg w10 hbox hb; have n0_ := Aside0.mk (blk_below (g := gb218) (o := .cells #[.int .i64 0, .int .i64 0, .bool false] 27 (0, 0)) (by (with_reducible repeat (first | refine blk_drewN ?_ _ | refine blk_drew ?_ | refine blk_alloc ?_ _)); exact BK218.out) hb); have n1_ := Aside0.mk (below_step (by repeat (first | (with_reducible first | exact HB.out | apply below_alloc | apply pw_below_drewN | apply below_drew1 | refine below_set ?_ GE218.out) | exact HB.out)) hb); have n2_ := Aside0.mk (hbox); have n3_ := Aside0.mk ((by rw [hg]; exact (below_size (by repeat (first | (with_reducible first | exact HB.out | apply below_alloc | apply pw_below_drewN | apply below_drew1 | refine below_set ?_ GE218.out) | exact HB.out))) : w.heap.size ≤ gb219)); have n4_ := Aside0.mk ((by rw [hg]; exact (below_size (by repeat (first | (with_reducible first | exact HB.out | apply below_alloc | apply pw_below_drewN | apply below_drew1 | refine below_set ?_ GE218.out) | exact HB.out))) : w.heap.size ≤ gb219)); have n5_ := Aside0.mk ((by rw [hg]; exact Nat.ne_of_lt (blk_lt (g := gb218) (o := .cells #[.int .i64 0, .int .i64 0, .bool false] 27 (0, 0)) (by (with_reducible repeat (first | refine blk_drewN ?_ _ | refine blk_drew ?_ | refine blk_alloc ?_ _)); exact BK218.out)) : gb218 ≠ gb219)); have n6_ := Aside0.mk ((by rw [hg]; exact Nat.ne_of_gt (blk_lt (g := gb218) (o := .cells #[.int .i64 0, .int .i64 0, .bool false] 27 (0, 0)) (by (with_reducible repeat (first | refine blk_drewN ?_ _ | refine blk_drew ?_ | refine blk_alloc ?_ _)); exact BK218.out)) : gb219 ≠ gb218)); clear BK218; clear HB; have BK218 := n0_; have HB := n1_; have BK219 := n2_; have GW219 := n3_; have GE219 := n4_; have NB218_219 := n5_; have NB219_218 := n6_; clear n0_ n1_ n2_ n3_ n4_ n5_ n6_; clear hb hbox hg; have hnb11 := NB218_219.out; have hnc11 := NB219_218.out; have hcz12_0 : w10.cell? ⟨gb218, 0, none⟩ = some (.int .i64 0) := (blk_cell BK218.out 0).trans rfl; have hcz12_1 : w10.cell? ⟨gb218, 1, none⟩ = some (.int .i64 0) := (blk_cell BK218.out 1).trans rfl; have hcz12_2 : w10.cell? ⟨gb218, 2, none⟩ = some (.bool false) := (blk_cell BK218.out 2).trans rfl; have hfz12_0 := blk_frozen BK218.out 0; have hfz12_1 := blk_frozen BK218.out 1; have hfz12_2 := blk_frozen BK218.out 2; have hcz13_0 : w10.cell? ⟨gb219, 0, none⟩ = some (.int .i64 0) := (blk_cell BK219.out 0).trans rfl; have hcz13_1 : w10.cell? ⟨gb219, 1, none⟩ = some (.int .i64 0) := (blk_cell BK219.out 1).trans rfl; have hcz13_2 : w10.cell? ⟨gb219, 2, none⟩ = some (.bool false) := (blk_cell BK219.out 2).trans rfl; have hfz13_0 := blk_frozen BK219.out 0; have hfz13_1 := blk_frozen BK219.out 1; have hfz13_2 := blk_frozen BK219.out 2) | ((with_reducible refine gate_callee (f := 9) rfl ?_); refine goesL_ (some 38) rfl rfl Try.func9 (by kernel_rfl) rfl #[.agg #[.int .i64 t212, .int .i64 t213, .bool t214], .agg #[.int .i64 t215, .int .i64 t216, .bool t217]] rfl (by (try simp only [List.map_toArray, List.map_cons, List.map_nil]); first | done | rfl | (simp only [List.length_drop, List.length_take]; rfl)) ?_; (with_reducible refine (impl_CompareTid.calls k t212 t213 t214 t215 t216 t217 t220 t221 _ A5.out).mono ?_); rintro e w14 ⟨rfl, hb⟩; refine ⟨_, rfl, ?_⟩; have n0_ := Aside0.mk (blk_below (g := gb218) (o := .cells #[.int .i64 t212, .int .i64 t213, .bool t214] 27 (0, 0)) (by (with_reducible repeat (first | refine blk_drewN ?_ _ | refine blk_drew ?_ | refine blk_alloc ?_ _)); refine blk_far ?_ NB218_219.out _; (with_reducible repeat (first | refine blk_drewN ?_ _ | refine blk_drew ?_ | refine blk_alloc ?_ _)); refine blk_far ?_ NB218_219.out _; (with_reducible repeat (first | refine blk_drewN ?_ _ | refine blk_drew ?_ | refine blk_alloc ?_ _)); refine blk_far ?_ NB218_219.out _; (with_reducible repeat (first | refine blk_drewN ?_ _ | refine blk_drew ?_ | refine blk_alloc ?_ _)); refine blk_put (cs := #[.int .i64 t212, .int .i64 t213, .bool false]) ?_ 2 _ rfl; (with_reducible repeat (first | refine blk_drewN ?_ _ | refine blk_drew ?_ | refine blk_alloc ?_ _)); refine blk_put (cs := #[.int .i64 t212, .int .i64 0, .bool false]) ?_ 1 _ rfl; (with_reducible repeat (first | refine blk_drewN ?_ _ | refine blk_drew ?_ | refine blk_alloc ?_ _)); refine blk_put (cs := #[.int .i64 0, .int .i64 0, .bool false]) ?_ 0 _ rfl; (with_reducible repeat (first | refine blk_drewN ?_ _ | refine blk_drew ?_ | refine blk_alloc ?_ _)); exact BK218.out) hb); have n1_ := Aside0.mk (blk_below (g := gb219) (o := .cells #[.int .i64 t215, .int .i64 t216, .bool t217] 27 (0, 0)) (by (with_reducible repeat (first | refine blk_drewN ?_ _ | refine blk_drew ?_ | refine blk_alloc ?_ _)); refine blk_put (cs := #[.int .i64 t215, .int .i64 t216, .bool false]) ?_ 2 _ rfl; (with_reducible repeat (first | refine blk_drewN ?_ _ | refine blk_drew ?_ | refine blk_alloc ?_ _)); refine blk_put (cs := #[.int .i64 t215, .int .i64 0, .bool false]) ?_ 1 _ rfl; (with_reducible repeat (first | refine blk_drewN ?_ _ | refine blk_drew ?_ | refine blk_alloc ?_ _)); refine blk_put (cs := #[.int .i64 0, .int .i64 0, .bool false]) ?_ 0 _ rfl; (with_reducible repeat (first | refine blk_drewN ?_ _ | refine blk_drew ?_ | refine blk_alloc ?_ _)); refine blk_far ?_ NB219_218.out _; (with_reducible repeat (first | refine blk_drewN ?_ _ | refine blk_drew ?_ | refine blk_alloc ?_ _)); refine blk_far ?_ NB219_218.out _; (with_reducible repeat (first | refine blk_drewN ?_ _ | refine blk_drew ?_ | refine blk_alloc ?_ _)); refine blk_far ?_ NB219_218.out _; (with_reducible repeat (first | refine blk_drewN ?_ _ | refine blk_drew ?_ | refine blk_alloc ?_ _)); exact BK219.out) hb); have n2_ := Aside0.mk (below_step (by repeat (first | (with_reducible first | exact HB.out | apply below_alloc | apply pw_below_drewN | apply below_drew1 | refine below_set ?_ GE218.out | refine below_set ?_ GE219.out) | exact HB.out)) hb); clear BK218; clear BK219; clear HB; have BK218 := n0_; have BK219 := n1_; have HB := n2_; clear n0_ n1_ n2_; (try clear hb); (try clear hb2); (try clear hk); (try clear hi); have hcz15_0 : w14.cell? ⟨gb218, 0, none⟩ = some (.int .i64 t212) := (blk_cell BK218.out 0).trans rfl; have hcz15_1 : w14.cell? ⟨gb218, 1, none⟩ = some (.int .i64 t213) := (blk_cell BK218.out 1).trans rfl; have hcz15_2 : w14.cell? ⟨gb218, 2, none⟩ = some (.bool t214) := (blk_cell BK218.out 2).trans rfl; have hfz15_0 := blk_frozen BK218.out 0; have hfz15_1 := blk_frozen BK218.out 1; have hfz15_2 := blk_frozen BK218.out 2; have hcz16_0 : w14.cell? ⟨gb219, 0, none⟩ = some (.int .i64 t215) := (blk_cell BK219.out 0).trans rfl; have hcz16_1 : w14.cell? ⟨gb219, 1, none⟩ = some (.int .i64 t216) := (blk_cell BK219.out 1).trans rfl; have hcz16_2 : w14.cell? ⟨gb219, 2, none⟩ = some (.bool t217) := (blk_cell BK219.out 2).trans rfl; have hfz16_0 := blk_frozen BK219.out 0; have hfz16_1 := blk_frozen BK219.out 1; have hfz16_2 := blk_frozen BK219.out 2) | ((with_reducible refine gate_callee (f := 10) rfl ?_); refine goesL_ (some 44) rfl rfl Try.func10 (by kernel_rfl) rfl #[.agg #[.int .i64 t212, .int .i64 t213, .bool t214], .agg #[.int .i64 t215, .int .i64 t216, .bool t217]] rfl (by (try simp only [List.map_toArray, List.map_cons, List.map_nil]); first | done | rfl | (simp only [List.length_drop, List.length_take]; rfl)) ?_; (with_reducible refine (spec_CompareTid.calls k t212 t213 t214 t215 t216 t217 t222 t223 _ A6.out).mono ?_); rintro e w17 ⟨rfl, hb⟩; refine ⟨_, rfl, ?_⟩; have n0_ := Aside0.mk (blk_below (g := gb218) (o := .cells #[.int .i64 t212, .int .i64 t213, .bool t214] 27 (0, 0)) (by (with_reducible repeat (first | refine blk_drewN ?_ _ | refine blk_drew ?_ | refine blk_alloc ?_ _)); exact BK218.out) hb); have n1_ := Aside0.mk (blk_below (g := gb219) (o := .cells #[.int .i64 t215, .int .i64 t216, .bool t217] 27 (0, 0)) (by (with_reducible repeat (first | refine blk_drewN ?_ _ | refine blk_drew ?_ | refine blk_alloc ?_ _)); exact BK219.out) hb); have n2_ := Aside0.mk (below_step (by repeat (first | (with_reducible first | exact HB.out | apply below_alloc | apply pw_below_drewN | apply below_drew1 | refine below_set ?_ GE218.out | refine below_set ?_ GE219.out) | exact HB.out)) hb); clear BK218; clear BK219; clear HB; have BK218 := n0_; have BK219 := n1_; have HB := n2_; clear n0_ n1_ n2_; (try clear hb); (try clear hb2); (try clear hk); (try clear hi)))
 (try simp only [Act.put, List.setIfInBounds_toArray, List.set_cons_zero, List.set_cons_succ])
 go_cut [54] (fun v54 wc => ∃ (kq : Nat) (x54_6 : Bool), v54 = .bool x54_6 ∧ Aside0 (laws_FnTids.j0 kq l1 t220 t221 x54_6 t212 t213 t214 t215 t216 t217 = some r) ∧ Aside0 (kq ≤ k) ∧ Aside0 (wc.heap[gb218]? = some (.cells #[.int .i64 t212, .int .i64 t213, .bool t214] 27 (0, 0))) ∧ Aside0 (wc.heap[gb219]? = some (.cells #[.int .i64 t215, .int .i64 t216, .bool t217] 27 (0, 0))) ∧ Aside0 (Below w.heap.size w wc))
 case first =>
  have H := HC7.out
  clear HC7
  by_cases c18 : (t221 != t223) = true
  ·rw [if_pos c18] at H
   exact absurd H (by simp)
  rw [if_neg c18] at H
  have c18b0 : (t221 != t223) = false := by simpa using c18
  (try (have c18b1 : decide (t221 = t223) = true := by simpa using c18))
  (try (have c18b2 : (t221 == t223) = true := by simpa using c18))
  clear c18
  (first | rw [c18b0] | (simp only [i64_w, i32_w]; rw [c18b0]) | skip)
  have H' := Aside0.mk H
  clear H
  go_wp2
  go_meet
  case rel => exact ⟨_, ((t220 != t222)), (by first | rfl | (simp; done) | (simp [*]; done)), H', ⟨by first | omega | exact Nat.le_refl _⟩, ⟨by (with_reducible repeat (first | refine blk_drewN ?_ _ | refine blk_drew ?_ | refine blk_alloc ?_ _)); exact BK218.out⟩, ⟨by (with_reducible repeat (first | refine blk_drewN ?_ _ | refine blk_drew ?_ | refine blk_alloc ?_ _)); exact BK219.out⟩, ⟨by repeat (first | (with_reducible first | exact HB.out | apply below_alloc | apply pw_below_drewN | apply below_drew1 | refine below_set ?_ GE218.out | refine below_set ?_ GE219.out) | exact HB.out)⟩⟩
 clear HC7
 try clear c1
 try clear p2
 try clear c3
 try clear c3b0
 try clear c4
 try clear p6
 try clear c9
 try clear c10
 try clear c11
 try clear c18
 try clear c18b0
 try clear c18b1
 try clear c18b2
 try clear hcz12_0
 try clear hcz12_1
 try clear hcz12_2
 try clear hcz13_0
 try clear hcz13_1
 try clear hcz13_2
 try clear hcz15_0
 try clear hcz15_1
 try clear hcz15_2
 try clear hcz16_0
 try clear hcz16_1
 try clear hcz16_2
 try clear hfz12_0
 try clear hfz12_1
 try clear hfz12_2
 try clear hfz13_0
 try clear hfz13_1
 try clear hfz13_2
 try clear hfz15_0
 try clear hfz15_1
 try clear hfz15_2
 try clear hfz16_0
 try clear hfz16_1
 try clear hfz16_2
 obtain ⟨kq, x54_6, rfl, HA, HJ6, BK218, BK219, HB⟩ := hcut
 cases kq with
 | zero => exact absurd HA.out (by simp [laws_FnTids.j0])
 | succ kj6 => ?_
 have H := HA.out
 clear HA
 simp only [laws_FnTids.j0] at H
 by_cases c19 : x54_6 = true
 ·subst c19
  have H1 : (none) = some r := by rw [if_pos rfl] at H; exact H
  clear H
  have H := H1
  clear H1
  exact absurd H (by simp)
 replace c19 := Bool.eq_false_iff.mpr c19
 subst c19
 have H1 : ((impl_PackTid.f t212 t213 t214).bind fun bt224 => ((impl_PackTid.f t215 t216 t217).bind fun bt226 => (if bt224.2 = true then (laws_FnTids.j1 kj6 l1 t220 t221 bt224.1 bt224.2 bt226.1 (bt226.2 != t221) t212 t213 t214) else (laws_FnTids.j1 kj6 l1 t220 t221 bt224.1 bt224.2 bt226.1 (false != t221) t212 t213 t214)))) = some r := by rw [if_neg (show ¬ (false = true) by decide)] at H; exact H
 clear H
 have H := H1
 clear H1
 replace H := Option.bind_eq_some_iff.mp H
 obtain ⟨⟨t224, t225⟩, A200, H⟩ := H
 replace H : ((impl_PackTid.f t215 t216 t217).bind fun bt226 => (if t225 = true then (laws_FnTids.j1 kj6 l1 t220 t221 t224 t225 bt226.1 (bt226.2 != t221) t212 t213 t214) else (laws_FnTids.j1 kj6 l1 t220 t221 t224 t225 bt226.1 (false != t221) t212 t213 t214))) = some r := H
 have A20 := Aside0.mk A200
 clear A200
 replace H := Option.bind_eq_some_iff.mp H
 obtain ⟨⟨t226, t227⟩, A210, H⟩ := H
 replace H : (if t225 = true then (laws_FnTids.j1 kj6 l1 t220 t221 t224 t225 t226 (t227 != t221) t212 t213 t214) else (laws_FnTids.j1 kj6 l1 t220 t221 t224 t225 t226 (false != t221) t212 t213 t214)) = some r := H
 have A21 := Aside0.mk A210
 clear A210
 have HC22 := Aside0.mk H
 clear H
 have hnb23 := NB218_219.out
 have hnc23 := NB219_218.out
 have hcz24_0 : wc.cell? ⟨gb218, 0, none⟩ = some (.int .i64 t212) := (blk_cell BK218.out 0).trans rfl
 have hcz24_1 : wc.cell? ⟨gb218, 1, none⟩ = some (.int .i64 t213) := (blk_cell BK218.out 1).trans rfl
 have hcz24_2 : wc.cell? ⟨gb218, 2, none⟩ = some (.bool t214) := (blk_cell BK218.out 2).trans rfl
 have hfz24_0 := blk_frozen BK218.out 0
 have hfz24_1 := blk_frozen BK218.out 1
 have hfz24_2 := blk_frozen BK218.out 2
 go_upto_region 10 with (first | ((with_reducible refine gate_callee (f := 12) rfl ?_); refine goesL_ (some 57) rfl rfl Try.func12 (by kernel_rfl) rfl #[.agg #[.int .i64 t212, .int .i64 t213, .bool t214]] rfl (by (try simp only [List.map_toArray, List.map_cons, List.map_nil]); first | done | rfl | (simp only [List.length_drop, List.length_take]; rfl)) ?_; (with_reducible refine (impl_PackTid.calls t212 t213 t214 t224 t225 _ A20.out).mono ?_); rintro e w25 ⟨rfl, hb⟩; refine ⟨_, rfl, ?_⟩; have n0_ := Aside0.mk (blk_below (g := gb218) (o := .cells #[.int .i64 t212, .int .i64 t213, .bool t214] 27 (0, 0)) (by (with_reducible repeat (first | refine blk_drewN ?_ _ | refine blk_drew ?_ | refine blk_alloc ?_ _)); exact BK218.out) hb); have n1_ := Aside0.mk (blk_below (g := gb219) (o := .cells #[.int .i64 t215, .int .i64 t216, .bool t217] 27 (0, 0)) (by (with_reducible repeat (first | refine blk_drewN ?_ _ | refine blk_drew ?_ | refine blk_alloc ?_ _)); exact BK219.out) hb); have n2_ := Aside0.mk (below_step (by repeat (first | (with_reducible first | exact HB.out | apply below_alloc | apply pw_below_drewN | apply below_drew1 | refine below_set ?_ GE218.out | refine below_set ?_ GE219.out) | exact HB.out)) hb); clear BK218; clear BK219; clear HB; have BK218 := n0_; have BK219 := n1_; have HB := n2_; clear n0_ n1_ n2_; (try clear hb); (try clear hb2); (try clear hk); (try clear hi); have hcz26_0 : w25.cell? ⟨gb219, 0, none⟩ = some (.int .i64 t215) := (blk_cell BK219.out 0).trans rfl; have hcz26_1 : w25.cell? ⟨gb219, 1, none⟩ = some (.int .i64 t216) := (blk_cell BK219.out 1).trans rfl; have hcz26_2 : w25.cell? ⟨gb219, 2, none⟩ = some (.bool t217) := (blk_cell BK219.out 2).trans rfl; have hfz26_0 := blk_frozen BK219.out 0; have hfz26_1 := blk_frozen BK219.out 1; have hfz26_2 := blk_frozen BK219.out 2) | ((with_reducible refine gate_callee (f := 12) rfl ?_); refine goesL_ (some 62) rfl rfl Try.func12 (by kernel_rfl) rfl #[.agg #[.int .i64 t215, .int .i64 t216, .bool t217]] rfl (by (try simp only [List.map_toArray, List.map_cons, List.map_nil]); first | done | rfl | (simp only [List.length_drop, List.length_take]; rfl)) ?_; (with_reducible refine (impl_PackTid.calls t215 t216 t217 t226 t227 _ A21.out).mono ?_); rintro e w27 ⟨rfl, hb⟩; refine ⟨_, rfl, ?_⟩; have n0_ := Aside0.mk (blk_below (g := gb218) (o := .cells #[.int .i64 t212, .int .i64 t213, .bool t214] 27 (0, 0)) (by (with_reducible repeat (first | refine blk_drewN ?_ _ | refine blk_drew ?_ | refine blk_alloc ?_ _)); exact BK218.out) hb); have n1_ := Aside0.mk (blk_below (g := gb219) (o := .cells #[.int .i64 t215, .int .i64 t216, .bool t217] 27 (0, 0)) (by (with_reducible repeat (first | refine blk_drewN ?_ _ | refine blk_drew ?_ | refine blk_alloc ?_ _)); exact BK219.out) hb); have n2_ := Aside0.mk (below_step (by repeat (first | (with_reducible first | exact HB.out | apply below_alloc | apply pw_below_drewN | apply below_drew1 | refine below_set ?_ GE218.out | refine below_set ?_ GE219.out) | exact HB.out)) hb); clear BK218; clear BK219; clear HB; have BK218 := n0_; have BK219 := n1_; have HB := n2_; clear n0_ n1_ n2_; (try clear hb); (try clear hb2); (try clear hk); (try clear hi)))
 (try simp only [Act.put, List.setIfInBounds_toArray, List.set_cons_zero, List.set_cons_succ])
 go_cut [70] (fun v70 wc => ∃ (kq : Nat) (x70_21 : Bool), v70 = .bool x70_21 ∧ Aside0 (laws_FnTids.j1 kq l1 t220 t221 t224 t225 t226 x70_21 t212 t213 t214 = some r) ∧ Aside0 (kq ≤ kj6) ∧ Aside0 (wc.heap[gb218]? = some (.cells #[.int .i64 t212, .int .i64 t213, .bool t214] 27 (0, 0))) ∧ Aside0 (wc.heap[gb219]? = some (.cells #[.int .i64 t215, .int .i64 t216, .bool t217] 27 (0, 0))) ∧ Aside0 (Below w.heap.size w wc))
 case first =>
  have H := HC22.out
  clear HC22
  by_cases c28 : t225 = true
  ·subst c28
   have H1 : (laws_FnTids.j1 kj6 l1 t220 t221 t224 true t226 (t227 != t221) t212 t213 t214) = some r := by rw [if_pos rfl] at H; exact H
   clear H
   have H := H1
   clear H1
   have H' := Aside0.mk H
   clear H
   go_wp2
   go_meet
   case rel => exact ⟨_, ((t227 != t221)), (by first | rfl | (simp; done) | (simp [*]; done)), H', ⟨by have := HJ6.out; first | omega | exact Nat.le_refl _⟩, ⟨by (with_reducible repeat (first | refine blk_drewN ?_ _ | refine blk_drew ?_ | refine blk_alloc ?_ _)); exact BK218.out⟩, ⟨by (with_reducible repeat (first | refine blk_drewN ?_ _ | refine blk_drew ?_ | refine blk_alloc ?_ _)); exact BK219.out⟩, ⟨by repeat (first | (with_reducible first | exact HB.out | apply below_alloc | apply pw_below_drewN | apply below_drew1 | refine below_set ?_ GE218.out | refine below_set ?_ GE219.out) | exact HB.out)⟩⟩
  replace c28 := Bool.eq_false_iff.mpr c28
  subst c28
  have H1 : (laws_FnTids.j1 kj6 l1 t220 t221 t224 false t226 (false != t221) t212 t213 t214) = some r := by rw [if_neg (show ¬ (false = true) by decide)] at H; exact H
  clear H
  have H := H1
  clear H1
  have H' := Aside0.mk H
  clear H
  go_wp2
  go_meet
  case rel => exact ⟨_, ((false != t221)), (by first | rfl | (simp; done) | (simp [*]; done)), H', ⟨by have := HJ6.out; first | omega | exact Nat.le_refl _⟩, ⟨by (with_reducible repeat (first | refine blk_drewN ?_ _ | refine blk_drew ?_ | refine blk_alloc ?_ _)); exact BK218.out⟩, ⟨by (with_reducible repeat (first | refine blk_drewN ?_ _ | refine blk_drew ?_ | refine blk_alloc ?_ _)); exact BK219.out⟩, ⟨by repeat (first | (with_reducible first | exact HB.out | apply below_alloc | apply pw_below_drewN | apply below_drew1 | refine below_set ?_ GE218.out | refine below_set ?_ GE219.out) | exact HB.out)⟩⟩
 clear HC22
 try clear c1
 try clear c2
 try clear p2
 try clear c3
 try clear c3b0
 try clear c4
 try clear p6
 try clear c9
 try clear c10
 try clear c11
 try clear c12
 try clear c18
 try clear c18b0
 try clear c18b1
 try clear c18b2
 try clear c19
 try clear c23
 try clear c28
 try clear hcz12_0
 try clear hcz12_1
 try clear hcz12_2
 try clear hcz13_0
 try clear hcz13_1
 try clear hcz13_2
 try clear hcz15_0
 try clear hcz15_1
 try clear hcz15_2
 try clear hcz16_0
 try clear hcz16_1
 try clear hcz16_2
 try clear hcz24_0
 try clear hcz24_1
 try clear hcz24_2
 try clear hcz26_0
 try clear hcz26_1
 try clear hcz26_2
 try clear hfz12_0
 try clear hfz12_1
 try clear hfz12_2
 try clear hfz13_0
 try clear hfz13_1
 try clear hfz13_2
 try clear hfz15_0
 try clear hfz15_1
 try clear hfz15_2
 try clear hfz16_0
 try clear hfz16_1
 try clear hfz16_2
 try clear hfz24_0
 try clear hfz24_1
 try clear hfz24_2
 try clear hfz26_0
 try clear hfz26_1
 try clear hfz26_2
 try clear p2
 try clear p6
 obtain ⟨kq, x70_21, rfl, HA, HJ21, BK218, BK219, HB⟩ := hcut
 cases kq with
 | zero => exact absurd HA.out (by simp [laws_FnTids.j1])
 | succ kj21 => ?_
 have H := HA.out
 clear HA
 simp only [laws_FnTids.j1] at H
 by_cases c29 : x70_21 = true
 ·subst c29
  have H1 : (none) = some r := by rw [if_pos rfl] at H; exact H
  clear H
  have H := H1
  clear H1
  exact absurd H (by simp)
 replace c29 := Bool.eq_false_iff.mpr c29
 subst c29
 have H1 : (if t221 = true then (if ((decide ((t224 / 2) < (t226 / 2))) != (decide (t220 < 0))) = true then (none) else (laws_FnTids.j2 kj21 l1 t224 t225 (((t224 / 2) == (t226 / 2)) != (t220 == 0)) t212 t213 t214)) else (laws_FnTids.j2 kj21 l1 t224 t225 false t212 t213 t214)) = some r := by rw [if_neg (show ¬ (false = true) by decide)] at H; exact H
 clear H
 have H := H1
 clear H1
 have HC30 := Aside0.mk H
 clear H
 go_upto_region 12 with (fail)
 go_cut [94] (fun v94 wc => ∃ (kq : Nat) (x94_29 : Bool), v94 = .bool x94_29 ∧ Aside0 (laws_FnTids.j2 kq l1 t224 t225 x94_29 t212 t213 t214 = some r) ∧ Aside0 (kq ≤ kj21) ∧ Aside0 (wc.heap[gb218]? = some (.cells #[.int .i64 t212, .int .i64 t213, .bool t214] 27 (0, 0))) ∧ Aside0 (wc.heap[gb219]? = some (.cells #[.int .i64 t215, .int .i64 t216, .bool t217] 27 (0, 0))) ∧ Aside0 (Below w.heap.size w wc))
 case first =>
  have H := HC30.out
  clear HC30
  by_cases c31 : t221 = true
  rotate_left
  ·replace c31 := Bool.eq_false_iff.mpr c31
   subst c31
   have H1 : (laws_FnTids.j2 kj21 l1 t224 t225 false t212 t213 t214) = some r := by rw [if_neg (show ¬ (false = true) by decide)] at H; exact H
   clear H
   have H := H1
   clear H1
   have H' := Aside0.mk H
   clear H
   go_wp2
   go_meet
   case rel => exact ⟨_, (false), (by first | rfl | (simp; done) | (simp [*]; done)), H', ⟨by have := HJ6.out; have := HJ21.out; first | omega | exact Nat.le_refl _⟩, ⟨by (with_reducible repeat (first | refine blk_drewN ?_ _ | refine blk_drew ?_ | refine blk_alloc ?_ _)); exact BK218.out⟩, ⟨by (with_reducible repeat (first | refine blk_drewN ?_ _ | refine blk_drew ?_ | refine blk_alloc ?_ _)); exact BK219.out⟩, ⟨by repeat (first | (with_reducible first | exact HB.out | apply below_alloc | apply pw_below_drewN | apply below_drew1 | refine below_set ?_ GE218.out | refine below_set ?_ GE219.out) | exact HB.out)⟩⟩
  subst c31
  have H1 : (if ((decide ((t224 / 2) < (t226 / 2))) != (decide (t220 < 0))) = true then (none) else (laws_FnTids.j2 kj21 l1 t224 t225 (((t224 / 2) == (t226 / 2)) != (t220 == 0)) t212 t213 t214)) = some r := by rw [if_pos rfl] at H; exact H
  clear H
  have H := H1
  clear H1
  by_cases c32 : ((decide ((t224 / 2) < (t226 / 2))) != (decide (t220 < 0))) = true
  ·rw [if_pos c32] at H
   exact absurd H (by simp)
  rw [if_neg c32] at H
  have c32b0 : ((decide ((t224 / 2) < (t226 / 2))) != (decide (t220 < 0))) = false := by simpa using c32
  (try (have c32b1 : decide ((decide ((t224 / 2) < (t226 / 2))) = (decide (t220 < 0))) = true := by simpa using c32))
  (try (have c32b2 : ((decide ((t224 / 2) < (t226 / 2))) == (decide (t220 < 0))) = true := by simpa using c32))
  clear c32
  (first | rw [c32b0] | (simp only [i64_w, i32_w]; rw [c32b0]) | skip)
  have H' := Aside0.mk H
  clear H
  go_wp2
  go_meet
  case rel => exact ⟨_, ((((t224 / 2) == (t226 / 2)) != (t220 == 0))), (by first | rfl | (simp; done) | (simp [*]; done)), H', ⟨by have := HJ6.out; have := HJ21.out; first | omega | exact Nat.le_refl _⟩, ⟨by (with_reducible repeat (first | refine blk_drewN ?_ _ | refine blk_drew ?_ | refine blk_alloc ?_ _)); exact BK218.out⟩, ⟨by (with_reducible repeat (first | refine blk_drewN ?_ _ | refine blk_drew ?_ | refine blk_alloc ?_ _)); exact BK219.out⟩, ⟨by repeat (first | (with_reducible first | exact HB.out | apply below_alloc | apply pw_below_drewN | apply below_drew1 | refine below_set ?_ GE218.out | refine below_set ?_ GE219.out) | exact HB.out)⟩⟩
 clear HC30
 try clear c1
 try clear c2
 try clear p2
 try clear c3
 try clear c3b0
 try clear c4
 try clear p6
 try clear c9
 try clear c10
 try clear c11
 try clear c12
 try clear c18
 try clear c18b0
 try clear c18b1
 try clear c18b2
 try clear c19
 try clear c23
 try clear c28
 try clear c29
 try clear c31
 try clear c32
 try clear c32b0
 try clear c32b1
 try clear c32b2
 try clear hcz12_0
 try clear hcz12_1
 try clear hcz12_2
 try clear hcz13_0
 try clear hcz13_1
 try clear hcz13_2
 try clear hcz15_0
 try clear hcz15_1
 try clear hcz15_2
 try clear hcz16_0
 try clear hcz16_1
 try clear hcz16_2
 try clear hcz24_0
 try clear hcz24_1
 try clear hcz24_2
 try clear hcz26_0
 try clear hcz26_1
 try clear hcz26_2
 try clear hfz12_0
 try clear hfz12_1
 try clear hfz12_2
 try clear hfz13_0
 try clear hfz13_1
 try clear hfz13_2
 try clear hfz15_0
 try clear hfz15_1
 try clear hfz15_2
 try clear hfz16_0
 try clear hfz16_1
 try clear hfz16_2
 try clear hfz24_0
 try clear hfz24_1
 try clear hfz24_2
 try clear hfz26_0
 try clear hfz26_1
 try clear hfz26_2
 try clear p2
 try clear p6
 obtain ⟨kq, x94_29, rfl, HA, HJ29, BK218, BK219, HB⟩ := hcut
 cases kq with
 | zero => exact absurd HA.out (by simp [laws_FnTids.j2])
 | succ kj29 => ?_
 have H := HA.out
 clear HA
 simp only [laws_FnTids.j2] at H
 by_cases c33 : x94_29 = true
 ·subst c33
  have H1 : (none) = some r := by rw [if_pos rfl] at H; exact H
  clear H
  have H := H1
  clear H1
  exact absurd H (by simp)
 replace c33 := Bool.eq_false_iff.mpr c33
 subst c33
 have H1 : (if t225 = true then ((impl_UnpackTid.f t224).bind fun bt228 => (if bt228.2.2.2 = true then (if (!(bt228.1 == t212) || (!(bt228.2.1 == t213) || (!(bt228.2.2.1 == t214)))) = true then (none) else (laws_FnTids.j3 kj29 l1)) else (none))) else (laws_FnTids.j3 kj29 l1)) = some r := by rw [if_neg (show ¬ (false = true) by decide)] at H; exact H
 clear H
 have H := H1
 clear H1
 have HC34 := Aside0.mk H
 clear H
 go_upto_if 95 with (fail)
 go_cut [] (fun wc => ∃ (kq : Nat), Aside0 (laws_FnTids.j3 kq l1 = some r) ∧ Aside0 (kq ≤ kj29) ∧ Aside0 (wc.heap[gb218]? = some (.cells #[.int .i64 t212, .int .i64 t213, .bool t214] 27 (0, 0))) ∧ Aside0 (wc.heap[gb219]? = some (.cells #[.int .i64 t215, .int .i64 t216, .bool t217] 27 (0, 0))) ∧ Aside0 (Below w.heap.size w wc))
 case first =>
  have H := HC34.out
  clear HC34
  by_cases c35 : t225 = true
  rotate_left
  ·replace c35 := Bool.eq_false_iff.mpr c35
   subst c35
   have H1 : (laws_FnTids.j3 kj29 l1) = some r := by rw [if_neg (show ¬ (false = true) by decide)] at H; exact H
   clear H
   have H := H1
   clear H1
   have H' := Aside0.mk H
   clear H
   go_wp2
   go_meet
   case rel => exact ⟨_, H', ⟨by have := HJ6.out; have := HJ21.out; have := HJ29.out; first | omega | exact Nat.le_refl _⟩, ⟨by (with_reducible repeat (first | refine blk_drewN ?_ _ | refine blk_drew ?_ | refine blk_alloc ?_ _)); exact BK218.out⟩, ⟨by (with_reducible repeat (first | refine blk_drewN ?_ _ | refine blk_drew ?_ | refine blk_alloc ?_ _)); exact BK219.out⟩, ⟨by repeat (first | (with_reducible first | exact HB.out | apply below_alloc | apply pw_below_drewN | apply below_drew1 | refine below_set ?_ GE218.out | refine below_set ?_ GE219.out) | exact HB.out)⟩⟩
  subst c35
  have H1 : ((impl_UnpackTid.f t224).bind fun bt228 => (if bt228.2.2.2 = true then (if (!(bt228.1 == t212) || (!(bt228.2.1 == t213) || (!(bt228.2.2.1 == t214)))) = true then (none) else (laws_FnTids.j3 kj29 l1)) else (none))) = some r := by rw [if_pos rfl] at H; exact H
  clear H
  have H := H1
  clear H1
  replace H := Option.bind_eq_some_iff.mp H
  obtain ⟨⟨t228, t229, t230, t231⟩, A360, H⟩ := H
  replace H : (if t231 = true then (if (!(t228 == t212) || (!(t229 == t213) || (!(t230 == t214)))) = true then (none) else (laws_FnTids.j3 kj29 l1)) else (none)) = some r := H
  have A36 := Aside0.mk A360
  clear A360
  by_cases c37 : t231 = true
  rotate_left
  ·replace c37 := Bool.eq_false_iff.mpr c37
   subst c37
   have H1 : (none) = some r := by rw [if_neg (show ¬ (false = true) by decide)] at H; exact H
   clear H
   have H := H1
   clear H1
   exact absurd H (by simp)
  subst c37
  have H1 : (if (!(t228 == t212) || (!(t229 == t213) || (!(t230 == t214)))) = true then (none) else (laws_FnTids.j3 kj29 l1)) = some r := by rw [if_pos rfl] at H; exact H
  clear H
  have H := H1
  clear H1
  by_cases c38 : (!(t228 == t212) || (!(t229 == t213) || (!(t230 == t214)))) = true
  ·rw [if_pos c38] at H
   exact absurd H (by simp)
  rw [if_neg c38] at H
  have c38b0 : (!(t228 == t212) || (!(t229 == t213) || (!(t230 == t214)))) = false := by simpa using c38
  clear c38
  (first | rw [c38b0] | (simp only [i64_w, i32_w]; rw [c38b0]) | skip)
  have H' := Aside0.mk H
  clear H
  go_wp2_with (first | ((with_reducible refine gate_callee (f := 13) rfl ?_); refine goesL_ (some 98) rfl rfl Try.func13 (by kernel_rfl) rfl #[.int .u64 t224] rfl (by (try simp only [List.map_toArray, List.map_cons, List.map_nil]); first | done | rfl | (simp only [List.length_drop, List.length_take]; rfl)) ?_; (with_reducible refine (impl_UnpackTid.calls t224 t228 t229 t230 true _ A36.out).mono ?_); rintro e w39 ⟨rfl, hb⟩; refine ⟨_, rfl, ?_⟩; have n0_ := Aside0.mk (blk_below (g := gb218) (o := .cells #[.int .i64 t212, .int .i64 t213, .bool t214] 27 (0, 0)) (by (with_reducible repeat (first | refine blk_drewN ?_ _ | refine blk_drew ?_ | refine blk_alloc ?_ _)); exact BK218.out) hb); have n1_ := Aside0.mk (blk_below (g := gb219) (o := .cells #[.int .i64 t215, .int .i64 t216, .bool t217] 27 (0, 0)) (by (with_reducible repeat (first | refine blk_drewN ?_ _ | refine blk_drew ?_ | refine blk_alloc ?_ _)); exact BK219.out) hb); have n2_ := Aside0.mk (below_step (by repeat (first | (with_reducible first | exact HB.out | apply below_alloc | apply pw_below_drewN | apply below_drew1 | refine below_set ?_ GE218.out | refine below_set ?_ GE219.out) | exact HB.out)) hb); clear BK218; clear BK219; clear HB; have BK218 := n0_; have BK219 := n1_; have HB := n2_; clear n0_ n1_ n2_; (try clear hb); (try clear hb2); (try clear hk); (try clear hi)) | ((with_reducible refine gate_dst (N := 15) rfl ?_); refine box_event ?hg (N := 15) ?hd (cs := #[.int .i64 0, .int .i64 0, .bool false]) (t := 27) ?hr ?_; (case hd => rfl); (case hg => rfl); (case hr => first | (go_simp; done) | (go_simp; rfl)); intro gb232 hg w40 hbox hb; have n0_ := Aside0.mk (blk_below (g := gb218) (o := .cells #[.int .i64 t212, .int .i64 t213, .bool t214] 27 (0, 0)) (by (with_reducible repeat (first | refine blk_drewN ?_ _ | refine blk_drew ?_ | refine blk_alloc ?_ _)); exact BK218.out) hb); have n1_ := Aside0.mk (blk_below (g := gb219) (o := .cells #[.int .i64 t215, .int .i64 t216, .bool t217] 27 (0, 0)) (by (with_reducible repeat (first | refine blk_drewN ?_ _ | refine blk_drew ?_ | refine blk_alloc ?_ _)); exact BK219.out) hb); have n2_ := Aside0.mk (below_step (by repeat (first | (with_reducible first | exact HB.out | apply below_alloc | apply pw_below_drewN | apply below_drew1 | refine below_set ?_ GE218.out | refine below_set ?_ GE219.out) | exact HB.out)) hb); have n3_ := Aside0.mk (hbox); have n4_ := Aside0.mk ((by rw [hg]; exact (below_size (by repeat (first | (with_reducible first | exact HB.out | apply below_alloc | apply pw_below_drewN | apply below_drew1 | refine below_set ?_ GE218.out | refine below_set ?_ GE219.out) | exact HB.out))) : w.heap.size ≤ gb232)); have n5_ := Aside0.mk ((by rw [hg]; exact (below_size (by repeat (first | (with_reducible first | exact HB.out | apply below_alloc | apply pw_below_drewN | apply below_drew1 | refine below_set ?_ GE218.out | refine below_set ?_ GE219.out) | exact HB.out))) : w.heap.size ≤ gb232)); have n6_ := Aside0.mk ((by rw [hg]; exact Nat.ne_of_lt (blk_lt (g := gb218) (o := .cells #[.int .i64 t212, .int .i64 t213, .bool t214] 27 (0, 0)) (by (with_reducible repeat (first | refine blk_drewN ?_ _ | refine blk_drew ?_ | refine blk_alloc ?_ _)); exact BK218.out)) : gb218 ≠ gb232)); have n7_ := Aside0.mk ((by rw [hg]; exact Nat.ne_of_gt (blk_lt (g := gb218) (o := .cells #[.int .i64 t212, .int .i64 t213, .bool t214] 27 (0, 0)) (by (with_reducible repeat (first | refine blk_drewN ?_ _ | refine blk_drew ?_ | refine blk_alloc ?_ _)); exact BK218.out)) : gb232 ≠ gb218)); have n8_ := Aside0.mk ((by rw [hg]; exact Nat.ne_of_lt (blk_lt (g := gb219) (o := .cells #[.int .i64 t215, .int .i64 t216, .bool t217] 27 (0, 0)) (by (with_reducible repeat (first | refine blk_drewN ?_ _ | refine blk_drew ?_ | refine blk_alloc ?_ _)); exact BK219.out)) : gb219 ≠ gb232)); have n9_ := Aside0.mk ((by rw [hg]; exact Nat.ne_of_gt (blk_lt (g := gb219) (o := .cells #[.int .i64 t215, .int .i64 t216, .bool t217] 27 (0, 0)) (by (with_reducible repeat (first | refine blk_drewN ?_ _ | refine blk_drew ?_ | refine blk_alloc ?_ _)); exact BK219.out)) : gb232 ≠ gb219)); clear BK218; clear BK219; clear HB; have BK218 := n0_; have BK219 := n1_; have HB := n2_; have BK232 := n3_; have GW232 := n4_; have GE232 := n5_; have NB218_232 := n6_; have NB232_218 := n7_; have NB219_232 := n8_; have NB232_219 := n9_; clear n0_ n1_ n2_ n3_ n4_ n5_ n6_ n7_ n8_ n9_; clear hb hbox hg; have hnb41 := NB232_218.out; have hnc41 := NB218_232.out; have hnb42 := NB232_219.out; have hnc42 := NB219_232.out; have hcz43_0 : w40.cell? ⟨gb232, 0, none⟩ = some (.int .i64 0) := (blk_cell BK232.out 0).trans rfl; have hcz43_1 : w40.cell? ⟨gb232, 1, none⟩ = some (.int .i64 0) := (blk_cell BK232.out 1).trans rfl; have hcz43_2 : w40.cell? ⟨gb232, 2, none⟩ = some (.bool false) := (blk_cell BK232.out 2).trans rfl; have hfz43_0 := blk_frozen BK232.out 0; have hfz43_1 := blk_frozen BK232.out 1; have hfz43_2 := blk_frozen BK232.out 2; have hnb44 := NB218_219.out; have hnc44 := NB219_218.out; have hcz45_0 : w40.cell? ⟨gb218, 0, none⟩ = some (.int .i64 t212) := (blk_cell BK218.out 0).trans rfl; have hcz45_1 : w40.cell? ⟨gb218, 1, none⟩ = some (.int .i64 t213) := (blk_cell BK218.out 1).trans rfl; have hcz45_2 : w40.cell? ⟨gb218, 2, none⟩ = some (.bool t214) := (blk_cell BK218.out 2).trans rfl; have hfz45_0 := blk_frozen BK218.out 0; have hfz45_1 := blk_frozen BK218.out 1; have hfz45_2 := blk_frozen BK218.out 2))
  go_meet
  case rel => exact ⟨_, H', ⟨by have := HJ6.out; have := HJ21.out; have := HJ29.out; first | omega | exact Nat.le_refl _⟩, ⟨by (with_reducible repeat (first | refine blk_drewN ?_ _ | refine blk_drew ?_ | refine blk_alloc ?_ _)); refine blk_far ?_ NB218_232.out _; (with_reducible repeat (first | refine blk_drewN ?_ _ | refine blk_drew ?_ | refine blk_alloc ?_ _)); refine blk_far ?_ NB218_232.out _; (with_reducible repeat (first | refine blk_drewN ?_ _ | refine blk_drew ?_ | refine blk_alloc ?_ _)); refine blk_far ?_ NB218_232.out _; (with_reducible repeat (first | refine blk_drewN ?_ _ | refine blk_drew ?_ | refine blk_alloc ?_ _)); exact BK218.out⟩, ⟨by (with_reducible repeat (first | refine blk_drewN ?_ _ | refine blk_drew ?_ | refine blk_alloc ?_ _)); refine blk_far ?_ NB219_232.out _; (with_reducible repeat (first | refine blk_drewN ?_ _ | refine blk_drew ?_ | refine blk_alloc ?_ _)); refine blk_far ?_ NB219_232.out _; (with_reducible repeat (first | refine blk_drewN ?_ _ | refine blk_drew ?_ | refine blk_alloc ?_ _)); refine blk_far ?_ NB219_232.out _; (with_reducible repeat (first | refine blk_drewN ?_ _ | refine blk_drew ?_ | refine blk_alloc ?_ _)); exact BK219.out⟩, ⟨by repeat (first | (with_reducible first | exact HB.out | apply below_alloc | apply pw_below_drewN | apply below_drew1 | refine below_set ?_ GE218.out | refine below_set ?_ GE219.out | refine below_set ?_ GE232.out) | exact HB.out)⟩⟩
 clear HC34
 try clear c1
 try clear c2
 try clear p2
 try clear c3
 try clear c3b0
 try clear c4
 try clear p6
 try clear c9
 try clear c10
 try clear c11
 try clear c12
 try clear c13
 try clear c18
 try clear c18b0
 try clear c18b1
 try clear c18b2
 try clear c19
 try clear c23
 try clear c28
 try clear c29
 try clear c31
 try clear c32
 try clear c32b0
 try clear c32b1
 try clear c32b2
 try clear c33
 try clear c35
 try clear c37
 try clear c38
 try clear c38b0
 try clear c41
 try clear c42
 try clear c44
 try clear hcz12_0
 try clear hcz12_1
 try clear hcz12_2
 try clear hcz13_0
 try clear hcz13_1
 try clear hcz13_2
 try clear hcz15_0
 try clear hcz15_1
 try clear hcz15_2
 try clear hcz16_0
 try clear hcz16_1
 try clear hcz16_2
 try clear hcz24_0
 try clear hcz24_1
 try clear hcz24_2
 try clear hcz26_0
 try clear hcz26_1
 try clear hcz26_2
 try clear hcz43_0
 try clear hcz43_1
 try clear hcz43_2
 try clear hcz45_0
 try clear hcz45_1
 try clear hcz45_2
 try clear hfz12_0
 try clear hfz12_1
 try clear hfz12_2
 try clear hfz13_0
 try clear hfz13_1
 try clear hfz13_2
 try clear hfz15_0
 try clear hfz15_1
 try clear hfz15_2
 try clear hfz16_0
 try clear hfz16_1
 try clear hfz16_2
 try clear hfz24_0
 try clear hfz24_1
 try clear hfz24_2
 try clear hfz26_0
 try clear hfz26_1
 try clear hfz26_2
 try clear hfz43_0
 try clear hfz43_1
 try clear hfz43_2
 try clear hfz45_0
 try clear hfz45_1
 try clear hfz45_2
 try clear p2
 try clear p6
 obtain ⟨kq, HA, HJ33, BK218, BK219, HB⟩ := hcut
 cases kq with
 | zero => exact absurd HA.out (by simp [laws_FnTids.j3])
 | succ kj33 => ?_
 have H := HA.out
 clear HA
 simp only [laws_FnTids.j3] at H
 replace H := Option.bind_eq_some_iff.mp H
 obtain ⟨t233, A460, H⟩ := H
 replace H : ((impl_UnpackTid.f t233).bind fun bt234 => ((spec_UnpackTid.f t233).bind fun bt239 => (if (bt234.2.2.2 != bt239.2.2.2) = true then (none) else (laws_FnTids.j4 kj33 t233 bt234.2.2.2 (!(bt234.1 == bt239.1) || (!(bt234.2.1 == bt239.2.1) || (!(bt234.2.2.1 == bt239.2.2.1)))) bt234.1 bt234.2.1 bt234.2.2.1)))) = some r := H
 have A46 := Aside0.mk A460
 clear A460
 replace H := Option.bind_eq_some_iff.mp H
 obtain ⟨⟨t234, t235, t236, t237⟩, A470, H⟩ := H
 replace H : ((spec_UnpackTid.f t233).bind fun bt239 => (if (t237 != bt239.2.2.2) = true then (none) else (laws_FnTids.j4 kj33 t233 t237 (!(t234 == bt239.1) || (!(t235 == bt239.2.1) || (!(t236 == bt239.2.2.1)))) t234 t235 t236))) = some r := H
 have A47 := Aside0.mk A470
 clear A470
 replace H := Option.bind_eq_some_iff.mp H
 obtain ⟨⟨t239, t240, t241, t242⟩, A480, H⟩ := H
 replace H : (if (t237 != t242) = true then (none) else (laws_FnTids.j4 kj33 t233 t237 (!(t234 == t239) || (!(t235 == t240) || (!(t236 == t241)))) t234 t235 t236)) = some r := H
 have A48 := Aside0.mk A480
 clear A480
 have HC49 := Aside0.mk H
 clear H
 go_upto_region 21 with (first | ((with_reducible refine gate_callee (f := 14) rfl ?_); refine goesL_ (some 109) rfl rfl Try.func14 (by kernel_rfl) rfl #[.slice A1 l1.length c1] rfl (by (try simp only [List.map_toArray, List.map_cons, List.map_nil]); first | done | rfl | (simp only [List.length_drop, List.length_take]; rfl)) ?_; (with_reducible refine (spec_DrawUnpackTid.calls kj33 _ _ l1 t233 _ ?side1 ?side2 A46.out).mono ?_); (case side1 => repeat (first | exact (Kd.C_below HR1.out HB.out) | (with_reducible refine Kd.C_alloc ?_ _) | (with_reducible refine Kd.C_drewN ?_ _) | (with_reducible refine Kd.C_drew ?_))); (case side2 => exact HC1.out); rintro e w50 ⟨rfl, hb⟩; refine ⟨_, rfl, ?_⟩; have n0_ := Aside0.mk (blk_below (g := gb218) (o := .cells #[.int .i64 t212, .int .i64 t213, .bool t214] 27 (0, 0)) (by (with_reducible repeat (first | refine blk_drewN ?_ _ | refine blk_drew ?_ | refine blk_alloc ?_ _)); exact BK218.out) hb); have n1_ := Aside0.mk (blk_below (g := gb219) (o := .cells #[.int .i64 t215, .int .i64 t216, .bool t217] 27 (0, 0)) (by (with_reducible repeat (first | refine blk_drewN ?_ _ | refine blk_drew ?_ | refine blk_alloc ?_ _)); exact BK219.out) hb); have n2_ := Aside0.mk (below_step (by repeat (first | (with_reducible first | exact HB.out | apply below_alloc | apply pw_below_drewN | apply below_drew1 | refine below_set ?_ GE218.out | refine below_set ?_ GE219.out) | exact HB.out)) hb); clear BK218; clear BK219; clear HB; have BK218 := n0_; have BK219 := n1_; have HB := n2_; clear n0_ n1_ n2_; (try clear hb); (try clear hb2); (try clear hk); (try clear hi)) | ((with_reducible refine gate_callee (f := 13) rfl ?_); refine goesL_ (some 112) rfl rfl Try.func13 (by kernel_rfl) rfl #[.int .u64 t233] rfl (by (try simp only [List.map_toArray, List.map_cons, List.map_nil]); first | done | rfl | (simp only [List.length_drop, List.length_take]; rfl)) ?_; (with_reducible refine (impl_UnpackTid.calls t233 t234 t235 t236 t237 _ A47.out).mono ?_); rintro e w51 ⟨rfl, hb⟩; refine ⟨_, rfl, ?_⟩; have n0_ := Aside0.mk (blk_below (g := gb218) (o := .cells #[.int .i64 t212, .int .i64 t213, .bool t214] 27 (0, 0)) (by (with_reducible repeat (first | refine blk_drewN ?_ _ | refine blk_drew ?_ | refine blk_alloc ?_ _)); exact BK218.out) hb); have n1_ := Aside0.mk (blk_below (g := gb219) (o := .cells #[.int .i64 t215, .int .i64 t216, .bool t217] 27 (0, 0)) (by (with_reducible repeat (first | refine blk_drewN ?_ _ | refine blk_drew ?_ | refine blk_alloc ?_ _)); exact BK219.out) hb); have n2_ := Aside0.mk (below_step (by repeat (first | (with_reducible first | exact HB.out | apply below_alloc | apply pw_below_drewN | apply below_drew1 | refine below_set ?_ GE218.out | refine below_set ?_ GE219.out) | exact HB.out)) hb); clear BK218; clear BK219; clear HB; have BK218 := n0_; have BK219 := n1_; have HB := n2_; clear n0_ n1_ n2_; (try clear hb); (try clear hb2); (try clear hk); (try clear hi)) | ((with_reducible refine gate_dst (N := 18) rfl ?_); refine box_event ?hg (N := 18) ?hd (cs := #[.int .i64 0, .int .i64 0, .bool false]) (t := 27) ?hr ?_; (case hd => rfl); (case hg => rfl); (case hr => first | (go_simp; done) | (go_simp; rfl)); intro gb238 hg w52 hbox hb; have n0_ := Aside0.mk (blk_below (g := gb218) (o := .cells #[.int .i64 t212, .int .i64 t213, .bool t214] 27 (0, 0)) (by (with_reducible repeat (first | refine blk_drewN ?_ _ | refine blk_drew ?_ | refine blk_alloc ?_ _)); exact BK218.out) hb); have n1_ := Aside0.mk (blk_below (g := gb219) (o := .cells #[.int .i64 t215, .int .i64 t216, .bool t217] 27 (0, 0)) (by (with_reducible repeat (first | refine blk_drewN ?_ _ | refine blk_drew ?_ | refine blk_alloc ?_ _)); exact BK219.out) hb); have n2_ := Aside0.mk (below_step (by repeat (first | (with_reducible first | exact HB.out | apply below_alloc | apply pw_below_drewN | apply below_drew1 | refine below_set ?_ GE218.out | refine below_set ?_ GE219.out) | exact HB.out)) hb); have n3_ := Aside0.mk (hbox); have n4_ := Aside0.mk ((by rw [hg]; exact (below_size (by repeat (first | (with_reducible first | exact HB.out | apply below_alloc | apply pw_below_drewN | apply below_drew1 | refine below_set ?_ GE218.out | refine below_set ?_ GE219.out) | exact HB.out))) : w.heap.size ≤ gb238)); have n5_ := Aside0.mk ((by rw [hg]; exact (below_size (by repeat (first | (with_reducible first | exact HB.out | apply below_alloc | apply pw_below_drewN | apply below_drew1 | refine below_set ?_ GE218.out | refine below_set ?_ GE219.out) | exact HB.out))) : w.heap.size ≤ gb238)); have n6_ := Aside0.mk ((by rw [hg]; exact Nat.ne_of_lt (blk_lt (g := gb218) (o := .cells #[.int .i64 t212, .int .i64 t213, .bool t214] 27 (0, 0)) (by (with_reducible repeat (first | refine blk_drewN ?_ _ | refine blk_drew ?_ | refine blk_alloc ?_ _)); exact BK218.out)) : gb218 ≠ gb238)); have n7_ := Aside0.mk ((by rw [hg]; exact Nat.ne_of_gt (blk_lt (g := gb218) (o := .cells #[.int .i64 t212, .int .i64 t213, .bool t214] 27 (0, 0)) (by (with_reducible repeat (first | refine blk_drewN ?_ _ | refine blk_drew ?_ | refine blk_alloc ?_ _)); exact BK218.out)) : gb238 ≠ gb218)); have n8_ := Aside0.mk ((by rw [hg]; exact Nat.ne_of_lt (blk_lt (g := gb219) (o := .cells #[.int .i64 t215, .int .i64 t216, .bool t217] 27 (0, 0)) (by (with_reducible repeat (first | refine blk_drewN ?_ _ | refine blk_drew ?_ | refine blk_alloc ?_ _)); exact BK219.out)) : gb219 ≠ gb238)); have n9_ := Aside0.mk ((by rw [hg]; exact Nat.ne_of_gt (blk_lt (g := gb219) (o := .cells #[.int .i64 t215, .int .i64 t216, .bool t217] 27 (0, 0)) (by (with_reducible repeat (first | refine blk_drewN ?_ _ | refine blk_drew ?_ | refine blk_alloc ?_ _)); exact BK219.out)) : gb238 ≠ gb219)); clear BK218; clear BK219; clear HB; have BK218 := n0_; have BK219 := n1_; have HB := n2_; have BK238 := n3_; have GW238 := n4_; have GE238 := n5_; have NB218_238 := n6_; have NB238_218 := n7_; have NB219_238 := n8_; have NB238_219 := n9_; clear n0_ n1_ n2_ n3_ n4_ n5_ n6_ n7_ n8_ n9_; clear hb hbox hg; have hnb53 := NB238_218.out; have hnc53 := NB218_238.out; have hnb54 := NB238_219.out; have hnc54 := NB219_238.out; have hcz55_0 : w52.cell? ⟨gb238, 0, none⟩ = some (.int .i64 0) := (blk_cell BK238.out 0).trans rfl; have hcz55_1 : w52.cell? ⟨gb238, 1, none⟩ = some (.int .i64 0) := (blk_cell BK238.out 1).trans rfl; have hcz55_2 : w52.cell? ⟨gb238, 2, none⟩ = some (.bool false) := (blk_cell BK238.out 2).trans rfl; have hfz55_0 := blk_frozen BK238.out 0; have hfz55_1 := blk_frozen BK238.out 1; have hfz55_2 := blk_frozen BK238.out 2) | ((with_reducible refine gate_callee (f := 15) rfl ?_); refine goesL_ (some 117) rfl rfl Try.func15 (by kernel_rfl) rfl #[.int .u64 t233] rfl (by (try simp only [List.map_toArray, List.map_cons, List.map_nil]); first | done | rfl | (simp only [List.length_drop, List.length_take]; rfl)) ?_; (with_reducible refine (spec_UnpackTid.calls t233 t239 t240 t241 t242 _ A48.out).mono ?_); rintro e w56 ⟨rfl, hb⟩; refine ⟨_, rfl, ?_⟩; have n0_ := Aside0.mk (blk_below (g := gb218) (o := .cells #[.int .i64 t212, .int .i64 t213, .bool t214] 27 (0, 0)) (by (with_reducible repeat (first | refine blk_drewN ?_ _ | refine blk_drew ?_ | refine blk_alloc ?_ _)); refine blk_far ?_ NB218_238.out _; (with_reducible repeat (first | refine blk_drewN ?_ _ | refine blk_drew ?_ | refine blk_alloc ?_ _)); refine blk_far ?_ NB218_238.out _; (with_reducible repeat (first | refine blk_drewN ?_ _ | refine blk_drew ?_ | refine blk_alloc ?_ _)); refine blk_far ?_ NB218_238.out _; (with_reducible repeat (first | refine blk_drewN ?_ _ | refine blk_drew ?_ | refine blk_alloc ?_ _)); exact BK218.out) hb); have n1_ := Aside0.mk (blk_below (g := gb219) (o := .cells #[.int .i64 t215, .int .i64 t216, .bool t217] 27 (0, 0)) (by (with_reducible repeat (first | refine blk_drewN ?_ _ | refine blk_drew ?_ | refine blk_alloc ?_ _)); refine blk_far ?_ NB219_238.out _; (with_reducible repeat (first | refine blk_drewN ?_ _ | refine blk_drew ?_ | refine blk_alloc ?_ _)); refine blk_far ?_ NB219_238.out _; (with_reducible repeat (first | refine blk_drewN ?_ _ | refine blk_drew ?_ | refine blk_alloc ?_ _)); refine blk_far ?_ NB219_238.out _; (with_reducible repeat (first | refine blk_drewN ?_ _ | refine blk_drew ?_ | refine blk_alloc ?_ _)); exact BK219.out) hb); have n2_ := Aside0.mk (blk_below (g := gb238) (o := .cells #[.int .i64 t234, .int .i64 t235, .bool t236] 27 (0, 0)) (by (with_reducible repeat (first | refine blk_drewN ?_ _ | refine blk_drew ?_ | refine blk_alloc ?_ _)); refine blk_put (cs := #[.int .i64 t234, .int .i64 t235, .bool false]) ?_ 2 _ rfl; (with_reducible repeat (first | refine blk_drewN ?_ _ | refine blk_drew ?_ | refine blk_alloc ?_ _)); refine blk_put (cs := #[.int .i64 t234, .int .i64 0, .bool false]) ?_ 1 _ rfl; (with_reducible repeat (first | refine blk_drewN ?_ _ | refine blk_drew ?_ | refine blk_alloc ?_ _)); refine blk_put (cs := #[.int .i64 0, .int .i64 0, .bool false]) ?_ 0 _ rfl; (with_reducible repeat (first | refine blk_drewN ?_ _ | refine blk_drew ?_ | refine blk_alloc ?_ _)); exact BK238.out) hb); have n3_ := Aside0.mk (below_step (by repeat (first | (with_reducible first | exact HB.out | apply below_alloc | apply pw_below_drewN | apply below_drew1 | refine below_set ?_ GE218.out | refine below_set ?_ GE219.out | refine below_set ?_ GE238.out) | exact HB.out)) hb); clear BK218; clear BK219; clear BK238; clear HB; have BK218 := n0_; have BK219 := n1_; have BK238 := n2_; have HB := n3_; clear n0_ n1_ n2_ n3_; (try clear hb); (try clear hb2); (try clear hk); (try clear hi)) | ((with_reducible refine gate_dst (N := 20) rfl ?_); refine box_event ?hg (N := 20) ?hd (cs := #[.int .i64 0, .int .i64 0, .bool false]) (t := 27) ?hr ?_; (case hd => rfl); (case hg => rfl); (case hr => first | (go_simp; done) | (go_simp; rfl)); intro gb243 hg w57 hbox hb; have n0_ := Aside0.mk (blk_below (g := gb218) (o := .cells #[.int .i64 t212, .int .i64 t213, .bool t214] 27 (0, 0)) (by (with_reducible repeat (first | refine blk_drewN ?_ _ | refine blk_drew ?_ | refine blk_alloc ?_ _)); exact BK218.out) hb); have n1_ := Aside0.mk (blk_below (g := gb219) (o := .cells #[.int .i64 t215, .int .i64 t216, .bool t217] 27 (0, 0)) (by (with_reducible repeat (first | refine blk_drewN ?_ _ | refine blk_drew ?_ | refine blk_alloc ?_ _)); exact BK219.out) hb); have n2_ := Aside0.mk (blk_below (g := gb238) (o := .cells #[.int .i64 t234, .int .i64 t235, .bool t236] 27 (0, 0)) (by (with_reducible repeat (first | refine blk_drewN ?_ _ | refine blk_drew ?_ | refine blk_alloc ?_ _)); exact BK238.out) hb); have n3_ := Aside0.mk (below_step (by repeat (first | (with_reducible first | exact HB.out | apply below_alloc | apply pw_below_drewN | apply below_drew1 | refine below_set ?_ GE218.out | refine below_set ?_ GE219.out | refine below_set ?_ GE238.out) | exact HB.out)) hb); have n4_ := Aside0.mk (hbox); have n5_ := Aside0.mk ((by rw [hg]; exact (below_size (by repeat (first | (with_reducible first | exact HB.out | apply below_alloc | apply pw_below_drewN | apply below_drew1 | refine below_set ?_ GE218.out | refine below_set ?_ GE219.out | refine below_set ?_ GE238.out) | exact HB.out))) : w.heap.size ≤ gb243)); have n6_ := Aside0.mk ((by rw [hg]; exact (below_size (by repeat (first | (with_reducible first | exact HB.out | apply below_alloc | apply pw_below_drewN | apply below_drew1 | refine below_set ?_ GE218.out | refine below_set ?_ GE219.out | refine below_set ?_ GE238.out) | exact HB.out))) : w.heap.size ≤ gb243)); have n7_ := Aside0.mk ((by rw [hg]; exact Nat.ne_of_lt (blk_lt (g := gb218) (o := .cells #[.int .i64 t212, .int .i64 t213, .bool t214] 27 (0, 0)) (by (with_reducible repeat (first | refine blk_drewN ?_ _ | refine blk_drew ?_ | refine blk_alloc ?_ _)); exact BK218.out)) : gb218 ≠ gb243)); have n8_ := Aside0.mk ((by rw [hg]; exact Nat.ne_of_gt (blk_lt (g := gb218) (o := .cells #[.int .i64 t212, .int .i64 t213, .bool t214] 27 (0, 0)) (by (with_reducible repeat (first | refine blk_drewN ?_ _ | refine blk_drew ?_ | refine blk_alloc ?_ _)); exact BK218.out)) : gb243 ≠ gb218)); have n9_ := Aside0.mk ((by rw [hg]; exact Nat.ne_of_lt (blk_lt (g := gb219) (o := .cells #[.int .i64 t215, .int .i64 t216, .bool t217] 27 (0, 0)) (by (with_reducible repeat (first | refine blk_drewN ?_ _ | refine blk_drew ?_ | refine blk_alloc ?_ _)); exact BK219.out)) : gb219 ≠ gb243)); have n10_ := Aside0.mk ((by rw [hg]; exact Nat.ne_of_gt (blk_lt (g := gb219) (o := .cells #[.int .i64 t215, .int .i64 t216, .bool t217] 27 (0, 0)) (by (with_reducible repeat (first | refine blk_drewN ?_ _ | refine blk_drew ?_ | refine blk_alloc ?_ _)); exact BK219.out)) : gb243 ≠ gb219)); have n11_ := Aside0.mk ((by rw [hg]; exact Nat.ne_of_lt (blk_lt (g := gb238) (o := .cells #[.int .i64 t234, .int .i64 t235, .bool t236] 27 (0, 0)) (by (with_reducible repeat (first | refine blk_drewN ?_ _ | refine blk_drew ?_ | refine blk_alloc ?_ _)); exact BK238.out)) : gb238 ≠ gb243)); have n12_ := Aside0.mk ((by rw [hg]; exact Nat.ne_of_gt (blk_lt (g := gb238) (o := .cells #[.int .i64 t234, .int .i64 t235, .bool t236] 27 (0, 0)) (by (with_reducible repeat (first | refine blk_drewN ?_ _ | refine blk_drew ?_ | refine blk_alloc ?_ _)); exact BK238.out)) : gb243 ≠ gb238)); clear BK218; clear BK219; clear BK238; clear HB; have BK218 := n0_; have BK219 := n1_; have BK238 := n2_; have HB := n3_; have BK243 := n4_; have GW243 := n5_; have GE243 := n6_; have NB218_243 := n7_; have NB243_218 := n8_; have NB219_243 := n9_; have NB243_219 := n10_; have NB238_243 := n11_; have NB243_238 := n12_; clear n0_ n1_ n2_ n3_ n4_ n5_ n6_ n7_ n8_ n9_ n10_ n11_ n12_; clear hb hbox hg; have hnb58 := NB243_218.out; have hnc58 := NB218_243.out; have hnb59 := NB243_219.out; have hnc59 := NB219_243.out; have hnb60 := NB243_238.out; have hnc60 := NB238_243.out; have hcz61_0 : w57.cell? ⟨gb243, 0, none⟩ = some (.int .i64 0) := (blk_cell BK243.out 0).trans rfl; have hcz61_1 : w57.cell? ⟨gb243, 1, none⟩ = some (.int .i64 0) := (blk_cell BK243.out 1).trans rfl; have hcz61_2 : w57.cell? ⟨gb243, 2, none⟩ = some (.bool false) := (blk_cell BK243.out 2).trans rfl; have hfz61_0 := blk_frozen BK243.out 0; have hfz61_1 := blk_frozen BK243.out 1; have hfz61_2 := blk_frozen BK243.out 2))
 (try simp only [Act.put, List.setIfInBounds_toArray, List.set_cons_zero, List.set_cons_succ])
 go_cut [127] (fun v127 wc => ∃ (kq : Nat) (x127_48 : Bool), v127 = .bool x127_48 ∧ Aside0 (laws_FnTids.j4 kq t233 t237 x127_48 t234 t235 t236 = some r) ∧ Aside0 (kq ≤ kj33) ∧ Aside0 (wc.heap[gb218]? = some (.cells #[.int .i64 t212, .int .i64 t213, .bool t214] 27 (0, 0))) ∧ Aside0 (wc.heap[gb219]? = some (.cells #[.int .i64 t215, .int .i64 t216, .bool t217] 27 (0, 0))) ∧ Aside0 (wc.heap[gb238]? = some (.cells #[.int .i64 t234, .int .i64 t235, .bool t236] 27 (0, 0))) ∧ Aside0 (wc.heap[gb243]? = some (.cells #[.int .i64 t239, .int .i64 t240, .bool t241] 27 (0, 0))) ∧ Aside0 (Below w.heap.size w wc))
 case first =>
  have H := HC49.out
  clear HC49
  by_cases c62 : (t237 != t242) = true
  ·rw [if_pos c62] at H
   exact absurd H (by simp)
  rw [if_neg c62] at H
  have c62b0 : (t237 != t242) = false := by simpa using c62
  (try (have c62b1 : decide (t237 = t242) = true := by simpa using c62))
  (try (have c62b2 : (t237 == t242) = true := by simpa using c62))
  clear c62
  (first | rw [c62b0] | (simp only [i64_w, i32_w]; rw [c62b0]) | skip)
  have H' := Aside0.mk H
  clear H
  have hnb63 := NB238_218.out
  have hnc63 := NB218_238.out
  have hnb64 := NB238_219.out
  have hnc64 := NB219_238.out
  have hnb65 := NB238_243.out
  have hnc65 := NB243_238.out
  have hcz66_0 : w57.cell? ⟨gb238, 0, none⟩ = some (.int .i64 t234) := (blk_cell BK238.out 0).trans rfl
  have hcz66_1 : w57.cell? ⟨gb238, 1, none⟩ = some (.int .i64 t235) := (blk_cell BK238.out 1).trans rfl
  have hcz66_2 : w57.cell? ⟨gb238, 2, none⟩ = some (.bool t236) := (blk_cell BK238.out 2).trans rfl
  have hfz66_0 := blk_frozen BK238.out 0
  have hfz66_1 := blk_frozen BK238.out 1
  have hfz66_2 := blk_frozen BK238.out 2
  have hnb67 := NB243_218.out
  have hnc67 := NB218_243.out
  have hnb68 := NB243_219.out
  have hnc68 := NB219_243.out
  have hcz69_0 : w57.cell? ⟨gb243, 0, none⟩ = some (.int .i64 0) := (blk_cell BK243.out 0).trans rfl
  have hcz69_1 : w57.cell? ⟨gb243, 1, none⟩ = some (.int .i64 0) := (blk_cell BK243.out 1).trans rfl
  have hcz69_2 : w57.cell? ⟨gb243, 2, none⟩ = some (.bool false) := (blk_cell BK243.out 2).trans rfl
  have hfz69_0 := blk_frozen BK243.out 0
  have hfz69_1 := blk_frozen BK243.out 1
  have hfz69_2 := blk_frozen BK243.out 2
  go_wp2
  go_meet
  case rel => exact ⟨_, ((!(t234 == t239) || (!(t235 == t240) || (!(t236 == t241))))), (by first | rfl | (simp; done) | (simp [*]; done)), H', ⟨by have := HJ6.out; have := HJ21.out; have := HJ29.out; have := HJ33.out; first | omega | exact Nat.le_refl _⟩, ⟨by (with_reducible repeat (first | refine blk_drewN ?_ _ | refine blk_drew ?_ | refine blk_alloc ?_ _)); refine blk_far ?_ NB218_243.out _; (with_reducible repeat (first | refine blk_drewN ?_ _ | refine blk_drew ?_ | refine blk_alloc ?_ _)); refine blk_far ?_ NB218_243.out _; (with_reducible repeat (first | refine blk_drewN ?_ _ | refine blk_drew ?_ | refine blk_alloc ?_ _)); refine blk_far ?_ NB218_243.out _; (with_reducible repeat (first | refine blk_drewN ?_ _ | refine blk_drew ?_ | refine blk_alloc ?_ _)); exact BK218.out⟩, ⟨by (with_reducible repeat (first | refine blk_drewN ?_ _ | refine blk_drew ?_ | refine blk_alloc ?_ _)); refine blk_far ?_ NB219_243.out _; (with_reducible repeat (first | refine blk_drewN ?_ _ | refine blk_drew ?_ | refine blk_alloc ?_ _)); refine blk_far ?_ NB219_243.out _; (with_reducible repeat (first | refine blk_drewN ?_ _ | refine blk_drew ?_ | refine blk_alloc ?_ _)); refine blk_far ?_ NB219_243.out _; (with_reducible repeat (first | refine blk_drewN ?_ _ | refine blk_drew ?_ | refine blk_alloc ?_ _)); exact BK219.out⟩, ⟨by (with_reducible repeat (first | refine blk_drewN ?_ _ | refine blk_drew ?_ | refine blk_alloc ?_ _)); refine blk_far ?_ NB238_243.out _; (with_reducible repeat (first | refine blk_drewN ?_ _ | refine blk_drew ?_ | refine blk_alloc ?_ _)); refine blk_far ?_ NB238_243.out _; (with_reducible repeat (first | refine blk_drewN ?_ _ | refine blk_drew ?_ | refine blk_alloc ?_ _)); refine blk_far ?_ NB238_243.out _; (with_reducible repeat (first | refine blk_drewN ?_ _ | refine blk_drew ?_ | refine blk_alloc ?_ _)); exact BK238.out⟩, ⟨by (with_reducible repeat (first | refine blk_drewN ?_ _ | refine blk_drew ?_ | refine blk_alloc ?_ _)); refine blk_put (cs := #[.int .i64 t239, .int .i64 t240, .bool false]) ?_ 2 _ rfl; (with_reducible repeat (first | refine blk_drewN ?_ _ | refine blk_drew ?_ | refine blk_alloc ?_ _)); refine blk_put (cs := #[.int .i64 t239, .int .i64 0, .bool false]) ?_ 1 _ rfl; (with_reducible repeat (first | refine blk_drewN ?_ _ | refine blk_drew ?_ | refine blk_alloc ?_ _)); refine blk_put (cs := #[.int .i64 0, .int .i64 0, .bool false]) ?_ 0 _ rfl; (with_reducible repeat (first | refine blk_drewN ?_ _ | refine blk_drew ?_ | refine blk_alloc ?_ _)); exact BK243.out⟩, ⟨by repeat (first | (with_reducible first | exact HB.out | apply below_alloc | apply pw_below_drewN | apply below_drew1 | refine below_set ?_ GE218.out | refine below_set ?_ GE219.out | refine below_set ?_ GE238.out | refine below_set ?_ GE243.out) | exact HB.out)⟩⟩
 clear HC49
 try clear c1
 try clear c2
 try clear p2
 try clear c3
 try clear c3b0
 try clear c4
 try clear c5
 try clear c6
 try clear p6
 try clear c9
 try clear c10
 try clear c11
 try clear c12
 try clear c13
 try clear c14
 try clear c15
 try clear c18
 try clear c18b0
 try clear c18b1
 try clear c18b2
 try clear c19
 try clear c23
 try clear c28
 try clear c29
 try clear c31
 try clear c32
 try clear c32b0
 try clear c32b1
 try clear c32b2
 try clear c33
 try clear c35
 try clear c37
 try clear c38
 try clear c38b0
 try clear c41
 try clear c42
 try clear c44
 try clear c53
 try clear c54
 try clear c58
 try clear c59
 try clear c60
 try clear c62
 try clear c62b0
 try clear c62b1
 try clear c62b2
 try clear c63
 try clear c64
 try clear p64
 try clear c65
 try clear c67
 try clear c68
 try clear hcz12_0
 try clear hcz12_1
 try clear hcz12_2
 try clear hcz13_0
 try clear hcz13_1
 try clear hcz13_2
 try clear hcz15_0
 try clear hcz15_1
 try clear hcz15_2
 try clear hcz16_0
 try clear hcz16_1
 try clear hcz16_2
 try clear hcz24_0
 try clear hcz24_1
 try clear hcz24_2
 try clear hcz26_0
 try clear hcz26_1
 try clear hcz26_2
 try clear hcz43_0
 try clear hcz43_1
 try clear hcz43_2
 try clear hcz45_0
 try clear hcz45_1
 try clear hcz45_2
 try clear hcz55_0
 try clear hcz55_1
 try clear hcz55_2
 try clear hcz61_0
 try clear hcz61_1
 try clear hcz61_2
 try clear hcz66_0
 try clear hcz66_1
 try clear hcz66_2
 try clear hcz69_0
 try clear hcz69_1
 try clear hcz69_2
 try clear hfz12_0
 try clear hfz12_1
 try clear hfz12_2
 try clear hfz13_0
 try clear hfz13_1
 try clear hfz13_2
 try clear hfz15_0
 try clear hfz15_1
 try clear hfz15_2
 try clear hfz16_0
 try clear hfz16_1
 try clear hfz16_2
 try clear hfz24_0
 try clear hfz24_1
 try clear hfz24_2
 try clear hfz26_0
 try clear hfz26_1
 try clear hfz26_2
 try clear hfz43_0
 try clear hfz43_1
 try clear hfz43_2
 try clear hfz45_0
 try clear hfz45_1
 try clear hfz45_2
 try clear hfz55_0
 try clear hfz55_1
 try clear hfz55_2
 try clear hfz61_0
 try clear hfz61_1
 try clear hfz61_2
 try clear hfz66_0
 try clear hfz66_1
 try clear hfz66_2
 try clear hfz69_0
 try clear hfz69_1
 try clear hfz69_2
 try clear p2
 try clear p6
 obtain ⟨kq, x127_48, rfl, HA, HJ48, BK218, BK219, BK238, BK243, HB⟩ := hcut
 cases kq with
 | zero => exact absurd HA.out (by simp [laws_FnTids.j4])
 | succ kj48 => ?_
 have H := HA.out
 clear HA
 simp only [laws_FnTids.j4] at H
 by_cases c70 : x127_48 = true
 ·subst c70
  have H1 : (none) = some r := by rw [if_pos rfl] at H; exact H
  clear H
  have H := H1
  clear H1
  exact absurd H (by simp)
 replace c70 := Bool.eq_false_iff.mpr c70
 subst c70
 have H1 : (if t237 = true then ((impl_PackTid.f t234 t235 t236).bind fun bt244 => (if bt244.2 = true then (some (bt244.1 == t233)) else (none))) else (some (t234 == 0 && (t235 == 0 && (!t236))))) = some r := by rw [if_neg (show ¬ (false = true) by decide)] at H; exact H
 clear H
 have H := H1
 clear H1
 by_cases c71 : t237 = true
 rotate_left
 ·replace c71 := Bool.eq_false_iff.mpr c71
  subst c71
  have H1 : (some (t234 == 0 && (t235 == 0 && (!t236)))) = some r := by rw [if_neg (show ¬ (false = true) by decide)] at H; exact H
  clear H
  have H := H1
  clear H1
  obtain rfl := Option.some.inj H
  have hnb79 := NB238_218.out
  have hnc79 := NB218_238.out
  have hnb80 := NB238_219.out
  have hnc80 := NB219_238.out
  have hnb81 := NB238_243.out
  have hnc81 := NB243_238.out
  have hcz82_0 : wc.cell? ⟨gb238, 0, none⟩ = some (.int .i64 t234) := (blk_cell BK238.out 0).trans rfl
  have hcz82_1 : wc.cell? ⟨gb238, 1, none⟩ = some (.int .i64 t235) := (blk_cell BK238.out 1).trans rfl
  have hcz82_2 : wc.cell? ⟨gb238, 2, none⟩ = some (.bool t236) := (blk_cell BK238.out 2).trans rfl
  have hfz82_0 := blk_frozen BK238.out 0
  have hfz82_1 := blk_frozen BK238.out 1
  have hfz82_2 := blk_frozen BK238.out 2
  go_wp2
  go_ret
  exact ⟨by first | rfl | (simp [errW_none, errW_some] <;> rfl) | (simp [*, errW_none, errW_some] <;> rfl), by repeat (first | (with_reducible first | exact HB.out | apply below_alloc | apply pw_below_drewN | apply below_drew1 | refine below_set ?_ GE218.out | refine below_set ?_ GE219.out | refine below_set ?_ GE238.out | refine below_set ?_ GE243.out) | exact HB.out)⟩
 subst c71
 have H1 : ((impl_PackTid.f t234 t235 t236).bind fun bt244 => (if bt244.2 = true then (some (bt244.1 == t233)) else (none))) = some r := by rw [if_pos rfl] at H; exact H
 clear H
 have H := H1
 clear H1
 replace H := Option.bind_eq_some_iff.mp H
 obtain ⟨⟨t244, t245⟩, A720, H⟩ := H
 replace H : (if t245 = true then (some (t244 == t233)) else (none)) = some r := H
 have A72 := Aside0.mk A720
 clear A720
 by_cases c73 : t245 = true
 rotate_left
 ·replace c73 := Bool.eq_false_iff.mpr c73
  subst c73
  have H1 : (none) = some r := by rw [if_neg (show ¬ (false = true) by decide)] at H; exact H
  clear H
  have H := H1
  clear H1
  exact absurd H (by simp)
 subst c73
 have H1 : (some (t244 == t233)) = some r := by rw [if_pos rfl] at H; exact H
 clear H
 have H := H1
 clear H1
 obtain rfl := Option.some.inj H
 have hnb74 := NB238_218.out
 have hnc74 := NB218_238.out
 have hnb75 := NB238_219.out
 have hnc75 := NB219_238.out
 have hnb76 := NB238_243.out
 have hnc76 := NB243_238.out
 have hcz77_0 : wc.cell? ⟨gb238, 0, none⟩ = some (.int .i64 t234) := (blk_cell BK238.out 0).trans rfl
 have hcz77_1 : wc.cell? ⟨gb238, 1, none⟩ = some (.int .i64 t235) := (blk_cell BK238.out 1).trans rfl
 have hcz77_2 : wc.cell? ⟨gb238, 2, none⟩ = some (.bool t236) := (blk_cell BK238.out 2).trans rfl
 have hfz77_0 := blk_frozen BK238.out 0
 have hfz77_1 := blk_frozen BK238.out 1
 have hfz77_2 := blk_frozen BK238.out 2
 go_wp2_with (first | ((with_reducible refine gate_callee (f := 12) rfl ?_); refine goesL_ (some 135) rfl rfl Try.func12 (by kernel_rfl) rfl #[.agg #[.int .i64 t234, .int .i64 t235, .bool t236]] rfl (by (try simp only [List.map_toArray, List.map_cons, List.map_nil]); first | done | rfl | (simp only [List.length_drop, List.length_take]; rfl)) ?_; (with_reducible refine (impl_PackTid.calls t234 t235 t236 t244 true _ A72.out).mono ?_); rintro e w78 ⟨rfl, hb⟩; refine ⟨_, rfl, ?_⟩; have n0_ := Aside0.mk (blk_below (g := gb218) (o := .cells #[.int .i64 t212, .int .i64 t213, .bool t214] 27 (0, 0)) (by (with_reducible repeat (first | refine blk_drewN ?_ _ | refine blk_drew ?_ | refine blk_alloc ?_ _)); exact BK218.out) hb); have n1_ := Aside0.mk (blk_below (g := gb219) (o := .cells #[.int .i64 t215, .int .i64 t216, .bool t217] 27 (0, 0)) (by (with_reducible repeat (first | refine blk_drewN ?_ _ | refine blk_drew ?_ | refine blk_alloc ?_ _)); exact BK219.out) hb); have n2_ := Aside0.mk (blk_below (g := gb238) (o := .cells #[.int .i64 t234, .int .i64 t235, .bool t236] 27 (0, 0)) (by (with_reducible repeat (first | refine blk_drewN ?_ _ | refine blk_drew ?_ | refine blk_alloc ?_ _)); exact BK238.out) hb); have n3_ := Aside0.mk (blk_below (g := gb243) (o := .cells #[.int .i64 t239, .int .i64 t240, .bool t241] 27 (0, 0)) (by (with_reducible repeat (first | refine blk_drewN ?_ _ | refine blk_drew ?_ | refine blk_alloc ?_ _)); exact BK243.out) hb); have n4_ := Aside0.mk (below_step (by repeat (first | (with_reducible first | exact HB.out | apply below_alloc | apply pw_below_drewN | apply below_drew1 | refine below_set ?_ GE218.out | refine below_set ?_ GE219.out | refine below_set ?_ GE238.out | refine below_set ?_ GE243.out) | exact HB.out)) hb); clear BK218; clear BK219; clear BK238; clear BK243; clear HB; have BK218 := n0_; have BK219 := n1_; have BK238 := n2_; have BK243 := n3_; have HB := n4_; clear n0_ n1_ n2_ n3_ n4_; (try clear hb); (try clear hb2); (try clear hk); (try clear hi)))
 go_ret
 exact ⟨by first | rfl | (simp [errW_none, errW_some] <;> rfl) | (simp [*, errW_none, errW_some] <;> rfl), by repeat (first | (with_reducible first | exact HB.out | apply below_alloc | apply pw_below_drewN | apply below_drew1 | refine below_set ?_ GE218.out | refine below_set ?_ GE219.out | refine below_set ?_ GE238.out | refine below_set ?_ GE243.out) | exact HB.out)⟩

/-- THE ONE PURE STATEMENT of laws_FnTids: yours. -/
def laws_FnTids.Pure : Prop := ∀ (l0 : List Int) (l1 : List Int), l0.length ≤ maxLen → l0.length * 1 ≤ 140737488351232 → (∀ x ∈ l0, (Lit.int .u8 x).wf = true) → l1.length ≤ maxLen → l1.length * 1 ≤ 140737488351232 → (∀ x ∈ l1, (Lit.int .u8 x).wf = true) → ∃ k, laws_FnTids.f k l0 l1 = some true
theorem laws_FnTids.walk (P : laws_FnTids.Pure) (a0 : Option Addr) (len0 cap0 : Nat) (z0 : List Int) (a1 : Option Addr) (len1 cap1 : Nat) (z1 : List Int) (w : World) (w0 : (a0 = none ∧ len0 = 0 ∧ cap0 = 0 ∧ z0 = []) ∨ ∃ x, a0 = some x ∧ len0 ≤ cap0 ∧ cap0 ≤ maxLen ∧ z0.length = cap0 ∧ (∀ i, i < z0.length → w.cell? (x.add i) = some (.int .u8 (z0.getD i 0))) ∧ ∀ n ∈ z0, (Lit.int .u8 n).wf = true) (y0 : len0 * 1 ≤ 140737488351232) (w1 : (a1 = none ∧ len1 = 0 ∧ cap1 = 0 ∧ z1 = []) ∨ ∃ x, a1 = some x ∧ len1 ≤ cap1 ∧ cap1 ≤ maxLen ∧ z1.length = cap1 ∧ (∀ i, i < z1.length → w.cell? (x.add i) = some (.int .u8 (z1.getD i 0))) ∧ ∀ n ∈ z1, (Lit.int .u8 n).wf = true) (y1 : len1 * 1 ≤ 140737488351232) :
  Calls Try.prog 4 #[.slice a0 len0 cap0, .slice a1 len1 cap1] w fun e w' => e = .returned (.bool true) ∧ Below w.heap.size w w' := by
 obtain ⟨l0, rfl, hr0, hm0, hw0, hc0⟩ := ReadsInt.ofRowC w0
 obtain ⟨l1, rfl, hr1, hm1, hw1, hc1⟩ := ReadsInt.ofRowC w1
 obtain ⟨k, h⟩ := P l0 l1 hm0 y0 hw0 hm1 y1 hw1
 refine (laws_FnTids.calls k _ _ l0 _ _ l1 true w (Kd.C_of_reads (d := (0 : Int)) (h1 := fun _ => rfl) hr0) hc0 (Kd.C_of_reads (d := (0 : Int)) (h1 := fun _ => rfl) hr1) hc1 h).mono ?_
 rintro e w' ⟨rfl, hd⟩
 exact ⟨rfl, hd⟩

end Go.Proofs.Ytgdcooiaeeajmaa.PTD
