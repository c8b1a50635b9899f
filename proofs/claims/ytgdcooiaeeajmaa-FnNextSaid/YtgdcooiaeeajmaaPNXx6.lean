/- What this text proves: the machine calls of these functions return what the plain functions say. Conditions: as each theorem says. Printed by a program of this session out of the translation. -/
import Derived.Test.YtgdcooiaeeajmaaPNXx0
import Derived.Test.YtgdcooiaeeajmaaPNXx1
import Derived.Test.YtgdcooiaeeajmaaPNXx2
import Derived.Test.YtgdcooiaeeajmaaPNXx3
import Derived.Test.YtgdcooiaeeajmaaPNXx4
import Derived.Test.YtgdcooiaeeajmaaPNXx5
namespace Go.Proofs.Ytgdcooiaeeajmaa.PNX
open Go.RowKit Go.Proofs.YtgdcooiaeeajmaaW.PrintWords Go.Proofs.YtgdcooiaeeajmaaW.PrintLast Go.Proofs.YtgdcooiaeeajmaaW.PrintMore
attribute [local go_sem] max2_int min2_int max_two min_two max_three min_three max_four min_four   -- for this text's walks alone
set_option linter.unusedVariables false
set_option linter.unusedSimpArgs false

attribute [local go_sem high] eqA27
/-! ### laws_FnNext: function 3 -/
mutual
def laws_FnNext.j0 : Nat → List (S27) → Int → Bool → Bool → Int → Int → Bool → Option (Bool)
 | 0, _, _, _, _, _, _, _ => none
 | k + 1, x3, x4, x6, x45, x224000, x224001, x224002 => if x45 = true then (none) else (if x6 = true then (laws_FnNext.l0 k x4 (decide (x224001 > 0)) (decide (x224001 > 0)) x3 (x3.length : Int) 0 x224000 x224001 x224002 x224000 (wrap64 (x224001 - 1)) x224002) else (some (x224000 == 0 && (x224001 == 0 && (!x224002)))))
def laws_FnNext.l0 : Nat → Int → Bool → Bool → List (S27) → Int → Int → Int → Int → Bool → Int → Int → Bool → Option (Bool)
 | 0, _, _, _, _, _, _, _, _, _, _, _, _ => none
 | k + 1, x4, x9, x11, x60, x61, x62, x224000, x224001, x224002, x230000, x230001, x230002 => if x62 < x61 then (if 0 ≤ x62 then (if x62 < (x60.length : Int) then ((impl_CompareTid.f k x224000 x224001 x224002 ((rd_T27 x60 x62).f0) ((rd_T27 x60 x62).f1) ((rd_T27 x60 x62).f2)).bind fun bt232 => (if bt232.2 = true then (laws_FnNext.j2 k x4 x9 x11 x60 x61 x62 (decide (bt232.1 ≤ 0)) x224000 x224001 x224002 x230000 x230001 x230002 ((rd_T27 x60 x62).f0) ((rd_T27 x60 x62).f1) ((rd_T27 x60 x62).f2)) else (none))) else (none)) else (none)) else (if x224000 = x4 then (if x224002 = true then (none) else (some (!x11))) else (none))
def laws_FnNext.j2 : Nat → Int → Bool → Bool → List (S27) → Int → Int → Bool → Int → Int → Bool → Int → Int → Bool → Int → Int → Bool → Option (Bool)
 | 0, _, _, _, _, _, _, _, _, _, _, _, _, _, _, _, _ => none
 | k + 1, x4, x9, x11, x60, x61, x62, x77, x224000, x224001, x224002, x230000, x230001, x230002, x232000, x232001, x232002 => if x77 = true then (none) else (if x9 = true then ((spec_CompareTid.f k x230000 x230001 x230002 x232000 x232001 x232002).bind fun bt234 => (if x11 = true then (laws_FnNext.l0 k x4 x9 (decide (bt234.1 > 0)) x60 x61 (wrap64 (x62 + 1)) x224000 x224001 x224002 x230000 x230001 x230002) else (laws_FnNext.l0 k x4 x9 false x60 x61 (wrap64 (x62 + 1)) x224000 x224001 x224002 x230000 x230001 x230002))) else (laws_FnNext.l0 k x4 x9 x11 x60 x61 (wrap64 (x62 + 1)) x224000 x224001 x224002 x230000 x230001 x230002))
end
def laws_FnNext.f (k : Nat) (l0 : List Int) : Option (Bool) := if (l0.length : Int) > 1048576 then (some true) else ((spec_DrawNextTid.f k l0).bind fun bt215 => ((impl_NextTid.f k bt215.1 bt215.2).bind fun bt219 => ((spec_NextTid.f k bt215.1 bt215.2).bind fun bt224 => (if (bt219.2.2.2 != bt224.2.2.2) = true then (none) else (laws_FnNext.j0 k bt215.1 bt215.2 bt219.2.2.2 (!(bt219.1 == bt224.1) || (!(bt219.2.1 == bt224.2.1) || (!(bt219.2.2.1 == bt224.2.2.1)))) bt219.1 bt219.2.1 bt219.2.2.1)))))
theorem laws_FnNext.mono_l : ∀ k, (∀ y0 y1 y2 y3 y4 y5 y6, LeO (laws_FnNext.j0 k y0 y1 y2 y3 y4 y5 y6) (laws_FnNext.j0 (k + 1) y0 y1 y2 y3 y4 y5 y6)) ∧ (∀ y0 y1 y2 y3 y4 y5 y6 y7 y8 y9 y10 y11, LeO (laws_FnNext.l0 k y0 y1 y2 y3 y4 y5 y6 y7 y8 y9 y10 y11) (laws_FnNext.l0 (k + 1) y0 y1 y2 y3 y4 y5 y6 y7 y8 y9 y10 y11)) ∧ (∀ y0 y1 y2 y3 y4 y5 y6 y7 y8 y9 y10 y11 y12 y13 y14 y15, LeO (laws_FnNext.j2 k y0 y1 y2 y3 y4 y5 y6 y7 y8 y9 y10 y11 y12 y13 y14 y15) (laws_FnNext.j2 (k + 1) y0 y1 y2 y3 y4 y5 y6 y7 y8 y9 y10 y11 y12 y13 y14 y15))
 | 0 => ⟨fun _ _ _ _ _ _ _ r h => by simp [laws_FnNext.j0] at h, fun _ _ _ _ _ _ _ _ _ _ _ _ r h => by simp [laws_FnNext.l0] at h, fun _ _ _ _ _ _ _ _ _ _ _ _ _ _ _ _ r h => by simp [laws_FnNext.j2] at h⟩
 | k + 1 => by
  obtain ⟨ih0, ih1, ih2⟩ := laws_FnNext.mono_l k
  refine ⟨?_, ?_, ?_⟩
  ·intro y0 y1 y2 y3 y4 y5 y6
   unfold laws_FnNext.j0
   repeat' first
   | (with_reducible exact ih0 _ _ _ _ _ _ _)
   | (with_reducible exact ih1 _ _ _ _ _ _ _ _ _ _ _ _)
   | (with_reducible exact ih2 _ _ _ _ _ _ _ _ _ _ _ _ _ _ _ _)
   | (with_reducible exact impl_CompareTid.mono _ _ _ _ _ _ _)
   | (with_reducible exact impl_NextTid.mono _ _ _)
   | (with_reducible exact spec_CompareTid.mono _ _ _ _ _ _ _)
   | (with_reducible exact spec_DrawNextTid.mono _ _)
   | (with_reducible exact spec_NextTid.mono _ _ _)
   | (with_reducible exact LeO.refl _)
   | (with_reducible exact LeO.none _)
   | (with_reducible refine LeO.ite ?_ ?_)
   | (with_reducible refine LeO.bind ?_ (fun _ => ?_))
   | exact ih0 _ _ _ _ _ _ _
   | exact ih1 _ _ _ _ _ _ _ _ _ _ _ _
   | exact ih2 _ _ _ _ _ _ _ _ _ _ _ _ _ _ _ _
   | exact impl_CompareTid.mono _ _ _ _ _ _ _
   | exact impl_NextTid.mono _ _ _
   | exact spec_CompareTid.mono _ _ _ _ _ _ _
   | exact spec_DrawNextTid.mono _ _
   | exact spec_NextTid.mono _ _ _
   | exact LeO.none _
   | refine LeO.ite ?_ ?_
   | refine LeO.bind ?_ (fun _ => ?_)
  ·intro y0 y1 y2 y3 y4 y5 y6 y7 y8 y9 y10 y11
   unfold laws_FnNext.l0
   repeat' first
   | (with_reducible exact ih0 _ _ _ _ _ _ _)
   | (with_reducible exact ih1 _ _ _ _ _ _ _ _ _ _ _ _)
   | (with_reducible exact ih2 _ _ _ _ _ _ _ _ _ _ _ _ _ _ _ _)
   | (with_reducible exact impl_CompareTid.mono _ _ _ _ _ _ _)
   | (with_reducible exact impl_NextTid.mono _ _ _)
   | (with_reducible exact spec_CompareTid.mono _ _ _ _ _ _ _)
   | (with_reducible exact spec_DrawNextTid.mono _ _)
   | (with_reducible exact spec_NextTid.mono _ _ _)
   | (with_reducible exact LeO.refl _)
   | (with_reducible exact LeO.none _)
   | (with_reducible refine LeO.ite ?_ ?_)
   | (with_reducible refine LeO.bind ?_ (fun _ => ?_))
   | exact ih0 _ _ _ _ _ _ _
   | exact ih1 _ _ _ _ _ _ _ _ _ _ _ _
   | exact ih2 _ _ _ _ _ _ _ _ _ _ _ _ _ _ _ _
   | exact impl_CompareTid.mono _ _ _ _ _ _ _
   | exact impl_NextTid.mono _ _ _
   | exact spec_CompareTid.mono _ _ _ _ _ _ _
   | exact spec_DrawNextTid.mono _ _
   | exact spec_NextTid.mono _ _ _
   | exact LeO.none _
   | refine LeO.ite ?_ ?_
   | refine LeO.bind ?_ (fun _ => ?_)
  ·intro y0 y1 y2 y3 y4 y5 y6 y7 y8 y9 y10 y11 y12 y13 y14 y15
   unfold laws_FnNext.j2
   repeat' first
   | (with_reducible exact ih0 _ _ _ _ _ _ _)
   | (with_reducible exact ih1 _ _ _ _ _ _ _ _ _ _ _ _)
   | (with_reducible exact ih2 _ _ _ _ _ _ _ _ _ _ _ _ _ _ _ _)
   | (with_reducible exact impl_CompareTid.mono _ _ _ _ _ _ _)
   | (with_reducible exact impl_NextTid.mono _ _ _)
   | (with_reducible exact spec_CompareTid.mono _ _ _ _ _ _ _)
   | (with_reducible exact spec_DrawNextTid.mono _ _)
   | (with_reducible exact spec_NextTid.mono _ _ _)
   | (with_reducible exact LeO.refl _)
   | (with_reducible exact LeO.none _)
   | (with_reducible refine LeO.ite ?_ ?_)
   | (with_reducible refine LeO.bind ?_ (fun _ => ?_))
   | exact ih0 _ _ _ _ _ _ _
   | exact ih1 _ _ _ _ _ _ _ _ _ _ _ _
   | exact ih2 _ _ _ _ _ _ _ _ _ _ _ _ _ _ _ _
   | exact impl_CompareTid.mono _ _ _ _ _ _ _
   | exact impl_NextTid.mono _ _ _
   | exact spec_CompareTid.mono _ _ _ _ _ _ _
   | exact spec_DrawNextTid.mono _ _
   | exact spec_NextTid.mono _ _ _
   | exact LeO.none _
   | refine LeO.ite ?_ ?_
   | refine LeO.bind ?_ (fun _ => ?_)
theorem laws_FnNext.mono : ∀ a0 k, LeO (laws_FnNext.f k a0) (laws_FnNext.f (k + 1) a0) := by
 intro a0 k
 obtain ⟨ih0, ih1, ih2⟩ := laws_FnNext.mono_l k
 unfold laws_FnNext.f
 repeat' first
   | (with_reducible exact ih0 _ _ _ _ _ _ _)
   | (with_reducible exact ih1 _ _ _ _ _ _ _ _ _ _ _ _)
   | (with_reducible exact ih2 _ _ _ _ _ _ _ _ _ _ _ _ _ _ _ _)
   | (with_reducible exact impl_CompareTid.mono _ _ _ _ _ _ _)
   | (with_reducible exact impl_NextTid.mono _ _ _)
   | (with_reducible exact spec_CompareTid.mono _ _ _ _ _ _ _)
   | (with_reducible exact spec_DrawNextTid.mono _ _)
   | (with_reducible exact spec_NextTid.mono _ _ _)
   | (with_reducible exact LeO.refl _)
   | (with_reducible exact LeO.none _)
   | (with_reducible refine LeO.ite ?_ ?_)
   | (with_reducible refine LeO.bind ?_ (fun _ => ?_))
   | exact ih0 _ _ _ _ _ _ _
   | exact ih1 _ _ _ _ _ _ _ _ _ _ _ _
   | exact ih2 _ _ _ _ _ _ _ _ _ _ _ _ _ _ _ _
   | exact impl_CompareTid.mono _ _ _ _ _ _ _
   | exact impl_NextTid.mono _ _ _
   | exact spec_CompareTid.mono _ _ _ _ _ _ _
   | exact spec_DrawNextTid.mono _ _
   | exact spec_NextTid.mono _ _ _
   | exact LeO.none _
   | refine LeO.ite ?_ ?_
   | refine LeO.bind ?_ (fun _ => ?_)
set_option maxHeartbeats 8000000 in
set_option maxRecDepth 100000 in
theorem laws_FnNext.calls (k : Nat) (A0 : Option Addr) (c0 : Nat) (l0 : List Int) (r : Bool) (w : World) (hr0 : Kd.C (Kd.int .u8) w A0 l0.length l0) (hc0 : l0.length ≤ c0) (h : laws_FnNext.f k l0 = some r) :
  Calls Try.prog 3 #[.slice A0 l0.length c0] w fun e w' => e = .returned (.bool r) ∧ Below w.heap.size w w' := by
 have hu27 := Try.underlying27
 have HR0 := Aside0.mk hr0
 have HC0 := Aside0.mk hc0
 clear hr0 hc0
 have HB := Aside0.mk (Below.refl w.heap.size w)
 have H : (if (l0.length : Int) > 1048576 then (some true) else ((spec_DrawNextTid.f k l0).bind fun bt215 => ((impl_NextTid.f k bt215.1 bt215.2).bind fun bt219 => ((spec_NextTid.f k bt215.1 bt215.2).bind fun bt224 => (if (bt219.2.2.2 != bt224.2.2.2) = true then (none) else (laws_FnNext.j0 k bt215.1 bt215.2 bt219.2.2.2 (!(bt219.1 == bt224.1) || (!(bt219.2.1 == bt224.2.1) || (!(bt219.2.2.1 == bt224.2.2.1)))) bt219.1 bt219.2.1 bt219.2.2.1)))))) = some r := h
 clear h
 by_cases c2 : (l0.length : Int) > 1048576
 ·rw [if_pos c2] at H
  have c2b0 : decide (1048576 < (l0.length : Int)) = true := decide_eq_true c2
  have c2b1 : decide (1048576 < l0.length) = true := decide_eq_true (by omega)
  clear c2
  obtain rfl := Option.some.inj H
  go_enter Try.func3, Try.ntmps3
  go_wp2
  go_ret
  exact ⟨by first | rfl | (simp [errW_none, errW_some] <;> rfl) | (simp [*, errW_none, errW_some] <;> rfl), by repeat (first | (with_reducible first | exact HB.out | apply below_alloc | apply pw_below_drewN | apply below_drew1) | exact HB.out)⟩
 rw [if_neg c2] at H
 have c2b0 : decide (1048576 < (l0.length : Int)) = false := decide_eq_false c2
 have c2b1 : decide (1048576 < l0.length) = false := decide_eq_false (by omega)
 clear c2
 replace H := Option.bind_eq_some_iff.mp H
 obtain ⟨⟨t215, t216⟩, A30, H⟩ := H
 replace H : ((impl_NextTid.f k t215 t216).bind fun bt219 => ((spec_NextTid.f k t215 t216).bind fun bt224 => (if (bt219.2.2.2 != bt224.2.2.2) = true then (none) else (laws_FnNext.j0 k t215 t216 bt219.2.2.2 (!(bt219.1 == bt224.1) || (!(bt219.2.1 == bt224.2.1) || (!(bt219.2.2.1 == bt224.2.2.1)))) bt219.1 bt219.2.1 bt219.2.2.1)))) = some r := H
 have A3 := Aside0.mk A30
 clear A30
 replace H := Option.bind_eq_some_iff.mp H
 obtain ⟨⟨t219, t220, t221, t222⟩, A40, H⟩ := H
 replace H : ((spec_NextTid.f k t215 t216).bind fun bt224 => (if (t222 != bt224.2.2.2) = true then (none) else (laws_FnNext.j0 k t215 t216 t222 (!(t219 == bt224.1) || (!(t220 == bt224.2.1) || (!(t221 == bt224.2.2.1)))) t219 t220 t221))) = some r := H
 have A4 := Aside0.mk A40
 clear A40
 replace H := Option.bind_eq_some_iff.mp H
 obtain ⟨⟨t224, t225, t226, t227⟩, A50, H⟩ := H
 replace H : (if (t222 != t227) = true then (none) else (laws_FnNext.j0 k t215 t216 t222 (!(t219 == t224) || (!(t220 == t225) || (!(t221 == t226)))) t219 t220 t221)) = some r := H
 have A5 := Aside0.mk A50
 clear A50
 have HC6 := Aside0.mk H
 clear H
 go_enter Try.func3, Try.ntmps3
 go_upto_region 6 with (first | ((with_reducible refine gate_callee (f := 6) rfl ?_); refine goesL_ (some 23) rfl rfl Try.func6 (by kernel_rfl) rfl #[.slice A0 l0.length c0] rfl (by (try simp only [List.map_toArray, List.map_cons, List.map_nil]); first | done | rfl | (simp only [List.length_drop, List.length_take]; rfl)) ?_; (with_reducible refine (spec_DrawNextTid.calls k _ _ l0 t215 t216 _ ?side1 ?side2 A3.out).mono ?_); (case side1 => repeat (first | exact HR0.out | (with_reducible refine Kd.C_alloc ?_ _) | (with_reducible refine Kd.C_drewN ?_ _) | (with_reducible refine Kd.C_drew ?_))); (case side2 => exact HC0.out); rintro e w7 ⟨v217, rfl, ho0, hb⟩; refine ⟨_, rfl, ?_⟩; have n0_ := Aside0.mk (Kd.R_lower ho0 (below_size (by repeat (first | (with_reducible first | exact HB.out | apply below_alloc | apply pw_below_drewN | apply below_drew1) | exact HB.out)))); have n1_ := Aside0.mk (below_step (by repeat (first | (with_reducible first | exact HB.out | apply below_alloc | apply pw_below_drewN | apply below_drew1) | exact HB.out)) hb); clear HB; have HO218 := n0_; have HB := n1_; clear n0_ n1_; (try clear hb); (try clear hb2); (try clear hk); (try clear hi); (try clear ho0); obtain ⟨Ao8, co8, eo8⟩ := Kd.R_slice HO218.out; subst eo8) | ((with_reducible refine gate_callee (f := 7) rfl ?_); refine goesL_ (some 29) rfl rfl Try.func7 (by kernel_rfl) rfl #[.slice Ao8 t215.length co8, .int .i64 t216] rfl (by (try simp only [List.map_toArray, List.map_cons, List.map_nil]); first | done | rfl | (simp only [List.length_drop, List.length_take]; rfl)) ?_; (with_reducible refine (impl_NextTid.calls k _ _ t215 t216 t219 t220 t221 t222 _ ?side1 ?side2 A4.out).mono ?_); (case side1 => repeat (first | exact (Kd.R_reads' HO218.out).2.2 | (with_reducible refine Kd.C_alloc ?_ _) | (with_reducible refine Kd.C_drewN ?_ _) | (with_reducible refine Kd.C_drew ?_))); (case side2 => exact (Kd.R_reads' HO218.out).2.1); rintro e w9 ⟨rfl, hb⟩; refine ⟨_, rfl, ?_⟩; have n0_ := Aside0.mk (Kd.R_below (by (with_reducible repeat (first | apply Kd.R_alloc | apply Kd.R_drewN | apply Kd.R_drew)); exact HO218.out) hb); have n1_ := Aside0.mk (below_step (by repeat (first | (with_reducible first | exact HB.out | apply below_alloc | apply pw_below_drewN | apply below_drew1) | exact HB.out)) hb); clear HO218; clear HB; have HO218 := n0_; have HB := n1_; clear n0_ n1_; (try clear hb); (try clear hb2); (try clear hk); (try clear hi)) | ((with_reducible refine gate_dst (N := 5) rfl ?_); refine box_event ?hg (N := 5) ?hd (cs := #[.int .i64 0, .int .i64 0, .bool false]) (t := 27) ?hr ?_; (case hd => rfl); (case hg => rfl); (case hr => first | (go_simp; done) | (go_simp; rfl)); intro gb223 hg w10 hbox hb; have n0_ := Aside0.mk (Kd.R_below (Kd.R_elderB (by (with_reducible repeat (first | apply Kd.R_alloc | apply Kd.R_drewN | apply Kd.R_drew)); exact HO218.out) gb223 (Nat.le_of_eq hg.symm)) hb); have n1_ := Aside0.mk (below_step (by repeat (first | (with_reducible first | exact HB.out | apply below_alloc | apply pw_below_drewN | apply below_drew1) | exact HB.out)) hb); have n2_ := Aside0.mk (hbox); have n3_ := Aside0.mk ((by rw [hg]; exact (below_size (by repeat (first | (with_reducible first | exact HB.out | apply below_alloc | apply pw_below_drewN | apply below_drew1) | exact HB.out))) : w.heap.size ≤ gb223)); have n4_ := Aside0.mk ((by rw [hg]; exact (below_size (by repeat (first | (with_reducible first | exact HB.out | apply below_alloc | apply pw_below_drewN | apply below_drew1) | exact HB.out))) : w.heap.size ≤ gb223)); clear HO218; clear HB; have HO218 := n0_; have HB := n1_; have BK223 := n2_; have GW223 := n3_; have GE223 := n4_; clear n0_ n1_ n2_ n3_ n4_; clear hb hbox hg; have hcz11_0 : w10.cell? ⟨gb223, 0, none⟩ = some (.int .i64 0) := (blk_cell BK223.out 0).trans rfl; have hcz11_1 : w10.cell? ⟨gb223, 1, none⟩ = some (.int .i64 0) := (blk_cell BK223.out 1).trans rfl; have hcz11_2 : w10.cell? ⟨gb223, 2, none⟩ = some (.bool false) := (blk_cell BK223.out 2).trans rfl; have hfz11_0 := blk_frozen BK223.out 0; have hfz11_1 := blk_frozen BK223.out 1; have hfz11_2 := blk_frozen BK223.out 2) | ((with_reducible refine gate_callee (f := 8) rfl ?_); refine goesL_ (some 35) rfl rfl Try.func8 (by kernel_rfl) rfl #[.slice Ao8 t215.length co8, .int .i64 t216] rfl (by (try simp only [List.map_toArray, List.map_cons, List.map_nil]); first | done | rfl | (simp only [List.length_drop, List.length_take]; rfl)) ?_; (with_reducible refine (spec_NextTid.calls k _ _ t215 t216 t224 t225 t226 t227 _ ?side1 ?side2 A5.out).mono ?_); (case side1 => refine (Kd.R_reads' (e := 27) (base := w.heap.size) (ok := fun k_ => (True ∧ k_ ≠ gb223)) (n := t215.length) (c := co8) ?_).2.2; exact (by (with_reducible repeat (first | apply Kd.R_alloc | apply Kd.R_drewN | apply Kd.R_drew)); exact (Kd.R_mono (Kd.R_far (p := ⟨gb223, 2, none⟩) (Kd.R_far (p := ⟨gb223, 1, none⟩) (Kd.R_far (p := ⟨gb223, 0, none⟩) (Kd.R_mono HO218.out (fun k_ hk => (⟨hk, hk.2⟩ : _ ∧ k_ ≠ gb223))) (fun _ hk => hk.2) (.int .i64 t219)) (fun _ hk => hk.2) (.int .i64 t220)) (fun _ hk => hk.2) (.bool t221)) (fun _ h_ => h_.1)))); (case side2 => exact (Kd.R_reads' HO218.out).2.1); rintro e w12 ⟨rfl, hb⟩; refine ⟨_, rfl, ?_⟩; have n0_ := Aside0.mk (Kd.R_below (by (with_reducible repeat (first | apply Kd.R_alloc | apply Kd.R_drewN | apply Kd.R_drew)); exact (Kd.R_mono (Kd.R_far (p := ⟨gb223, 2, none⟩) (Kd.R_far (p := ⟨gb223, 1, none⟩) (Kd.R_far (p := ⟨gb223, 0, none⟩) (Kd.R_mono HO218.out (fun k_ hk => (⟨hk, hk.2⟩ : _ ∧ k_ ≠ gb223))) (fun _ hk => hk.2) (.int .i64 t219)) (fun _ hk => hk.2) (.int .i64 t220)) (fun _ hk => hk.2) (.bool t221)) (fun _ h_ => h_.1))) hb); have n1_ := Aside0.mk (blk_below (g := gb223) (o := .cells #[.int .i64 t219, .int .i64 t220, .bool t221] 27 (0, 0)) (by (with_reducible repeat (first | refine blk_drewN ?_ _ | refine blk_drew ?_ | refine blk_alloc ?_ _)); refine blk_put (cs := #[.int .i64 t219, .int .i64 t220, .bool false]) ?_ 2 _ rfl; (with_reducible repeat (first | refine blk_drewN ?_ _ | refine blk_drew ?_ | refine blk_alloc ?_ _)); refine blk_put (cs := #[.int .i64 t219, .int .i64 0, .bool false]) ?_ 1 _ rfl; (with_reducible repeat (first | refine blk_drewN ?_ _ | refine blk_drew ?_ | refine blk_alloc ?_ _)); refine blk_put (cs := #[.int .i64 0, .int .i64 0, .bool false]) ?_ 0 _ rfl; (with_reducible repeat (first | refine blk_drewN ?_ _ | refine blk_drew ?_ | refine blk_alloc ?_ _)); exact BK223.out) hb); have n2_ := Aside0.mk (below_step (by repeat (first | (with_reducible first | exact HB.out | apply below_alloc | apply pw_below_drewN | apply below_drew1 | refine below_set ?_ GE223.out) | exact HB.out)) hb); clear HO218; clear BK223; clear HB; have HO218 := n0_; have BK223 := n1_; have HB := n2_; clear n0_ n1_ n2_; (try clear hb); (try clear hb2); (try clear hk); (try clear hi)) | ((with_reducible refine gate_dst (N := 7) rfl ?_); refine box_event ?hg (N := 7) ?hd (cs := #[.int .i64 0, .int .i64 0, .bool false]) (t := 27) ?hr ?_; (case hd => rfl); (case hg => rfl); (case hr => first | (go_simp; done) | (go_simp; rfl)); intro gb228 hg w13 hbox hb; have n0_ := Aside0.mk (Kd.R_below (Kd.R_elderB (by (with_reducible repeat (first | apply Kd.R_alloc | apply Kd.R_drewN | apply Kd.R_drew)); exact HO218.out) gb228 (Nat.le_of_eq hg.symm)) hb); have n1_ := Aside0.mk (blk_below (g := gb223) (o := .cells #[.int .i64 t219, .int .i64 t220, .bool t221] 27 (0, 0)) (by (with_reducible repeat (first | refine blk_drewN ?_ _ | refine blk_drew ?_ | refine blk_alloc ?_ _)); exact BK223.out) hb); have n2_ := Aside0.mk (below_step (by repeat (first | (with_reducible first | exact HB.out | apply below_alloc | apply pw_below_drewN | apply below_drew1 | refine below_set ?_ GE223.out) | exact HB.out)) hb); have n3_ := Aside0.mk (hbox); have n4_ := Aside0.mk ((by rw [hg]; exact (below_size (by repeat (first | (with_reducible first | exact HB.out | apply below_alloc | apply pw_below_drewN | apply below_drew1 | refine below_set ?_ GE223.out) | exact HB.out))) : w.heap.size ≤ gb228)); have n5_ := Aside0.mk ((by rw [hg]; exact (below_size (by repeat (first | (with_reducible first | exact HB.out | apply below_alloc | apply pw_below_drewN | apply below_drew1 | refine below_set ?_ GE223.out) | exact HB.out))) : w.heap.size ≤ gb228)); have n6_ := Aside0.mk ((by rw [hg]; exact Nat.ne_of_lt (blk_lt (g := gb223) (o := .cells #[.int .i64 t219, .int .i64 t220, .bool t221] 27 (0, 0)) (by (with_reducible repeat (first | refine blk_drewN ?_ _ | refine blk_drew ?_ | refine blk_alloc ?_ _)); exact BK223.out)) : gb223 ≠ gb228)); have n7_ := Aside0.mk ((by rw [hg]; exact Nat.ne_of_gt (blk_lt (g := gb223) (o := .cells #[.int .i64 t219, .int .i64 t220, .bool t221] 27 (0, 0)) (by (with_reducible repeat (first | refine blk_drewN ?_ _ | refine blk_drew ?_ | refine blk_alloc ?_ _)); exact BK223.out)) : gb228 ≠ gb223)); clear HO218; clear BK223; clear HB; have HO218 := n0_; have BK223 := n1_; have HB := n2_; have BK228 := n3_; have GW228 := n4_; have GE228 := n5_; have NB223_228 := n6_; have NB228_223 := n7_; clear n0_ n1_ n2_ n3_ n4_ n5_ n6_ n7_; clear hb hbox hg; have hnb14 := NB228_223.out; have hnc14 := NB223_228.out; have hcz15_0 : w13.cell? ⟨gb228, 0, none⟩ = some (.int .i64 0) := (blk_cell BK228.out 0).trans rfl; have hcz15_1 : w13.cell? ⟨gb228, 1, none⟩ = some (.int .i64 0) := (blk_cell BK228.out 1).trans rfl; have hcz15_2 : w13.cell? ⟨gb228, 2, none⟩ = some (.bool false) := (blk_cell BK228.out 2).trans rfl; have hfz15_0 := blk_frozen BK228.out 0; have hfz15_1 := blk_frozen BK228.out 1; have hfz15_2 := blk_frozen BK228.out 2))
 (try simp only [Act.put, List.setIfInBounds_toArray, List.set_cons_zero, List.set_cons_succ])
 go_cut [45] (fun v45 wc => ∃ (kq : Nat) (x45_5 : Bool), v45 = .bool x45_5 ∧ Aside0 (laws_FnNext.j0 kq t215 t216 t222 x45_5 t219 t220 t221 = some r) ∧ Aside0 (kq ≤ k) ∧ Aside0 (Kd.R k27 27 wc w.heap.size (fun k_ => k_ ≠ gb223 ∧ k_ ≠ gb228) (.slice Ao8 t215.length co8) t215) ∧ Aside0 (wc.heap[gb223]? = some (.cells #[.int .i64 t219, .int .i64 t220, .bool t221] 27 (0, 0))) ∧ Aside0 (wc.heap[gb228]? = some (.cells #[.int .i64 t224, .int .i64 t225, .bool t226] 27 (0, 0))) ∧ Aside0 (Below w.heap.size w wc))
 case first =>
  have H := HC6.out
  clear HC6
  by_cases c16 : (t222 != t227) = true
  ·rw [if_pos c16] at H
   exact absurd H (by simp)
  rw [if_neg c16] at H
  have c16b0 : (t222 != t227) = false := by simpa using c16
  (try (have c16b1 : decide (t222 = t227) = true := by simpa using c16))
  (try (have c16b2 : (t222 == t227) = true := by simpa using c16))
  clear c16
  (first | rw [c16b0] | (simp only [i64_w, i32_w]; rw [c16b0]) | skip)
  have H' := Aside0.mk H
  clear H
  have hnb17 := NB223_228.out
  have hnc17 := NB228_223.out
  have hcz18_0 : w13.cell? ⟨gb223, 0, none⟩ = some (.int .i64 t219) := (blk_cell BK223.out 0).trans rfl
  have hcz18_1 : w13.cell? ⟨gb223, 1, none⟩ = some (.int .i64 t220) := (blk_cell BK223.out 1).trans rfl
  have hcz18_2 : w13.cell? ⟨gb223, 2, none⟩ = some (.bool t221) := (blk_cell BK223.out 2).trans rfl
  have hfz18_0 := blk_frozen BK223.out 0
  have hfz18_1 := blk_frozen BK223.out 1
  have hfz18_2 := blk_frozen BK223.out 2
  have hcz19_0 : w13.cell? ⟨gb228, 0, none⟩ = some (.int .i64 0) := (blk_cell BK228.out 0).trans rfl
  have hcz19_1 : w13.cell? ⟨gb228, 1, none⟩ = some (.int .i64 0) := (blk_cell BK228.out 1).trans rfl
  have hcz19_2 : w13.cell? ⟨gb228, 2, none⟩ = some (.bool false) := (blk_cell BK228.out 2).trans rfl
  have hfz19_0 := blk_frozen BK228.out 0
  have hfz19_1 := blk_frozen BK228.out 1
  have hfz19_2 := blk_frozen BK228.out 2
  go_wp2
  go_meet
  case rel => exact ⟨_, ((!(t219 == t224) || (!(t220 == t225) || (!(t221 == t226))))), (by first | rfl | (simp; done) | (simp [*]; done)), H', ⟨by first | omega | exact Nat.le_refl _⟩, ⟨by (with_reducible repeat (first | apply Kd.R_alloc | apply Kd.R_drewN | apply Kd.R_drew)); exact Kd.R_mono (Kd.R_far (p := ⟨gb228, 2, none⟩) (Kd.R_far (p := ⟨gb228, 1, none⟩) (Kd.R_far (p := ⟨gb228, 0, none⟩) (Kd.R_mono HO218.out (fun k_ hk => (⟨hk, hk.2⟩ : _ ∧ k_ ≠ gb228))) (fun _ hk => hk.2) (.int .i64 t224)) (fun _ hk => hk.2) (.int .i64 t225)) (fun _ hk => hk.2) (.bool t226)) (fun _ hk => ⟨hk.1.1.2, hk.1.2⟩)⟩, ⟨by (with_reducible repeat (first | refine blk_drewN ?_ _ | refine blk_drew ?_ | refine blk_alloc ?_ _)); refine blk_far ?_ NB223_228.out _; (with_reducible repeat (first | refine blk_drewN ?_ _ | refine blk_drew ?_ | refine blk_alloc ?_ _)); refine blk_far ?_ NB223_228.out _; (with_reducible repeat (first | refine blk_drewN ?_ _ | refine blk_drew ?_ | refine blk_alloc ?_ _)); refine blk_far ?_ NB223_228.out _; (with_reducible repeat (first | refine blk_drewN ?_ _ | refine blk_drew ?_ | refine blk_alloc ?_ _)); exact BK223.out⟩, ⟨by (with_reducible repeat (first | refine blk_drewN ?_ _ | refine blk_drew ?_ | refine blk_alloc ?_ _)); refine blk_put (cs := #[.int .i64 t224, .int .i64 t225, .bool false]) ?_ 2 _ rfl; (with_reducible repeat (first | refine blk_drewN ?_ _ | refine blk_drew ?_ | refine blk_alloc ?_ _)); refine blk_put (cs := #[.int .i64 t224, .int .i64 0, .bool false]) ?_ 1 _ rfl; (with_reducible repeat (first | refine blk_drewN ?_ _ | refine blk_drew ?_ | refine blk_alloc ?_ _)); refine blk_put (cs := #[.int .i64 0, .int .i64 0, .bool false]) ?_ 0 _ rfl; (with_reducible repeat (first | refine blk_drewN ?_ _ | refine blk_drew ?_ | refine blk_alloc ?_ _)); exact BK228.out⟩, ⟨by repeat (first | (with_reducible first | exact HB.out | apply below_alloc | apply pw_below_drewN | apply below_drew1 | refine below_set ?_ GE223.out | refine below_set ?_ GE228.out) | exact HB.out)⟩⟩
 clear HC6
 try clear c1
 try clear c2
 try clear c2b0
 try clear c2b1
 try clear p2
 try clear c3
 try clear c6
 try clear c7
 try clear c8
 try clear c14
 try clear c16
 try clear c16b0
 try clear c16b1
 try clear c16b2
 try clear c17
 try clear hcz11_0
 try clear hcz11_1
 try clear hcz11_2
 try clear hcz15_0
 try clear hcz15_1
 try clear hcz15_2
 try clear hcz18_0
 try clear hcz18_1
 try clear hcz18_2
 try clear hcz19_0
 try clear hcz19_1
 try clear hcz19_2
 try clear hfz11_0
 try clear hfz11_1
 try clear hfz11_2
 try clear hfz15_0
 try clear hfz15_1
 try clear hfz15_2
 try clear hfz18_0
 try clear hfz18_1
 try clear hfz18_2
 try clear hfz19_0
 try clear hfz19_1
 try clear hfz19_2
 obtain ⟨kq, x45_5, rfl, HA, HJ5, HO_3, BK223, BK228, HB⟩ := hcut
 cases kq with
 | zero => exact absurd HA.out (by simp [laws_FnNext.j0])
 | succ kj5 => ?_
 have H := HA.out
 clear HA
 simp only [laws_FnNext.j0] at H
 by_cases c20 : x45_5 = true
 ·subst c20
  have H1 : (none) = some r := by rw [if_pos rfl] at H; exact H
  clear H
  have H := H1
  clear H1
  exact absurd H (by simp)
 replace c20 := Bool.eq_false_iff.mpr c20
 subst c20
 have H1 : (if t222 = true then (laws_FnNext.l0 kj5 t216 (decide (t220 > 0)) (decide (t220 > 0)) t215 (t215.length : Int) 0 t219 t220 t221 t219 (wrap64 (t220 - 1)) t221) else (some (t219 == 0 && (t220 == 0 && (!t221))))) = some r := by rw [if_neg (show ¬ (false = true) by decide)] at H; exact H
 clear H
 have H := H1
 clear H1
 by_cases c21 : t222 = true
 rotate_left
 ·replace c21 := Bool.eq_false_iff.mpr c21
  subst c21
  have H1 : (some (t219 == 0 && (t220 == 0 && (!t221)))) = some r := by rw [if_neg (show ¬ (false = true) by decide)] at H; exact H
  clear H
  have H := H1
  clear H1
  obtain rfl := Option.some.inj H
  have hnb68 := NB223_228.out
  have hnc68 := NB228_223.out
  have hcz69_0 : wc.cell? ⟨gb223, 0, none⟩ = some (.int .i64 t219) := (blk_cell BK223.out 0).trans rfl
  have hcz69_1 : wc.cell? ⟨gb223, 1, none⟩ = some (.int .i64 t220) := (blk_cell BK223.out 1).trans rfl
  have hcz69_2 : wc.cell? ⟨gb223, 2, none⟩ = some (.bool t221) := (blk_cell BK223.out 2).trans rfl
  have hfz69_0 := blk_frozen BK223.out 0
  have hfz69_1 := blk_frozen BK223.out 1
  have hfz69_2 := blk_frozen BK223.out 2
  go_wp2
  go_ret
  exact ⟨by first | rfl | (simp [errW_none, errW_some] <;> rfl) | (simp [*, errW_none, errW_some] <;> rfl), by repeat (first | (with_reducible first | exact HB.out | apply below_alloc | apply pw_below_drewN | apply below_drew1 | refine below_set ?_ GE223.out | refine below_set ?_ GE228.out) | exact HB.out)⟩
 subst c21
 have H1 : (laws_FnNext.l0 kj5 t216 (decide (t220 > 0)) (decide (t220 > 0)) t215 (t215.length : Int) 0 t219 t220 t221 t219 (wrap64 (t220 - 1)) t221) = some r := by rw [if_pos rfl] at H; exact H
 clear H
 have H := H1
 clear H1
 have H' := Aside0.mk H
 clear H
 have hnb22 := NB223_228.out
 have hnc22 := NB228_223.out
 have hcz23_0 : wc.cell? ⟨gb223, 0, none⟩ = some (.int .i64 t219) := (blk_cell BK223.out 0).trans rfl
 have hcz23_1 : wc.cell? ⟨gb223, 1, none⟩ = some (.int .i64 t220) := (blk_cell BK223.out 1).trans rfl
 have hcz23_2 : wc.cell? ⟨gb223, 2, none⟩ = some (.bool t221) := (blk_cell BK223.out 2).trans rfl
 have hfz23_0 := blk_frozen BK223.out 0
 have hfz23_1 := blk_frozen BK223.out 1
 have hfz23_2 := blk_frozen BK223.out 2
 go_wp2_with (first | ((with_reducible refine gate_dst (N := 10) rfl ?_); refine box_event ?hg (N := 10) ?hd (cs := #[.int .i64 0, .int .i64 0, .bool false]) (t := 27) ?hr ?_; (case hd => rfl); (case hg => rfl); (case hr => first | (go_simp; done) | (go_simp; rfl)); intro gb229 hg w24 hbox hb; have n0_ := Aside0.mk (Kd.R_below (Kd.R_elderB (by (with_reducible repeat (first | apply Kd.R_alloc | apply Kd.R_drewN | apply Kd.R_drew)); exact HO_3.out) gb229 (Nat.le_of_eq hg.symm)) hb); have n1_ := Aside0.mk (blk_below (g := gb223) (o := .cells #[.int .i64 t219, .int .i64 t220, .bool t221] 27 (0, 0)) (by (with_reducible repeat (first | refine blk_drewN ?_ _ | refine blk_drew ?_ | refine blk_alloc ?_ _)); exact BK223.out) hb); have n2_ := Aside0.mk (blk_below (g := gb228) (o := .cells #[.int .i64 t224, .int .i64 t225, .bool t226] 27 (0, 0)) (by (with_reducible repeat (first | refine blk_drewN ?_ _ | refine blk_drew ?_ | refine blk_alloc ?_ _)); exact BK228.out) hb); have n3_ := Aside0.mk (below_step (by repeat (first | (with_reducible first | exact HB.out | apply below_alloc | apply pw_below_drewN | apply below_drew1 | refine below_set ?_ GE223.out | refine below_set ?_ GE228.out) | exact HB.out)) hb); have n4_ := Aside0.mk (hbox); have n5_ := Aside0.mk ((by rw [hg]; exact (below_size (by repeat (first | (with_reducible first | exact HB.out | apply below_alloc | apply pw_below_drewN | apply below_drew1 | refine below_set ?_ GE223.out | refine below_set ?_ GE228.out) | exact HB.out))) : w.heap.size ≤ gb229)); have n6_ := Aside0.mk ((by rw [hg]; exact (below_size (by repeat (first | (with_reducible first | exact HB.out | apply below_alloc | apply pw_below_drewN | apply below_drew1 | refine below_set ?_ GE223.out | refine below_set ?_ GE228.out) | exact HB.out))) : w.heap.size ≤ gb229)); have n7_ := Aside0.mk ((by rw [hg]; exact Nat.ne_of_lt (blk_lt (g := gb223) (o := .cells #[.int .i64 t219, .int .i64 t220, .bool t221] 27 (0, 0)) (by (with_reducible repeat (first | refine blk_drewN ?_ _ | refine blk_drew ?_ | refine blk_alloc ?_ _)); exact BK223.out)) : gb223 ≠ gb229)); have n8_ := Aside0.mk ((by rw [hg]; exact Nat.ne_of_gt (blk_lt (g := gb223) (o := .cells #[.int .i64 t219, .int .i64 t220, .bool t221] 27 (0, 0)) (by (with_reducible repeat (first | refine blk_drewN ?_ _ | refine blk_drew ?_ | refine blk_alloc ?_ _)); exact BK223.out)) : gb229 ≠ gb223)); have n9_ := Aside0.mk ((by rw [hg]; exact Nat.ne_of_lt (blk_lt (g := gb228) (o := .cells #[.int .i64 t224, .int .i64 t225, .bool t226] 27 (0, 0)) (by (with_reducible repeat (first | refine blk_drewN ?_ _ | refine blk_drew ?_ | refine blk_alloc ?_ _)); exact BK228.out)) : gb228 ≠ gb229)); have n10_ := Aside0.mk ((by rw [hg]; exact Nat.ne_of_gt (blk_lt (g := gb228) (o := .cells #[.int .i64 t224, .int .i64 t225, .bool t226] 27 (0, 0)) (by (with_reducible repeat (first | refine blk_drewN ?_ _ | refine blk_drew ?_ | refine blk_alloc ?_ _)); exact BK228.out)) : gb229 ≠ gb228)); clear HO_3; clear BK223; clear BK228; clear HB; have HO_3 := n0_; have BK223 := n1_; have BK228 := n2_; have HB := n3_; have BK229 := n4_; have GW229 := n5_; have GE229 := n6_; have NB223_229 := n7_; have NB229_223 := n8_; have NB228_229 := n9_; have NB229_228 := n10_; clear n0_ n1_ n2_ n3_ n4_ n5_ n6_ n7_ n8_ n9_ n10_; clear hb hbox hg; have hnb25 := NB229_223.out; have hnc25 := NB223_229.out; have hnb26 := NB229_228.out; have hnc26 := NB228_229.out; have hcz27_0 : w24.cell? ⟨gb229, 0, none⟩ = some (.int .i64 0) := (blk_cell BK229.out 0).trans rfl; have hcz27_1 : w24.cell? ⟨gb229, 1, none⟩ = some (.int .i64 0) := (blk_cell BK229.out 1).trans rfl; have hcz27_2 : w24.cell? ⟨gb229, 2, none⟩ = some (.bool false) := (blk_cell BK229.out 2).trans rfl; have hfz27_0 := blk_frozen BK229.out 0; have hfz27_1 := blk_frozen BK229.out 1; have hfz27_2 := blk_frozen BK229.out 2))
 obtain ⟨x9_, hx9_⟩ : ∃ b_ : Bool, (decide (t220 > 0)) = b_ := ⟨_, rfl⟩
 rw [hx9_] at H'
 (try rw [show (decide (0 < t220)) = x9_ from hx9_])
 (try rw [hx9_])
 have Nx9_ := Aside0.mk hx9_
 clear hx9_
 go_loopg [11, 62] kj5 (fun kq v11 v62 w' => ∃ (x11_2 : Bool) (x62_2 : Int), v11 = .bool x11_2 ∧ v62 = .int .i64 x62_2 ∧ Aside0 (laws_FnNext.l0 kq t216 x9_ x11_2 t215 (t215.length : Int) x62_2 t219 t220 t221 t219 (wrap64 (t220 - 1)) t221 = some r) ∧ Aside0 (kq ≤ kj5) ∧ Aside0 (Kd.R k27 27 w' w.heap.size (fun k_ => k_ ≠ gb223 ∧ k_ ≠ gb228 ∧ k_ ≠ gb229) (.slice Ao8 t215.length co8) t215) ∧ Aside0 (w'.heap[gb223]? = some (.cells #[.int .i64 t219, .int .i64 t220, .bool t221] 27 (0, 0))) ∧ Aside0 (w'.heap[gb228]? = some (.cells #[.int .i64 t224, .int .i64 t225, .bool t226] 27 (0, 0))) ∧ Aside0 (w'.heap[gb229]? = some (.cells #[.int .i64 t219, .int .i64 (wrap64 (t220 - 1)), .bool t221] 27 (0, 0))) ∧ Aside0 (Below w.heap.size w w'))
 case atStart => exact ⟨x9_, (0), (by first | rfl | (simp; done) | (simp [*]; done)), (by first | rfl | (simp; done) | (simp [*]; done)), H', ⟨Nat.le_refl _⟩, ⟨by (with_reducible repeat (first | apply Kd.R_alloc | apply Kd.R_drewN | apply Kd.R_drew)); exact Kd.R_mono (Kd.R_far (p := ⟨gb229, 1, none⟩) (Kd.R_far (p := ⟨gb229, 2, none⟩) (Kd.R_far (p := ⟨gb229, 1, none⟩) (Kd.R_far (p := ⟨gb229, 0, none⟩) (Kd.R_mono HO_3.out (fun k_ hk => (⟨hk, hk.2⟩ : _ ∧ k_ ≠ gb229))) (fun _ hk => hk.2) (.int .i64 t219)) (fun _ hk => hk.2) (.int .i64 t220)) (fun _ hk => hk.2) (.bool t221)) (fun _ hk => hk.2) (.int .i64 (wrap64 (t220 - 1)))) (fun _ hk => ⟨hk.1.1.1, ⟨hk.1.1.2, hk.1.2⟩⟩)⟩, ⟨by (with_reducible repeat (first | refine blk_drewN ?_ _ | refine blk_drew ?_ | refine blk_alloc ?_ _)); refine blk_far ?_ NB223_229.out _; (with_reducible repeat (first | refine blk_drewN ?_ _ | refine blk_drew ?_ | refine blk_alloc ?_ _)); refine blk_far ?_ NB223_229.out _; (with_reducible repeat (first | refine blk_drewN ?_ _ | refine blk_drew ?_ | refine blk_alloc ?_ _)); refine blk_far ?_ NB223_229.out _; (with_reducible repeat (first | refine blk_drewN ?_ _ | refine blk_drew ?_ | refine blk_alloc ?_ _)); refine blk_far ?_ NB223_229.out _; (with_reducible repeat (first | refine blk_drewN ?_ _ | refine blk_drew ?_ | refine blk_alloc ?_ _)); exact BK223.out⟩, ⟨by (with_reducible repeat (first | refine blk_drewN ?_ _ | refine blk_drew ?_ | refine blk_alloc ?_ _)); refine blk_far ?_ NB228_229.out _; (with_reducible repeat (first | refine blk_drewN ?_ _ | refine blk_drew ?_ | refine blk_alloc ?_ _)); refine blk_far ?_ NB228_229.out _; (with_reducible repeat (first | refine blk_drewN ?_ _ | refine blk_drew ?_ | refine blk_alloc ?_ _)); refine blk_far ?_ NB228_229.out _; (with_reducible repeat (first | refine blk_drewN ?_ _ | refine blk_drew ?_ | refine blk_alloc ?_ _)); refine blk_far ?_ NB228_229.out _; (with_reducible repeat (first | refine blk_drewN ?_ _ | refine blk_drew ?_ | refine blk_alloc ?_ _)); exact BK228.out⟩, ⟨by (with_reducible repeat (first | refine blk_drewN ?_ _ | refine blk_drew ?_ | refine blk_alloc ?_ _)); refine blk_put (cs := #[.int .i64 t219, .int .i64 t220, .bool t221]) ?_ 1 _ rfl; (with_reducible repeat (first | refine blk_drewN ?_ _ | refine blk_drew ?_ | refine blk_alloc ?_ _)); refine blk_put (cs := #[.int .i64 t219, .int .i64 t220, .bool false]) ?_ 2 _ rfl; (with_reducible repeat (first | refine blk_drewN ?_ _ | refine blk_drew ?_ | refine blk_alloc ?_ _)); refine blk_put (cs := #[.int .i64 t219, .int .i64 0, .bool false]) ?_ 1 _ rfl; (with_reducible repeat (first | refine blk_drewN ?_ _ | refine blk_drew ?_ | refine blk_alloc ?_ _)); refine blk_put (cs := #[.int .i64 0, .int .i64 0, .bool false]) ?_ 0 _ rfl; (with_reducible repeat (first | refine blk_drewN ?_ _ | refine blk_drew ?_ | refine blk_alloc ?_ _)); exact BK229.out⟩, ⟨by repeat (first | (with_reducible first | exact HB.out | apply below_alloc | apply pw_below_drewN | apply below_drew1 | refine below_set ?_ GE223.out | refine below_set ?_ GE228.out | refine below_set ?_ GE229.out) | exact HB.out)⟩⟩
 clear H'
 try clear c1
 try clear c2
 try clear c2b0
 try clear c2b1
 try clear p2
 try clear c3
 try clear c6
 try clear p6
 try clear c7
 try clear c8
 try clear c14
 try clear c16
 try clear c16b0
 try clear c16b1
 try clear c16b2
 try clear c17
 try clear c20
 try clear c21
 try clear c22
 try clear c25
 try clear c26
 try clear hcz11_0
 try clear hcz11_1
 try clear hcz11_2
 try clear hcz15_0
 try clear hcz15_1
 try clear hcz15_2
 try clear hcz18_0
 try clear hcz18_1
 try clear hcz18_2
 try clear hcz19_0
 try clear hcz19_1
 try clear hcz19_2
 try clear hcz23_0
 try clear hcz23_1
 try clear hcz23_2
 try clear hcz27_0
 try clear hcz27_1
 try clear hcz27_2
 try clear hfz11_0
 try clear hfz11_1
 try clear hfz11_2
 try clear hfz15_0
 try clear hfz15_1
 try clear hfz15_2
 try clear hfz18_0
 try clear hfz18_1
 try clear hfz18_2
 try clear hfz19_0
 try clear hfz19_1
 try clear hfz19_2
 try clear hfz23_0
 try clear hfz23_1
 try clear hfz23_2
 try clear hfz27_0
 try clear hfz27_1
 try clear hfz27_2
 try clear p2
 obtain ⟨x11_2, x62_2, rfl, rfl, HA, HK2, HO_60, BK223, BK228, BK229, HB⟩ := hrel
 cases gk with
 | zero => exact absurd HA.out (by simp [laws_FnNext.l0])
 | succ k2 => ?_
 have H := HA.out
 clear HA
 simp only [laws_FnNext.l0] at H
 by_cases c28 : x62_2 < (t215.length : Int)
 rotate_left
 ·rw [if_neg c28] at H
  have c28b0 : decide (x62_2 < (t215.length : Int)) = false := decide_eq_false c28
  clear c28
  by_cases c63 : t219 = t216
  rotate_left
  ·rw [if_neg c63] at H
   exact absurd H (by simp)
  rw [if_pos c63] at H
  have c63b0 : (t219 == t216) = true := beq_iff_eq.mpr c63
  have c63b1 : (t219 != t216) = false := bne_eq_false_iff_eq.mpr c63
  clear c63
  by_cases c64 : t221 = true
  ·subst c64
   have H1 : (none) = some r := by rw [if_pos rfl] at H; exact H
   clear H
   have H := H1
   clear H1
   exact absurd H (by simp)
  replace c64 := Bool.eq_false_iff.mpr c64
  subst c64
  have H1 : (some (!x11_2)) = some r := by rw [if_neg (show ¬ (false = true) by decide)] at H; exact H
  clear H
  have H := H1
  clear H1
  obtain rfl := Option.some.inj H
  have hnb65 := NB223_228.out
  have hnc65 := NB228_223.out
  have hnb66 := NB223_229.out
  have hnc66 := NB229_223.out
  have hcz67_0 : wr.cell? ⟨gb223, 0, none⟩ = some (.int .i64 t219) := (blk_cell BK223.out 0).trans rfl
  have hcz67_1 : wr.cell? ⟨gb223, 1, none⟩ = some (.int .i64 t220) := (blk_cell BK223.out 1).trans rfl
  have hcz67_2 : wr.cell? ⟨gb223, 2, none⟩ = some (.bool false) := (blk_cell BK223.out 2).trans rfl
  have hfz67_0 := blk_frozen BK223.out 0
  have hfz67_1 := blk_frozen BK223.out 1
  have hfz67_2 := blk_frozen BK223.out 2
  go_wp2
  go_ret
  exact ⟨by first | rfl | (simp [errW_none, errW_some] <;> rfl) | (simp [*, errW_none, errW_some] <;> rfl), by repeat (first | (with_reducible first | exact HB.out | apply below_alloc | apply pw_below_drewN | apply below_drew1 | refine below_set ?_ GE223.out | refine below_set ?_ GE228.out | refine below_set ?_ GE229.out) | exact HB.out)⟩
 rw [if_pos c28] at H
 have c28b0 : decide (x62_2 < (t215.length : Int)) = true := decide_eq_true c28
 clear c28
 by_cases c29 : 0 ≤ x62_2
 rotate_left
 ·rw [if_neg c29] at H
  exact absurd H (by simp)
 rw [if_pos c29] at H
 have c29b0 : decide (0 ≤ x62_2) = true := decide_eq_true c29
 clear c29
 by_cases c30 : x62_2 < (t215.length : Int)
 rotate_left
 ·rw [if_neg c30] at H
  exact absurd H (by simp)
 rw [if_pos c30] at H
 have c30b0 : decide (x62_2 < (t215.length : Int)) = true := decide_eq_true c30
 clear c30
 replace H := Option.bind_eq_some_iff.mp H
 obtain ⟨⟨t232, t233⟩, A310, H⟩ := H
 replace H : (if t233 = true then (laws_FnNext.j2 k2 t216 x9_ x11_2 t215 (t215.length : Int) x62_2 (decide (t232 ≤ 0)) t219 t220 t221 t219 (wrap64 (t220 - 1)) t221 ((rd_T27 t215 x62_2).f0) ((rd_T27 t215 x62_2).f1) ((rd_T27 t215 x62_2).f2)) else (none)) = some r := H
 have A31 := Aside0.mk A310
 clear A310
 have HC32 := Aside0.mk H
 clear H
 have p230 : 0 ≤ (x62_2 : Int) := of_decide_eq_true (by first | (with_reducible assumption) | assumption)
 have q230 : x62_2 < (t215.length : Int) := of_decide_eq_true (by first | (with_reducible assumption) | assumption)
 obtain ⟨ad230, e230, hx230_0, hx230_1, hx230_2⟩ := at_T27 (Kd.R_reads' HO_60.out).2.2 x62_2 p230 q230
 cases e230
 replace p230 := eq_true p230
 replace q230 := eq_true q230
 go_upto_region 18 with (first | ((with_reducible refine gate_dst (N := 13) rfl ?_); refine box_event ?hg (N := 13) ?hd (cs := #[.int .i64 0, .int .i64 0, .bool false]) (t := 27) ?hr ?_; (case hd => rfl); (case hg => rfl); (case hr => first | (go_simp; done) | (go_simp; rfl)); intro gb231 hg w33 hbox hb; have n0_ := Aside0.mk (Kd.R_below (Kd.R_elderB (by (with_reducible repeat (first | apply Kd.R_alloc | apply Kd.R_drewN | apply Kd.R_drew)); exact HO_60.out) gb231 (Nat.le_of_eq hg.symm)) hb); have n1_ := Aside0.mk (blk_below (g := gb223) (o := .cells #[.int .i64 t219, .int .i64 t220, .bool t221] 27 (0, 0)) (by (with_reducible repeat (first | refine blk_drewN ?_ _ | refine blk_drew ?_ | refine blk_alloc ?_ _)); exact BK223.out) hb); have n2_ := Aside0.mk (blk_below (g := gb228) (o := .cells #[.int .i64 t224, .int .i64 t225, .bool t226] 27 (0, 0)) (by (with_reducible repeat (first | refine blk_drewN ?_ _ | refine blk_drew ?_ | refine blk_alloc ?_ _)); exact BK228.out) hb); have n3_ := Aside0.mk (blk_below (g := gb229) (o := .cells #[.int .i64 t219, .int .i64 (wrap64 (t220 - 1)), .bool t221] 27 (0, 0)) (by (with_reducible repeat (first | refine blk_drewN ?_ _ | refine blk_drew ?_ | refine blk_alloc ?_ _)); exact BK229.out) hb); have n4_ := Aside0.mk (below_step (by repeat (first | (with_reducible first | exact HB.out | apply below_alloc | apply pw_below_drewN | apply below_drew1 | refine below_set ?_ GE223.out | refine below_set ?_ GE228.out | refine below_set ?_ GE229.out) | exact HB.out)) hb); have n5_ := Aside0.mk (hbox); have n6_ := Aside0.mk ((by rw [hg]; exact (below_size (by repeat (first | (with_reducible first | exact HB.out | apply below_alloc | apply pw_below_drewN | apply below_drew1 | refine below_set ?_ GE223.out | refine below_set ?_ GE228.out | refine below_set ?_ GE229.out) | exact HB.out))) : w.heap.size ≤ gb231)); have n7_ := Aside0.mk ((by rw [hg]; exact (below_size (by repeat (first | (with_reducible first | exact HB.out | apply below_alloc | apply pw_below_drewN | apply below_drew1 | refine below_set ?_ GE223.out | refine below_set ?_ GE228.out | refine below_set ?_ GE229.out) | exact HB.out))) : w.heap.size ≤ gb231)); have n8_ := Aside0.mk ((by rw [hg]; exact Nat.ne_of_lt (blk_lt (g := gb223) (o := .cells #[.int .i64 t219, .int .i64 t220, .bool t221] 27 (0, 0)) (by (with_reducible repeat (first | refine blk_drewN ?_ _ | refine blk_drew ?_ | refine blk_alloc ?_ _)); exact BK223.out)) : gb223 ≠ gb231)); have n9_ := Aside0.mk ((by rw [hg]; exact Nat.ne_of_gt (blk_lt (g := gb223) (o := .cells #[.int .i64 t219, .int .i64 t220, .bool t221] 27 (0, 0)) (by (with_reducible repeat (first | refine blk_drewN ?_ _ | refine blk_drew ?_ | refine blk_alloc ?_ _)); exact BK223.out)) : gb231 ≠ gb223)); have n10_ := Aside0.mk ((by rw [hg]; exact Nat.ne_of_lt (blk_lt (g := gb228) (o := .cells #[.int .i64 t224, .int .i64 t225, .bool t226] 27 (0, 0)) (by (with_reducible repeat (first | refine blk_drewN ?_ _ | refine blk_drew ?_ | refine blk_alloc ?_ _)); exact BK228.out)) : gb228 ≠ gb231)); have n11_ := Aside0.mk ((by rw [hg]; exact Nat.ne_of_gt (blk_lt (g := gb228) (o := .cells #[.int .i64 t224, .int .i64 t225, .bool t226] 27 (0, 0)) (by (with_reducible repeat (first | refine blk_drewN ?_ _ | refine blk_drew ?_ | refine blk_alloc ?_ _)); exact BK228.out)) : gb231 ≠ gb228)); have n12_ := Aside0.mk ((by rw [hg]; exact Nat.ne_of_lt (blk_lt (g := gb229) (o := .cells #[.int .i64 t219, .int .i64 (wrap64 (t220 - 1)), .bool t221] 27 (0, 0)) (by (with_reducible repeat (first | refine blk_drewN ?_ _ | refine blk_drew ?_ | refine blk_alloc ?_ _)); exact BK229.out)) : gb229 ≠ gb231)); have n13_ := Aside0.mk ((by rw [hg]; exact Nat.ne_of_gt (blk_lt (g := gb229) (o := .cells #[.int .i64 t219, .int .i64 (wrap64 (t220 - 1)), .bool t221] 27 (0, 0)) (by (with_reducible repeat (first | refine blk_drewN ?_ _ | refine blk_drew ?_ | refine blk_alloc ?_ _)); exact BK229.out)) : gb231 ≠ gb229)); clear HO_60; clear BK223; clear BK228; clear BK229; clear HB; have HO_60 := n0_; have BK223 := n1_; have BK228 := n2_; have BK229 := n3_; have HB := n4_; have BK231 := n5_; have GW231 := n6_; have GE231 := n7_; have NB223_231 := n8_; have NB231_223 := n9_; have NB228_231 := n10_; have NB231_228 := n11_; have NB229_231 := n12_; have NB231_229 := n13_; clear n0_ n1_ n2_ n3_ n4_ n5_ n6_ n7_ n8_ n9_ n10_ n11_ n12_ n13_; clear hb hbox hg; have hnb34 := NB231_223.out; have hnc34 := NB223_231.out; have hnb35 := NB231_228.out; have hnc35 := NB228_231.out; have hnb36 := NB231_229.out; have hnc36 := NB229_231.out; have hcz37_0 : w33.cell? ⟨gb231, 0, none⟩ = some (.int .i64 0) := (blk_cell BK231.out 0).trans rfl; have hcz37_1 : w33.cell? ⟨gb231, 1, none⟩ = some (.int .i64 0) := (blk_cell BK231.out 1).trans rfl; have hcz37_2 : w33.cell? ⟨gb231, 2, none⟩ = some (.bool false) := (blk_cell BK231.out 2).trans rfl; have hfz37_0 := blk_frozen BK231.out 0; have hfz37_1 := blk_frozen BK231.out 1; have hfz37_2 := blk_frozen BK231.out 2; have hnb38 := NB223_228.out; have hnc38 := NB228_223.out; have hnb39 := NB223_229.out; have hnc39 := NB229_223.out; have hcz40_0 : w33.cell? ⟨gb223, 0, none⟩ = some (.int .i64 t219) := (blk_cell BK223.out 0).trans rfl; have hcz40_1 : w33.cell? ⟨gb223, 1, none⟩ = some (.int .i64 t220) := (blk_cell BK223.out 1).trans rfl; have hcz40_2 : w33.cell? ⟨gb223, 2, none⟩ = some (.bool t221) := (blk_cell BK223.out 2).trans rfl; have hfz40_0 := blk_frozen BK223.out 0; have hfz40_1 := blk_frozen BK223.out 1; have hfz40_2 := blk_frozen BK223.out 2) | ((with_reducible refine gate_callee (f := 9) rfl ?_); refine goesL_ (some 69) rfl rfl Try.func9 (by kernel_rfl) rfl #[.agg #[.int .i64 t219, .int .i64 t220, .bool t221], .agg #[.int .i64 ((rd_T27 t215 x62_2).f0), .int .i64 ((rd_T27 t215 x62_2).f1), .bool ((rd_T27 t215 x62_2).f2)]] rfl (by (try simp only [List.map_toArray, List.map_cons, List.map_nil]); first | done | rfl | (simp only [List.length_drop, List.length_take]; rfl)) ?_; (with_reducible refine (impl_CompareTid.calls k2 t219 t220 t221 ((rd_T27 t215 x62_2).f0) ((rd_T27 t215 x62_2).f1) ((rd_T27 t215 x62_2).f2) t232 t233 _ A31.out).mono ?_); rintro e w41 ⟨rfl, hb⟩; refine ⟨_, rfl, ?_⟩; have n0_ := Aside0.mk (Kd.R_below (by (with_reducible repeat (first | apply Kd.R_alloc | apply Kd.R_drewN | apply Kd.R_drew)); exact (Kd.R_mono (Kd.R_far (p := ⟨gb231, 2, none⟩) (Kd.R_far (p := ⟨gb231, 1, none⟩) (Kd.R_far (p := ⟨gb231, 0, none⟩) (Kd.R_mono HO_60.out (fun k_ hk => (⟨hk, hk.2⟩ : _ ∧ k_ ≠ gb231))) (fun _ hk => hk.2) (.int .i64 ((rd_T27 t215 x62_2).f0))) (fun _ hk => hk.2) (.int .i64 ((rd_T27 t215 x62_2).f1))) (fun _ hk => hk.2) (.bool ((rd_T27 t215 x62_2).f2))) (fun _ h_ => h_.1))) hb); have n1_ := Aside0.mk (blk_below (g := gb223) (o := .cells #[.int .i64 t219, .int .i64 t220, .bool t221] 27 (0, 0)) (by (with_reducible repeat (first | refine blk_drewN ?_ _ | refine blk_drew ?_ | refine blk_alloc ?_ _)); refine blk_far ?_ NB223_231.out _; (with_reducible repeat (first | refine blk_drewN ?_ _ | refine blk_drew ?_ | refine blk_alloc ?_ _)); refine blk_far ?_ NB223_231.out _; (with_reducible repeat (first | refine blk_drewN ?_ _ | refine blk_drew ?_ | refine blk_alloc ?_ _)); refine blk_far ?_ NB223_231.out _; (with_reducible repeat (first | refine blk_drewN ?_ _ | refine blk_drew ?_ | refine blk_alloc ?_ _)); exact BK223.out) hb); have n2_ := Aside0.mk (blk_below (g := gb228) (o := .cells #[.int .i64 t224, .int .i64 t225, .bool t226] 27 (0, 0)) (by (with_reducible repeat (first | refine blk_drewN ?_ _ | refine blk_drew ?_ | refine blk_alloc ?_ _)); refine blk_far ?_ NB228_231.out _; (with_reducible repeat (first | refine blk_drewN ?_ _ | refine blk_drew ?_ | refine blk_alloc ?_ _)); refine blk_far ?_ NB228_231.out _; (with_reducible repeat (first | refine blk_drewN ?_ _ | refine blk_drew ?_ | refine blk_alloc ?_ _)); refine blk_far ?_ NB228_231.out _; (with_reducible repeat (first | refine blk_drewN ?_ _ | refine blk_drew ?_ | refine blk_alloc ?_ _)); exact BK228.out) hb); have n3_ := Aside0.mk (blk_below (g := gb229) (o := .cells #[.int .i64 t219, .int .i64 (wrap64 (t220 - 1)), .bool t221] 27 (0, 0)) (by (with_reducible repeat (first | refine blk_drewN ?_ _ | refine blk_drew ?_ | refine blk_alloc ?_ _)); refine blk_far ?_ NB229_231.out _; (with_reducible repeat (first | refine blk_drewN ?_ _ | refine blk_drew ?_ | refine blk_alloc ?_ _)); refine blk_far ?_ NB229_231.out _; (with_reducible repeat (first | refine blk_drewN ?_ _ | refine blk_drew ?_ | refine blk_alloc ?_ _)); refine blk_far ?_ NB229_231.out _; (with_reducible repeat (first | refine blk_drewN ?_ _ | refine blk_drew ?_ | refine blk_alloc ?_ _)); exact BK229.out) hb); have n4_ := Aside0.mk (blk_below (g := gb231) (o := .cells #[.int .i64 ((rd_T27 t215 x62_2).f0), .int .i64 ((rd_T27 t215 x62_2).f1), .bool ((rd_T27 t215 x62_2).f2)] 27 (0, 0)) (by (with_reducible repeat (first | refine blk_drewN ?_ _ | refine blk_drew ?_ | refine blk_alloc ?_ _)); refine blk_put (cs := #[.int .i64 ((rd_T27 t215 x62_2).f0), .int .i64 ((rd_T27 t215 x62_2).f1), .bool false]) ?_ 2 _ rfl; (with_reducible repeat (first | refine blk_drewN ?_ _ | refine blk_drew ?_ | refine blk_alloc ?_ _)); refine blk_put (cs := #[.int .i64 ((rd_T27 t215 x62_2).f0), .int .i64 0, .bool false]) ?_ 1 _ rfl; (with_reducible repeat (first | refine blk_drewN ?_ _ | refine blk_drew ?_ | refine blk_alloc ?_ _)); refine blk_put (cs := #[.int .i64 0, .int .i64 0, .bool false]) ?_ 0 _ rfl; (with_reducible repeat (first | refine blk_drewN ?_ _ | refine blk_drew ?_ | refine blk_alloc ?_ _)); exact BK231.out) hb); have n5_ := Aside0.mk (below_step (by repeat (first | (with_reducible first | exact HB.out | apply below_alloc | apply pw_below_drewN | apply below_drew1 | refine below_set ?_ GE223.out | refine below_set ?_ GE228.out | refine below_set ?_ GE229.out | refine below_set ?_ GE231.out) | exact HB.out)) hb); clear HO_60; clear BK223; clear BK228; clear BK229; clear BK231; clear HB; have HO_60 := n0_; have BK223 := n1_; have BK228 := n2_; have BK229 := n3_; have BK231 := n4_; have HB := n5_; clear n0_ n1_ n2_ n3_ n4_ n5_; (try clear hb); (try clear hb2); (try clear hk); (try clear hi)))
 (try simp only [Act.put, List.setIfInBounds_toArray, List.set_cons_zero, List.set_cons_succ])
 go_cut [77] (fun v77 wc => ∃ (kq : Nat) (x77_31 : Bool), v77 = .bool x77_31 ∧ Aside0 (laws_FnNext.j2 kq t216 x9_ x11_2 t215 (t215.length : Int) x62_2 x77_31 t219 t220 t221 t219 (wrap64 (t220 - 1)) t221 ((rd_T27 t215 x62_2).f0) ((rd_T27 t215 x62_2).f1) ((rd_T27 t215 x62_2).f2) = some r) ∧ Aside0 (kq ≤ k2) ∧ Aside0 (Kd.R k27 27 wc w.heap.size (fun k_ => k_ ≠ gb223 ∧ k_ ≠ gb228 ∧ k_ ≠ gb229 ∧ k_ ≠ gb231) (.slice (some ad230) t215.length co8) t215) ∧ Aside0 (wc.heap[gb223]? = some (.cells #[.int .i64 t219, .int .i64 t220, .bool t221] 27 (0, 0))) ∧ Aside0 (wc.heap[gb228]? = some (.cells #[.int .i64 t224, .int .i64 t225, .bool t226] 27 (0, 0))) ∧ Aside0 (wc.heap[gb229]? = some (.cells #[.int .i64 t219, .int .i64 (wrap64 (t220 - 1)), .bool t221] 27 (0, 0))) ∧ Aside0 (wc.heap[gb231]? = some (.cells #[.int .i64 ((rd_T27 t215 x62_2).f0), .int .i64 ((rd_T27 t215 x62_2).f1), .bool ((rd_T27 t215 x62_2).f2)] 27 (0, 0))) ∧ Aside0 (Below w.heap.size w wc))
 case first =>
  have H := HC32.out
  clear HC32
  by_cases c42 : t233 = true
  rotate_left
  ·replace c42 := Bool.eq_false_iff.mpr c42
   subst c42
   have H1 : (none) = some r := by rw [if_neg (show ¬ (false = true) by decide)] at H; exact H
   clear H
   have H := H1
   clear H1
   exact absurd H (by simp)
  subst c42
  have H1 : (laws_FnNext.j2 k2 t216 x9_ x11_2 t215 (t215.length : Int) x62_2 (decide (t232 ≤ 0)) t219 t220 t221 t219 (wrap64 (t220 - 1)) t221 ((rd_T27 t215 x62_2).f0) ((rd_T27 t215 x62_2).f1) ((rd_T27 t215 x62_2).f2)) = some r := by rw [if_pos rfl] at H; exact H
  clear H
  have H := H1
  clear H1
  have H' := Aside0.mk H
  clear H
  go_wp2
  go_meet
  case rel => exact ⟨_, (decide (t232 ≤ 0)), (by first | rfl | (simp; done) | (simp [*]; done)), H', ⟨by have := HJ5.out; have := HK2.out; first | omega | exact Nat.le_refl _⟩, ⟨by (with_reducible repeat (first | apply Kd.R_alloc | apply Kd.R_drewN | apply Kd.R_drew)); exact Kd.R_mono HO_60.out (fun _ hk => ⟨hk.1.1, ⟨hk.1.2.1, ⟨hk.1.2.2, hk.2⟩⟩⟩)⟩, ⟨by (with_reducible repeat (first | refine blk_drewN ?_ _ | refine blk_drew ?_ | refine blk_alloc ?_ _)); exact BK223.out⟩, ⟨by (with_reducible repeat (first | refine blk_drewN ?_ _ | refine blk_drew ?_ | refine blk_alloc ?_ _)); exact BK228.out⟩, ⟨by (with_reducible repeat (first | refine blk_drewN ?_ _ | refine blk_drew ?_ | refine blk_alloc ?_ _)); exact BK229.out⟩, ⟨by (with_reducible repeat (first | refine blk_drewN ?_ _ | refine blk_drew ?_ | refine blk_alloc ?_ _)); exact BK231.out⟩, ⟨by repeat (first | (with_reducible first | exact HB.out | apply below_alloc | apply pw_below_drewN | apply below_drew1 | refine below_set ?_ GE223.out | refine below_set ?_ GE228.out | refine below_set ?_ GE229.out | refine below_set ?_ GE231.out) | exact HB.out)⟩⟩
 clear HC32
 try clear c1
 try clear c2
 try clear c2b0
 try clear c2b1
 try clear p2
 try clear q2
 try clear hx2
 try clear c3
 try clear c4
 try clear c6
 try clear p6
 try clear c7
 try clear c8
 try clear c9
 try clear c14
 try clear c16
 try clear c16b0
 try clear c16b1
 try clear c16b2
 try clear c17
 try clear c20
 try clear c21
 try clear c22
 try clear p23
 try clear q23
 try clear hx23
 try clear c25
 try clear c26
 try clear c28
 try clear c28b0
 try clear c29
 try clear c29b0
 try clear c30
 try clear c30b0
 try clear c34
 try clear c35
 try clear c36
 try clear c38
 try clear c39
 try clear c42
 try clear hcz11_0
 try clear hcz11_1
 try clear hcz11_2
 try clear hcz15_0
 try clear hcz15_1
 try clear hcz15_2
 try clear hcz18_0
 try clear hcz18_1
 try clear hcz18_2
 try clear hcz19_0
 try clear hcz19_1
 try clear hcz19_2
 try clear hcz23_0
 try clear hcz23_1
 try clear hcz23_2
 try clear hcz27_0
 try clear hcz27_1
 try clear hcz27_2
 try clear hcz37_0
 try clear hcz37_1
 try clear hcz37_2
 try clear hcz40_0
 try clear hcz40_1
 try clear hcz40_2
 try clear hfz11_0
 try clear hfz11_1
 try clear hfz11_2
 try clear hfz15_0
 try clear hfz15_1
 try clear hfz15_2
 try clear hfz18_0
 try clear hfz18_1
 try clear hfz18_2
 try clear hfz19_0
 try clear hfz19_1
 try clear hfz19_2
 try clear hfz23_0
 try clear hfz23_1
 try clear hfz23_2
 try clear hfz27_0
 try clear hfz27_1
 try clear hfz27_2
 try clear hfz37_0
 try clear hfz37_1
 try clear hfz37_2
 try clear hfz40_0
 try clear hfz40_1
 try clear hfz40_2
 try clear hx230_0
 try clear hx230_1
 try clear hx230_2
 try clear p2
 try clear p230
 try clear p6
 try clear q230
 obtain ⟨kq, x77_31, rfl, HA, HJ31, HO_60, BK223, BK228, BK229, BK231, HB⟩ := hcut
 cases kq with
 | zero => exact absurd HA.out (by simp [laws_FnNext.j2])
 | succ kj31 => ?_
 have H := HA.out
 clear HA
 simp only [laws_FnNext.j2] at H
 by_cases c43 : x77_31 = true
 ·subst c43
  have H1 : (none) = some r := by rw [if_pos rfl] at H; exact H
  clear H
  have H := H1
  clear H1
  exact absurd H (by simp)
 replace c43 := Bool.eq_false_iff.mpr c43
 subst c43
 have H1 : (if x9_ = true then ((spec_CompareTid.f kj31 t219 (wrap64 (t220 - 1)) t221 ((rd_T27 t215 x62_2).f0) ((rd_T27 t215 x62_2).f1) ((rd_T27 t215 x62_2).f2)).bind fun bt234 => (if x11_2 = true then (laws_FnNext.l0 kj31 t216 x9_ (decide (bt234.1 > 0)) t215 (t215.length : Int) (wrap64 (x62_2 + 1)) t219 t220 t221 t219 (wrap64 (t220 - 1)) t221) else (laws_FnNext.l0 kj31 t216 x9_ false t215 (t215.length : Int) (wrap64 (x62_2 + 1)) t219 t220 t221 t219 (wrap64 (t220 - 1)) t221))) else (laws_FnNext.l0 kj31 t216 x9_ x11_2 t215 (t215.length : Int) (wrap64 (x62_2 + 1)) t219 t220 t221 t219 (wrap64 (t220 - 1)) t221)) = some r := by rw [if_neg (show ¬ (false = true) by decide)] at H; exact H
 clear H
 have H := H1
 clear H1
 by_cases c44 : x9_ = true
 rotate_left
 ·replace c44 := Bool.eq_false_iff.mpr c44
  subst c44
  rw [if_neg (show ¬ (false = true) by decide)] at H
  have H' := Aside0.mk H
  clear H
  go_wp2
  go_roundg kj31
  case measure => have := HJ5.out; have := HK2.out; have := HJ31.out; omega
  case rel => exact ⟨(x11_2), (wrap64 (x62_2 + 1)), (by first | rfl | (simp; done) | (simp [*]; done)), (by first | rfl | (simp; done) | (simp [*]; done)), H', ⟨by have := HJ5.out; have := HK2.out; have := HJ31.out; omega⟩, ⟨by (with_reducible repeat (first | apply Kd.R_alloc | apply Kd.R_drewN | apply Kd.R_drew)); exact Kd.R_mono HO_60.out (fun _ hk => ⟨hk.1, ⟨hk.2.1, hk.2.2.1⟩⟩)⟩, ⟨by (with_reducible repeat (first | refine blk_drewN ?_ _ | refine blk_drew ?_ | refine blk_alloc ?_ _)); exact BK223.out⟩, ⟨by (with_reducible repeat (first | refine blk_drewN ?_ _ | refine blk_drew ?_ | refine blk_alloc ?_ _)); exact BK228.out⟩, ⟨by (with_reducible repeat (first | refine blk_drewN ?_ _ | refine blk_drew ?_ | refine blk_alloc ?_ _)); exact BK229.out⟩, ⟨by repeat (first | (with_reducible first | exact HB.out | apply below_alloc | apply pw_below_drewN | apply below_drew1 | refine below_set ?_ GE223.out | refine below_set ?_ GE228.out | refine below_set ?_ GE229.out | refine below_set ?_ GE231.out) | exact HB.out)⟩⟩
 subst c44
 rw [if_pos rfl] at H
 replace H := Option.bind_eq_some_iff.mp H
 obtain ⟨⟨t234, t235⟩, A450, H⟩ := H
 replace H : (if x11_2 = true then (laws_FnNext.l0 kj31 t216 true (decide (t234 > 0)) t215 (t215.length : Int) (wrap64 (x62_2 + 1)) t219 t220 t221 t219 (wrap64 (t220 - 1)) t221) else (laws_FnNext.l0 kj31 t216 true false t215 (t215.length : Int) (wrap64 (x62_2 + 1)) t219 t220 t221 t219 (wrap64 (t220 - 1)) t221)) = some r := H
 have A45 := Aside0.mk A450
 clear A450
 by_cases c46 : x11_2 = true
 ·subst c46
  have H1 : (laws_FnNext.l0 kj31 t216 true (decide (t234 > 0)) t215 (t215.length : Int) (wrap64 (x62_2 + 1)) t219 t220 t221 t219 (wrap64 (t220 - 1)) t221) = some r := by rw [if_pos rfl] at H; exact H
  clear H
  have H := H1
  clear H1
  have H' := Aside0.mk H
  clear H
  have hnb47 := NB229_223.out
  have hnc47 := NB223_229.out
  have hnb48 := NB229_228.out
  have hnc48 := NB228_229.out
  have hnb49 := NB229_231.out
  have hnc49 := NB231_229.out
  have hcz50_0 : wc.cell? ⟨gb229, 0, none⟩ = some (.int .i64 t219) := (blk_cell BK229.out 0).trans rfl
  have hcz50_1 : wc.cell? ⟨gb229, 1, none⟩ = some (.int .i64 (wrap64 (t220 - 1))) := (blk_cell BK229.out 1).trans rfl
  have hcz50_2 : wc.cell? ⟨gb229, 2, none⟩ = some (.bool t221) := (blk_cell BK229.out 2).trans rfl
  have hfz50_0 := blk_frozen BK229.out 0
  have hfz50_1 := blk_frozen BK229.out 1
  have hfz50_2 := blk_frozen BK229.out 2
  have hnb51 := NB231_223.out
  have hnc51 := NB223_231.out
  have hnb52 := NB231_228.out
  have hnc52 := NB228_231.out
  have hcz53_0 : wc.cell? ⟨gb231, 0, none⟩ = some (.int .i64 ((rd_T27 t215 x62_2).f0)) := (blk_cell BK231.out 0).trans rfl
  have hcz53_1 : wc.cell? ⟨gb231, 1, none⟩ = some (.int .i64 ((rd_T27 t215 x62_2).f1)) := (blk_cell BK231.out 1).trans rfl
  have hcz53_2 : wc.cell? ⟨gb231, 2, none⟩ = some (.bool ((rd_T27 t215 x62_2).f2)) := (blk_cell BK231.out 2).trans rfl
  have hfz53_0 := blk_frozen BK231.out 0
  have hfz53_1 := blk_frozen BK231.out 1
  have hfz53_2 := blk_frozen BK231.out 2
  go_wp2_with (first | ((with_reducible refine gate_callee (f := 10) rfl ?_); refine goesL_ (some 82) rfl rfl Try.func10 (by kernel_rfl) rfl #[.agg #[.int .i64 t219, .int .i64 (wrap64 (t220 - 1)), .bool t221], .agg #[.int .i64 ((rd_T27 t215 x62_2).f0), .int .i64 ((rd_T27 t215 x62_2).f1), .bool ((rd_T27 t215 x62_2).f2)]] rfl (by (try simp only [List.map_toArray, List.map_cons, List.map_nil]); first | done | rfl | (simp only [List.length_drop, List.length_take]; rfl)) ?_; (with_reducible refine (spec_CompareTid.calls kj31 t219 (wrap64 (t220 - 1)) t221 ((rd_T27 t215 x62_2).f0) ((rd_T27 t215 x62_2).f1) ((rd_T27 t215 x62_2).f2) t234 t235 _ A45.out).mono ?_); rintro e w54 ⟨rfl, hb⟩; refine ⟨_, rfl, ?_⟩; have n0_ := Aside0.mk (Kd.R_below (by (with_reducible repeat (first | apply Kd.R_alloc | apply Kd.R_drewN | apply Kd.R_drew)); exact HO_60.out) hb); have n1_ := Aside0.mk (blk_below (g := gb223) (o := .cells #[.int .i64 t219, .int .i64 t220, .bool t221] 27 (0, 0)) (by (with_reducible repeat (first | refine blk_drewN ?_ _ | refine blk_drew ?_ | refine blk_alloc ?_ _)); exact BK223.out) hb); have n2_ := Aside0.mk (blk_below (g := gb228) (o := .cells #[.int .i64 t224, .int .i64 t225, .bool t226] 27 (0, 0)) (by (with_reducible repeat (first | refine blk_drewN ?_ _ | refine blk_drew ?_ | refine blk_alloc ?_ _)); exact BK228.out) hb); have n3_ := Aside0.mk (blk_below (g := gb229) (o := .cells #[.int .i64 t219, .int .i64 (wrap64 (t220 - 1)), .bool t221] 27 (0, 0)) (by (with_reducible repeat (first | refine blk_drewN ?_ _ | refine blk_drew ?_ | refine blk_alloc ?_ _)); exact BK229.out) hb); have n4_ := Aside0.mk (blk_below (g := gb231) (o := .cells #[.int .i64 ((rd_T27 t215 x62_2).f0), .int .i64 ((rd_T27 t215 x62_2).f1), .bool ((rd_T27 t215 x62_2).f2)] 27 (0, 0)) (by (with_reducible repeat (first | refine blk_drewN ?_ _ | refine blk_drew ?_ | refine blk_alloc ?_ _)); exact BK231.out) hb); have n5_ := Aside0.mk (below_step (by repeat (first | (with_reducible first | exact HB.out | apply below_alloc | apply pw_below_drewN | apply below_drew1 | refine below_set ?_ GE223.out | refine below_set ?_ GE228.out | refine below_set ?_ GE229.out | refine below_set ?_ GE231.out) | exact HB.out)) hb); clear HO_60; clear BK223; clear BK228; clear BK229; clear BK231; clear HB; have HO_60 := n0_; have BK223 := n1_; have BK228 := n2_; have BK229 := n3_; have BK231 := n4_; have HB := n5_; clear n0_ n1_ n2_ n3_ n4_ n5_; (try clear hb); (try clear hb2); (try clear hk); (try clear hi)))
  go_roundg kj31
  case measure => have := HJ5.out; have := HK2.out; have := HJ31.out; omega
  case rel => exact ⟨(decide (t234 > 0)), (wrap64 (x62_2 + 1)), (by first | rfl | (simp; done) | (simp [*]; done)), (by first | rfl | (simp; done) | (simp [*]; done)), H', ⟨by have := HJ5.out; have := HK2.out; have := HJ31.out; omega⟩, ⟨by (with_reducible repeat (first | apply Kd.R_alloc | apply Kd.R_drewN | apply Kd.R_drew)); exact Kd.R_mono HO_60.out (fun _ hk => ⟨hk.1, ⟨hk.2.1, hk.2.2.1⟩⟩)⟩, ⟨by (with_reducible repeat (first | refine blk_drewN ?_ _ | refine blk_drew ?_ | refine blk_alloc ?_ _)); exact BK223.out⟩, ⟨by (with_reducible repeat (first | refine blk_drewN ?_ _ | refine blk_drew ?_ | refine blk_alloc ?_ _)); exact BK228.out⟩, ⟨by (with_reducible repeat (first | refine blk_drewN ?_ _ | refine blk_drew ?_ | refine blk_alloc ?_ _)); exact BK229.out⟩, ⟨by repeat (first | (with_reducible first | exact HB.out | apply below_alloc | apply pw_below_drewN | apply below_drew1 | refine below_set ?_ GE223.out | refine below_set ?_ GE228.out | refine below_set ?_ GE229.out | refine below_set ?_ GE231.out) | exact HB.out)⟩⟩
 replace c46 := Bool.eq_false_iff.mpr c46
 subst c46
 have H1 : (laws_FnNext.l0 kj31 t216 true false t215 (t215.length : Int) (wrap64 (x62_2 + 1)) t219 t220 t221 t219 (wrap64 (t220 - 1)) t221) = some r := by rw [if_neg (show ¬ (false = true) by decide)] at H; exact H
 clear H
 have H := H1
 clear H1
 have H' := Aside0.mk H
 clear H
 have hnb55 := NB229_223.out
 have hnc55 := NB223_229.out
 have hnb56 := NB229_228.out
 have hnc56 := NB228_229.out
 have hnb57 := NB229_231.out
 have hnc57 := NB231_229.out
 have hcz58_0 : wc.cell? ⟨gb229, 0, none⟩ = some (.int .i64 t219) := (blk_cell BK229.out 0).trans rfl
 have hcz58_1 : wc.cell? ⟨gb229, 1, none⟩ = some (.int .i64 (wrap64 (t220 - 1))) := (blk_cell BK229.out 1).trans rfl
 have hcz58_2 : wc.cell? ⟨gb229, 2, none⟩ = some (.bool t221) := (blk_cell BK229.out 2).trans rfl
 have hfz58_0 := blk_frozen BK229.out 0
 have hfz58_1 := blk_frozen BK229.out 1
 have hfz58_2 := blk_frozen BK229.out 2
 have hnb59 := NB231_223.out
 have hnc59 := NB223_231.out
 have hnb60 := NB231_228.out
 have hnc60 := NB228_231.out
 have hcz61_0 : wc.cell? ⟨gb231, 0, none⟩ = some (.int .i64 ((rd_T27 t215 x62_2).f0)) := (blk_cell BK231.out 0).trans rfl
 have hcz61_1 : wc.cell? ⟨gb231, 1, none⟩ = some (.int .i64 ((rd_T27 t215 x62_2).f1)) := (blk_cell BK231.out 1).trans rfl
 have hcz61_2 : wc.cell? ⟨gb231, 2, none⟩ = some (.bool ((rd_T27 t215 x62_2).f2)) := (blk_cell BK231.out 2).trans rfl
 have hfz61_0 := blk_frozen BK231.out 0
 have hfz61_1 := blk_frozen BK231.out 1
 have hfz61_2 := blk_frozen BK231.out 2
 go_wp2_with (first | ((with_reducible refine gate_callee (f := 10) rfl ?_); refine goesL_ (some 82) rfl rfl Try.func10 (by kernel_rfl) rfl #[.agg #[.int .i64 t219, .int .i64 (wrap64 (t220 - 1)), .bool t221], .agg #[.int .i64 ((rd_T27 t215 x62_2).f0), .int .i64 ((rd_T27 t215 x62_2).f1), .bool ((rd_T27 t215 x62_2).f2)]] rfl (by (try simp only [List.map_toArray, List.map_cons, List.map_nil]); first | done | rfl | (simp only [List.length_drop, List.length_take]; rfl)) ?_; (with_reducible refine (spec_CompareTid.calls kj31 t219 (wrap64 (t220 - 1)) t221 ((rd_T27 t215 x62_2).f0) ((rd_T27 t215 x62_2).f1) ((rd_T27 t215 x62_2).f2) t234 t235 _ A45.out).mono ?_); rintro e w62 ⟨rfl, hb⟩; refine ⟨_, rfl, ?_⟩; have n0_ := Aside0.mk (Kd.R_below (by (with_reducible repeat (first | apply Kd.R_alloc | apply Kd.R_drewN | apply Kd.R_drew)); exact HO_60.out) hb); have n1_ := Aside0.mk (blk_below (g := gb223) (o := .cells #[.int .i64 t219, .int .i64 t220, .bool t221] 27 (0, 0)) (by (with_reducible repeat (first | refine blk_drewN ?_ _ | refine blk_drew ?_ | refine blk_alloc ?_ _)); exact BK223.out) hb); have n2_ := Aside0.mk (blk_below (g := gb228) (o := .cells #[.int .i64 t224, .int .i64 t225, .bool t226] 27 (0, 0)) (by (with_reducible repeat (first | refine blk_drewN ?_ _ | refine blk_drew ?_ | refine blk_alloc ?_ _)); exact BK228.out) hb); have n3_ := Aside0.mk (blk_below (g := gb229) (o := .cells #[.int .i64 t219, .int .i64 (wrap64 (t220 - 1)), .bool t221] 27 (0, 0)) (by (with_reducible repeat (first | refine blk_drewN ?_ _ | refine blk_drew ?_ | refine blk_alloc ?_ _)); exact BK229.out) hb); have n4_ := Aside0.mk (blk_below (g := gb231) (o := .cells #[.int .i64 ((rd_T27 t215 x62_2).f0), .int .i64 ((rd_T27 t215 x62_2).f1), .bool ((rd_T27 t215 x62_2).f2)] 27 (0, 0)) (by (with_reducible repeat (first | refine blk_drewN ?_ _ | refine blk_drew ?_ | refine blk_alloc ?_ _)); exact BK231.out) hb); have n5_ := Aside0.mk (below_step (by repeat (first | (with_reducible first | exact HB.out | apply below_alloc | apply pw_below_drewN | apply below_drew1 | refine below_set ?_ GE223.out | refine below_set ?_ GE228.out | refine below_set ?_ GE229.out | refine below_set ?_ GE231.out) | exact HB.out)) hb); clear HO_60; clear BK223; clear BK228; clear BK229; clear BK231; clear HB; have HO_60 := n0_; have BK223 := n1_; have BK228 := n2_; have BK229 := n3_; have BK231 := n4_; have HB := n5_; clear n0_ n1_ n2_ n3_ n4_ n5_; (try clear hb); (try clear hb2); (try clear hk); (try clear hi)))
 go_roundg kj31
 case measure => have := HJ5.out; have := HK2.out; have := HJ31.out; omega
 case rel => exact ⟨(false), (wrap64 (x62_2 + 1)), (by first | rfl | (simp; done) | (simp [*]; done)), (by first | rfl | (simp; done) | (simp [*]; done)), H', ⟨by have := HJ5.out; have := HK2.out; have := HJ31.out; omega⟩, ⟨by (with_reducible repeat (first | apply Kd.R_alloc | apply Kd.R_drewN | apply Kd.R_drew)); exact Kd.R_mono HO_60.out (fun _ hk => ⟨hk.1, ⟨hk.2.1, hk.2.2.1⟩⟩)⟩, ⟨by (with_reducible repeat (first | refine blk_drewN ?_ _ | refine blk_drew ?_ | refine blk_alloc ?_ _)); exact BK223.out⟩, ⟨by (with_reducible repeat (first | refine blk_drewN ?_ _ | refine blk_drew ?_ | refine blk_alloc ?_ _)); exact BK228.out⟩, ⟨by (with_reducible repeat (first | refine blk_drewN ?_ _ | refine blk_drew ?_ | refine blk_alloc ?_ _)); exact BK229.out⟩, ⟨by repeat (first | (with_reducible first | exact HB.out | apply below_alloc | apply pw_below_drewN | apply below_drew1 | refine below_set ?_ GE223.out | refine below_set ?_ GE228.out | refine below_set ?_ GE229.out | refine below_set ?_ GE231.out) | exact HB.out)⟩⟩

/-- THE ONE PURE STATEMENT of laws_FnNext: yours. -/
def laws_FnNext.Pure : Prop := ∀ (l0 : List Int), l0.length ≤ maxLen → l0.length * 1 ≤ 140737488351232 → (∀ x ∈ l0, (Lit.int .u8 x).wf = true) → ∃ k, laws_FnNext.f k l0 = some true
theorem laws_FnNext.walk (P : laws_FnNext.Pure) (a0 : Option Addr) (len0 cap0 : Nat) (z0 : List Int) (w : World) (w0 : (a0 = none ∧ len0 = 0 ∧ cap0 = 0 ∧ z0 = []) ∨ ∃ x, a0 = some x ∧ len0 ≤ cap0 ∧ cap0 ≤ maxLen ∧ z0.length = cap0 ∧ (∀ i, i < z0.length → w.cell? (x.add i) = some (.int .u8 (z0.getD i 0))) ∧ ∀ n ∈ z0, (Lit.int .u8 n).wf = true) (y0 : len0 * 1 ≤ 140737488351232) :
  Calls Try.prog 3 #[.slice a0 len0 cap0] w fun e w' => e = .returned (.bool true) ∧ Below w.heap.size w w' := by
 obtain ⟨l0, rfl, hr0, hm0, hw0, hc0⟩ := ReadsInt.ofRowC w0
 obtain ⟨k, h⟩ := P l0 hm0 y0 hw0
 refine (laws_FnNext.calls k _ _ l0 true w (Kd.C_of_reads (d := (0 : Int)) (h1 := fun _ => rfl) hr0) hc0 h).mono ?_
 rintro e w' ⟨rfl, hd⟩
 exact ⟨rfl, hd⟩

end Go.Proofs.Ytgdcooiaeeajmaa.PNX
