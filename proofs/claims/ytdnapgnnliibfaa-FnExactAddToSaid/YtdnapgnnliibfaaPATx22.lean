/- What this text proves: the machine calls of these functions return what the plain functions say. Conditions: as each theorem says. Printed by a program of this session out of the translation. -/
import Derived.Test.YtdnapgnnliibfaaPATx0
import Derived.Test.YtdnapgnnliibfaaPATx6
import Derived.Test.YtdnapgnnliibfaaPATx8
import Derived.Test.YtdnapgnnliibfaaPATx21
namespace Go.Proofs.Ytdnapgnnliibfaa.PAT
open Go.RowKit Go.Proofs.YtdnapgnnliibfaaW.PrintWords Go.Proofs.YtdnapgnnliibfaaW.PrintLast Go.Proofs.YtdnapgnnliibfaaW.PrintMore
attribute [local go_sem] max2_int min2_int max_two min_two max_three min_three max_four min_four   -- for this text's walks alone
set_option linter.unusedVariables false
set_option linter.unusedSimpArgs false

/-! ### impl_AddTo: function 25 -/
mutual
def impl_AddTo.j0 : Nat → Int → ByteArray → Bool → List (S48) → List (S48) → Option ((List (S48)) × (List (S48)) × Bool)
 | 0, _, _, _, _, _ => none
 | k + 1, x1, x2, x23, x568000, x568001 => if x23 = true then (some (([] : List (S48)), ([] : List (S48)), false)) else ((some (([] : List (S48)) : List (S48))).bind fun y573 => (if y573.length + x568000.length < 4398046511104 then ((some (y573 ++ x568000 : List (S48))).bind fun y576 => (if y576.length + x568001.length < 4398046511104 then ((some (y576 ++ x568001 : List (S48))).bind fun y579 => (impl_AddTo.l0 k x1 y579 (y579.length : Int) 0 x568000 x568001 x2 x1 1)) else (none))) else (none)))
def impl_AddTo.l0 : Nat → Int → List (S48) → Int → Int → List (S48) → List (S48) → ByteArray → Int → Int → Option ((List (S48)) × (List (S48)) × Bool)
 | 0, _, _, _, _, _, _, _, _, _ => none
 | k + 1, x1, x34, x35, x36, x568000, x568001, x573000, x573001, x573002 => if x36 < x35 then (if 0 ≤ x36 then (if x36 < (x34.length : Int) then (if ((rd_T48 x34 x36).f1) = x1 then (impl_AddTo.l0 k x1 x34 x35 (wrap64 (x36 + 1)) x568000 x568001 x573000 x573001 (mx x573002 (wrap64 (((rd_T48 x34 x36).f2) + 1)))) else (impl_AddTo.l0 k x1 x34 x35 (wrap64 (x36 + 1)) x568000 x568001 x573000 x573001 x573002)) else (none)) else (none)) else ((some (([] : List (S48)) : List (S48))).bind fun y584 => (if y584.length + x568000.length < 4398046511104 then ((some (y584 ++ x568000 : List (S48))).bind fun y587 => ((some (([(⟨x573000, x573001, x573002⟩ : S48)] : List (S48)) : List (S48))).bind fun y590 => (if y587.length + y590.length < 4398046511104 then ((impl_goodBag.f k (y587 ++ y590) x568001).bind fun bt596 => (some (bt596.1, bt596.2.1, bt596.2.2))) else (none)))) else (none)))
end
def impl_AddTo.f (k : Nat) (l0_0 : List (S48)) (l0_1 : List (S48)) (a1 : Int) (a2 : ByteArray) : Option ((List (S48)) × (List (S48)) × Bool) := (impl_isBag.f k l0_0 l0_1).bind fun t569 => (if t569 = true then ((impl_in.f a1 0 5).bind fun t570 => (if t570 = true then ((impl_isValue.f k a2).bind fun t571 => (impl_AddTo.j0 k a1 a2 (!t571) l0_0 l0_1)) else (impl_AddTo.j0 k a1 a2 true l0_0 l0_1))) else (impl_AddTo.j0 k a1 a2 true l0_0 l0_1))
theorem impl_AddTo.mono_l : ∀ k, (∀ y0 y1 y2 y3 y4, LeO (impl_AddTo.j0 k y0 y1 y2 y3 y4) (impl_AddTo.j0 (k + 1) y0 y1 y2 y3 y4)) ∧ (∀ y0 y1 y2 y3 y4 y5 y6 y7 y8, LeO (impl_AddTo.l0 k y0 y1 y2 y3 y4 y5 y6 y7 y8) (impl_AddTo.l0 (k + 1) y0 y1 y2 y3 y4 y5 y6 y7 y8))
 | 0 => ⟨fun _ _ _ _ _ r h => by simp [impl_AddTo.j0] at h, fun _ _ _ _ _ _ _ _ _ r h => by simp [impl_AddTo.l0] at h⟩
 | k + 1 => by
  obtain ⟨ih0, ih1⟩ := impl_AddTo.mono_l k
  refine ⟨?_, ?_⟩
  ·intro y0 y1 y2 y3 y4
   unfold impl_AddTo.j0
   repeat' first
   | (with_reducible exact ih0 _ _ _ _ _)
   | (with_reducible exact ih1 _ _ _ _ _ _ _ _ _)
   | (with_reducible exact impl_goodBag.mono _ _ _)
   | (with_reducible exact impl_isBag.mono _ _ _)
   | (with_reducible exact impl_isValue.mono _ _)
   | (with_reducible exact LeO.refl _)
   | (with_reducible exact LeO.none _)
   | (with_reducible refine LeO.ite ?_ ?_)
   | (with_reducible refine LeO.bind ?_ (fun _ => ?_))
   | exact ih0 _ _ _ _ _
   | exact ih1 _ _ _ _ _ _ _ _ _
   | exact impl_goodBag.mono _ _ _
   | exact impl_isBag.mono _ _ _
   | exact impl_isValue.mono _ _
   | exact LeO.none _
   | refine LeO.ite ?_ ?_
   | refine LeO.bind ?_ (fun _ => ?_)
  ·intro y0 y1 y2 y3 y4 y5 y6 y7 y8
   unfold impl_AddTo.l0
   repeat' first
   | (with_reducible exact ih0 _ _ _ _ _)
   | (with_reducible exact ih1 _ _ _ _ _ _ _ _ _)
   | (with_reducible exact impl_goodBag.mono _ _ _)
   | (with_reducible exact impl_isBag.mono _ _ _)
   | (with_reducible exact impl_isValue.mono _ _)
   | (with_reducible exact LeO.refl _)
   | (with_reducible exact LeO.none _)
   | (with_reducible refine LeO.ite ?_ ?_)
   | (with_reducible refine LeO.bind ?_ (fun _ => ?_))
   | exact ih0 _ _ _ _ _
   | exact ih1 _ _ _ _ _ _ _ _ _
   | exact impl_goodBag.mono _ _ _
   | exact impl_isBag.mono _ _ _
   | exact impl_isValue.mono _ _
   | exact LeO.none _
   | refine LeO.ite ?_ ?_
   | refine LeO.bind ?_ (fun _ => ?_)
theorem impl_AddTo.mono : ∀ a0 a1 a2 a3 k, LeO (impl_AddTo.f k a0 a1 a2 a3) (impl_AddTo.f (k + 1) a0 a1 a2 a3) := by
 intro a0 a1 a2 a3 k
 obtain ⟨ih0, ih1⟩ := impl_AddTo.mono_l k
 unfold impl_AddTo.f
 repeat' first
   | (with_reducible exact ih0 _ _ _ _ _)
   | (with_reducible exact ih1 _ _ _ _ _ _ _ _ _)
   | (with_reducible exact impl_goodBag.mono _ _ _)
   | (with_reducible exact impl_isBag.mono _ _ _)
   | (with_reducible exact impl_isValue.mono _ _)
   | (with_reducible exact LeO.refl _)
   | (with_reducible exact LeO.none _)
   | (with_reducible refine LeO.ite ?_ ?_)
   | (with_reducible refine LeO.bind ?_ (fun _ => ?_))
   | exact ih0 _ _ _ _ _
   | exact ih1 _ _ _ _ _ _ _ _ _
   | exact impl_goodBag.mono _ _ _
   | exact impl_isBag.mono _ _ _
   | exact impl_isValue.mono _ _
   | exact LeO.none _
   | refine LeO.ite ?_ ?_
   | refine LeO.bind ?_ (fun _ => ?_)
def impl_AddTo.T4 : Bool × List (List Nat × List Nat) := (true, [([], []), ([], []), ([1], [1]), ([0, 2], [0, 2]), ([], []), ([4], [4]), ([3, 5, 3], [3, 5]), ([6], [6]), ([], [])])
def impl_AddTo.B4 : List Nat := [0, 0, 2, 7, 0, 16, 63, 127, 0]
theorem impl_AddTo.tab4 : rtab .any (opsOf Try.f25 4) = impl_AddTo.T4 := by kernel_rfl
theorem impl_AddTo.bits4 : waitsOk impl_AddTo.T4.2 impl_AddTo.B4 = true := by kernel_rfl
def impl_AddTo.T10 : Bool × List (List Nat × List Nat) := (true, [([], []), ([], []), ([1], [1]), ([0, 2], [0, 2]), ([], []), ([4], [4]), ([3, 5, 3], [3, 5]), ([], []), ([7], [7]), ([6, 8, 6], [6, 8]), ([9], [9]), ([9], [9]), ([10, 9, 0, 1, 2, 3, 4, 5, 6, 7, 8, 9, 10, 11], [10]), ([11, 12, 0, 1, 2, 3, 4, 5, 6, 7, 8, 9, 10, 11, 12], [11])])
def impl_AddTo.B10 : List Nat := [0, 0, 2, 7, 0, 16, 63, 0, 128, 511, 1023, 1023, 4095, 8191]
theorem impl_AddTo.tab10 : rtab .any (opsOf Try.f25 10) = impl_AddTo.T10 := by kernel_rfl
theorem impl_AddTo.bits10 : waitsOk impl_AddTo.T10.2 impl_AddTo.B10 = true := by kernel_rfl
set_option maxHeartbeats 8000000 in
set_option maxRecDepth 100000 in
theorem impl_AddTo.calls (k : Nat) (A0_0 : Option Addr) (c0_0 : Nat) (l0_0 : List (S48)) (A0_1 : Option Addr) (c0_1 : Nat) (l0_1 : List (S48)) (a1 : Int) (a2 : ByteArray) (r1 : List (S48)) (r2 : List (S48)) (r3 : Bool) (w : World) (hr0_0 : Kd.C k48 w A0_0 l0_0.length l0_0) (hc0_0 : l0_0.length ≤ c0_0) (hr0_1 : Kd.C k48 w A0_1 l0_1.length l0_1) (hc0_1 : l0_1.length ≤ c0_1) (h : impl_AddTo.f k l0_0 l0_1 a1 a2 = some (r1, r2, r3)) :
  Calls Try.prog 25 #[.agg #[.slice A0_0 l0_0.length c0_0, .slice A0_1 l0_1.length c0_1], .int .i64 a1, .string a2] w fun e w' => ∃ v0_ v1_ : Value, e = .returned (.tuple #[.agg #[v0_, v1_], .bool r3]) ∧ Kd.R k48 48 w' w.heap.size (fun k_ => some k_ ≠ (v1_ : Value).ownBlock) v0_ r1 ∧ Kd.R k48 48 w' w.heap.size (fun k_ => some k_ ≠ (v0_ : Value).ownBlock) v1_ r2 ∧ Below w.heap.size w w' := by
 have hu29 := Try.underlying29
 have hu48 := Try.underlying48
 have HR0_0 := Aside0.mk hr0_0
 have HC0_0 := Aside0.mk hc0_0
 clear hr0_0 hc0_0
 have HR0_1 := Aside0.mk hr0_1
 have HC0_1 := Aside0.mk hc0_1
 clear hr0_1 hc0_1
 have HB := Aside0.mk (Below.refl w.heap.size w)
 have H : ((impl_isBag.f k l0_0 l0_1).bind fun t569 => (if t569 = true then ((impl_in.f a1 0 5).bind fun t570 => (if t570 = true then ((impl_isValue.f k a2).bind fun t571 => (impl_AddTo.j0 k a1 a2 (!t571) l0_0 l0_1)) else (impl_AddTo.j0 k a1 a2 true l0_0 l0_1))) else (impl_AddTo.j0 k a1 a2 true l0_0 l0_1))) = some (r1, r2, r3) := h
 clear h
 have HC4 := Aside0.mk H
 clear H
 go_enter Try.func25, Try.ntmps25
 go_upto_region 1 with (first | ((with_reducible refine gate_dst (N := 3) rfl ?_); refine box_event rfl (N := 3) rfl (cs := #[.slice A0_0 l0_0.length c0_0, .slice A0_1 l0_1.length c0_1]) (t := 29) gs_ ?_; intro gb567 hg w5 hbox hb; have BK567 := Aside0.mk (hbox); have GW567 := Aside0.mk ((by rw [hg]; exact bz_ : w.heap.size ≤ gb567)); have GE567 := GW567; replace HB := Aside0.mk (below_step bl_ hb); clear hb hbox hg) | ((with_reducible refine gate_dst (N := 6) rfl ?_); refine box_event rfl (N := 6) rfl (cs := #[.slice none 0 0, .slice none 0 0]) (t := 29) gs_ ?_; intro gb568 hg w6 hbox hb; have BK568 := Aside0.mk (hbox); have GW568 := Aside0.mk ((by rw [hg]; exact bz_ : w.heap.size ≤ gb568)); have GE568 := GW568; replace HB := Aside0.mk (below_step bl_ hb); have NB567_568 := nl_ hg BK567; have NB568_567 := nm_ hg BK567; replace BK567 := bb_ BK567 hb; clear hb hbox hg))
 (try simp only [Act.put, List.setIfInBounds_toArray, List.set_cons_zero, List.set_cons_succ])
 go_cut [23] (fun v23 wc => ∃ (kq : Nat) (x23_3 : Bool), v23 = .bool x23_3 ∧ Aside0 (impl_AddTo.j0 kq a1 a2 x23_3 l0_0 l0_1 = some (r1, r2, r3)) ∧ Aside0 (kq ≤ k) ∧ Aside0 (wc.heap[gb567]? = some (.cells #[(.slice A0_0 l0_0.length c0_0), (.slice A0_1 l0_1.length c0_1)] 29 (0, 0))) ∧ Aside0 (wc.heap[gb568]? = some (.cells #[(.slice none 0 0), (.slice none 0 0)] 29 (0, 0))) ∧ Aside0 (Below w.heap.size w wc))
 case first =>
  have H := HC4.out
  clear HC4
  replace H := Option.bind_eq_some_iff.mp H
  obtain ⟨t569, A70, H⟩ := H
  replace H : (if t569 = true then ((impl_in.f a1 0 5).bind fun t570 => (if t570 = true then ((impl_isValue.f k a2).bind fun t571 => (impl_AddTo.j0 k a1 a2 (!t571) l0_0 l0_1)) else (impl_AddTo.j0 k a1 a2 true l0_0 l0_1))) else (impl_AddTo.j0 k a1 a2 true l0_0 l0_1)) = some (r1, r2, r3) := H
  have A7 := Aside0.mk A70
  clear A70
  by_cases c8 : t569 = true
  rotate_left
  ·replace c8 := Bool.eq_false_iff.mpr c8
   subst c8
   have H1 : (impl_AddTo.j0 k a1 a2 true l0_0 l0_1) = some (r1, r2, r3) := by rw [if_neg (show ¬ (false = true) by decide)] at H; exact H
   clear H
   have H := H1
   clear H1
   have H' := Aside0.mk H
   clear H
   have hnb18 := NB567_568.out
   have hnc18 := NB568_567.out
   have hcz19_0 : w6.cell? ⟨gb567, 0, none⟩ = some (.slice A0_0 l0_0.length c0_0) := bc_ BK567.out 0
   have hcz19_1 : w6.cell? ⟨gb567, 1, none⟩ = some (.slice A0_1 l0_1.length c0_1) := bc_ BK567.out 1
   have hfz19_0 := blk_frozen BK567.out 0
   have hfz19_1 := blk_frozen BK567.out 1
   go_wp2_with (first | ((with_reducible refine gate_callee (f := 30) rfl ?_); refine goesL_ (some 12) rfl rfl Try.func30 (by kernel_rfl) rfl #[.agg #[.slice A0_0 l0_0.length c0_0, .slice A0_1 l0_1.length c0_1]] rfl nc_ ?_; (with_reducible refine (impl_isBag.calls k _ _ l0_0 _ _ l0_1 false _ ?side1 ?side2 ?side3 ?side4 A7.out).mono ?_); (case side1 => exact kc_ (Kd.C_below HR0_0.out HB.out)); (case side2 => exact HC0_0.out); (case side3 => exact kc_ (Kd.C_below HR0_1.out HB.out)); (case side4 => exact HC0_1.out); rintro e w20 ⟨rfl, hb⟩; refine ⟨_, rfl, ?_⟩; replace BK567 := bb_ BK567 hb; replace BK568 := bb_ BK568 hb; replace HB := Aside0.mk (below_step bl_ hb); clear hb))
   go_meet
   case rel => exact ⟨_, (true), (by first | rfl | (simp; done) | (simp [*]; done)), H', ⟨by first | omega | exact Nat.le_refl _⟩, ⟨by exact kb_ BK567.out⟩, ⟨by exact kb_ BK568.out⟩, ⟨bl_⟩⟩
  subst c8
  have H1 : ((impl_in.f a1 0 5).bind fun t570 => (if t570 = true then ((impl_isValue.f k a2).bind fun t571 => (impl_AddTo.j0 k a1 a2 (!t571) l0_0 l0_1)) else (impl_AddTo.j0 k a1 a2 true l0_0 l0_1))) = some (r1, r2, r3) := by rw [if_pos rfl] at H; exact H
  clear H
  have H := H1
  clear H1
  replace H := Option.bind_eq_some_iff.mp H
  obtain ⟨t570, A90, H⟩ := H
  replace H : (if t570 = true then ((impl_isValue.f k a2).bind fun t571 => (impl_AddTo.j0 k a1 a2 (!t571) l0_0 l0_1)) else (impl_AddTo.j0 k a1 a2 true l0_0 l0_1)) = some (r1, r2, r3) := H
  have A9 := Aside0.mk A90
  clear A90
  by_cases c10 : t570 = true
  rotate_left
  ·replace c10 := Bool.eq_false_iff.mpr c10
   subst c10
   have H1 : (impl_AddTo.j0 k a1 a2 true l0_0 l0_1) = some (r1, r2, r3) := by rw [if_neg (show ¬ (false = true) by decide)] at H; exact H
   clear H
   have H := H1
   clear H1
   have H' := Aside0.mk H
   clear H
   have hnb15 := NB567_568.out
   have hnc15 := NB568_567.out
   have hcz16_0 : w6.cell? ⟨gb567, 0, none⟩ = some (.slice A0_0 l0_0.length c0_0) := bc_ BK567.out 0
   have hcz16_1 : w6.cell? ⟨gb567, 1, none⟩ = some (.slice A0_1 l0_1.length c0_1) := bc_ BK567.out 1
   have hfz16_0 := blk_frozen BK567.out 0
   have hfz16_1 := blk_frozen BK567.out 1
   go_wp2_with (first | ((with_reducible refine gate_callee (f := 30) rfl ?_); refine goesL_ (some 12) rfl rfl Try.func30 (by kernel_rfl) rfl #[.agg #[.slice A0_0 l0_0.length c0_0, .slice A0_1 l0_1.length c0_1]] rfl nc_ ?_; (with_reducible refine (impl_isBag.calls k _ _ l0_0 _ _ l0_1 true _ ?side1 ?side2 ?side3 ?side4 A7.out).mono ?_); (case side1 => exact kc_ (Kd.C_below HR0_0.out HB.out)); (case side2 => exact HC0_0.out); (case side3 => exact kc_ (Kd.C_below HR0_1.out HB.out)); (case side4 => exact HC0_1.out); rintro e w17 ⟨rfl, hb⟩; refine ⟨_, rfl, ?_⟩; replace BK567 := bb_ BK567 hb; replace BK568 := bb_ BK568 hb; replace HB := Aside0.mk (below_step bl_ hb); clear hb) | (go_at_call 49; (with_reducible refine (impl_in.calls a1 0 5 false _ A9.out).mono ?_); rintro e w' ⟨rfl, ⟨nd, rfl⟩⟩))
   go_meet
   case rel => exact ⟨_, (true), (by first | rfl | (simp; done) | (simp [*]; done)), H', ⟨by first | omega | exact Nat.le_refl _⟩, ⟨by exact kb_ BK567.out⟩, ⟨by exact kb_ BK568.out⟩, ⟨bl_⟩⟩
  subst c10
  have H1 : ((impl_isValue.f k a2).bind fun t571 => (impl_AddTo.j0 k a1 a2 (!t571) l0_0 l0_1)) = some (r1, r2, r3) := by rw [if_pos rfl] at H; exact H
  clear H
  have H := H1
  clear H1
  replace H := Option.bind_eq_some_iff.mp H
  obtain ⟨t571, A110, H⟩ := H
  replace H : (impl_AddTo.j0 k a1 a2 (!t571) l0_0 l0_1) = some (r1, r2, r3) := H
  have A11 := Aside0.mk A110
  clear A110
  have H' := Aside0.mk H
  clear H
  have hnb12 := NB567_568.out
  have hnc12 := NB568_567.out
  have hcz13_0 : w6.cell? ⟨gb567, 0, none⟩ = some (.slice A0_0 l0_0.length c0_0) := bc_ BK567.out 0
  have hcz13_1 : w6.cell? ⟨gb567, 1, none⟩ = some (.slice A0_1 l0_1.length c0_1) := bc_ BK567.out 1
  have hfz13_0 := blk_frozen BK567.out 0
  have hfz13_1 := blk_frozen BK567.out 1
  go_wp2_with (first | ((with_reducible refine gate_callee (f := 30) rfl ?_); refine goesL_ (some 12) rfl rfl Try.func30 (by kernel_rfl) rfl #[.agg #[.slice A0_0 l0_0.length c0_0, .slice A0_1 l0_1.length c0_1]] rfl nc_ ?_; (with_reducible refine (impl_isBag.calls k _ _ l0_0 _ _ l0_1 true _ ?side1 ?side2 ?side3 ?side4 A7.out).mono ?_); (case side1 => exact kc_ (Kd.C_below HR0_0.out HB.out)); (case side2 => exact HC0_0.out); (case side3 => exact kc_ (Kd.C_below HR0_1.out HB.out)); (case side4 => exact HC0_1.out); rintro e w14 ⟨rfl, hb⟩; refine ⟨_, rfl, ?_⟩; replace BK567 := bb_ BK567 hb; replace BK568 := bb_ BK568 hb; replace HB := Aside0.mk (below_step bl_ hb); clear hb) | (go_at_call 49; (with_reducible refine (impl_in.calls a1 0 5 true _ A9.out).mono ?_); rintro e w' ⟨rfl, ⟨nd, rfl⟩⟩) | (go_at_call 50; (with_reducible refine (impl_isValue.calls k a2 t571 _ A11.out).mono ?_); rintro e w' ⟨rfl, ⟨nd, rfl⟩⟩))
  go_meet
  case rel => exact ⟨_, (!t571), (by first | rfl | (simp; done) | (simp [*]; done)), H', ⟨by first | omega | exact Nat.le_refl _⟩, ⟨by exact kb_ BK567.out⟩, ⟨by exact kb_ BK568.out⟩, ⟨bl_⟩⟩
 clear HC4
 try clear c1
 try clear c2
 try clear p2
 try clear c3
 try clear c8
 try clear c10
 try clear c12
 try clear c15
 try clear c18
 try clear hcz13_0
 try clear hcz13_1
 try clear hcz16_0
 try clear hcz16_1
 try clear hcz19_0
 try clear hcz19_1
 try clear hfz13_0
 try clear hfz13_1
 try clear hfz16_0
 try clear hfz16_1
 try clear hfz19_0
 try clear hfz19_1
 obtain ⟨kq, x23_3, rfl, HA, HJ3, BK567, BK568, HB⟩ := hcut
 cases kq with
 | zero => exact absurd HA.out (by simp [impl_AddTo.j0])
 | succ kj3 => ?_
 have H := HA.out
 clear HA
 simp only [impl_AddTo.j0] at H
 by_cases c21 : x23_3 = true
 ·subst c21
  have H1 : (some (([] : List (S48)), ([] : List (S48)), false)) = some (r1, r2, r3) := by rw [if_pos rfl] at H; exact H
  clear H
  have H := H1
  clear H1
  simp only [Option.some.injEq, Prod.mk.injEq] at H
  obtain ⟨rfl, rfl, rfl⟩ := H
  have hnb22 := NB568_567.out
  have hnc22 := NB567_568.out
  have hcz23_0 : wc.cell? ⟨gb568, 0, none⟩ = some (.slice none 0 0) := bc_ BK568.out 0
  have hcz23_1 : wc.cell? ⟨gb568, 1, none⟩ = some (.slice none 0 0) := bc_ BK568.out 1
  have hfz23_0 := blk_frozen BK568.out 0
  have hfz23_1 := blk_frozen BK568.out 1
  go_wp2
  refine bodyPost_ret (results_ct rfl _ _ gb568 29 #[.slice none 0 0, .slice none 0 0] (0, 0) _ rfl (by (with_reducible repeat (first | refine blk_drewN ?_ _ | refine blk_drew ?_ | refine blk_alloc ?_ _)); refine blk_put (cs := #[.slice none 0 0, .slice none 0 0]) ?_ 1 _ rfl; (with_reducible repeat (first | refine blk_drewN ?_ _ | refine blk_drew ?_ | refine blk_alloc ?_ _)); refine blk_put (cs := #[.slice none 0 0, .slice none 0 0]) ?_ 0 _ rfl; exact kb_ BK568.out) Try.underlying29 rfl (by kernel_rfl)) rfl ?_
  exact ⟨_, _, ng_, by first | exact Kd.R_nil _ _ _ _ _ | exact Kd.N_nil _ _ _ _ _ | exact Kd.V_nil _ _ _ _ _ | exact Kd.Q_nil _ _ _ _ _ | exact Kd.S_nil _ _ _ _ _, by first | exact Kd.R_nil _ _ _ _ _ | exact Kd.N_nil _ _ _ _ _ | exact Kd.V_nil _ _ _ _ _ | exact Kd.Q_nil _ _ _ _ _ | exact Kd.S_nil _ _ _ _ _, bl_⟩
 replace c21 := Bool.eq_false_iff.mpr c21
 subst c21
 have H1 : ((some (([] : List (S48)) : List (S48))).bind fun y573 => (if y573.length + l0_0.length < 4398046511104 then ((some (y573 ++ l0_0 : List (S48))).bind fun y576 => (if y576.length + l0_1.length < 4398046511104 then ((some (y576 ++ l0_1 : List (S48))).bind fun y579 => (impl_AddTo.l0 kj3 a1 y579 (y579.length : Int) 0 l0_0 l0_1 a2 a1 1)) else (none))) else (none))) = some (r1, r2, r3) := by rw [if_neg (show ¬ (false = true) by decide)] at H; exact H
 clear H
 have H := H1
 clear H1
 obtain ⟨y573, hy573⟩ : ∃ y_ : List (S48), y_ = (([] : List (S48))) := ⟨_, rfl⟩
 replace H : (if y573.length + l0_0.length < 4398046511104 then ((some (y573 ++ l0_0 : List (S48))).bind fun y576 => (if y576.length + l0_1.length < 4398046511104 then ((some (y576 ++ l0_1 : List (S48))).bind fun y579 => (impl_AddTo.l0 kj3 a1 y579 (y579.length : Int) 0 l0_0 l0_1 a2 a1 1)) else (none))) else (none)) = some (r1, r2, r3) := by first | (rw [hy573]; with_reducible exact H) | (have H2_ := (Option.bind_some _ _).symm.trans H; rw [hy573]; with_reducible exact H2_) | (have H2_ := (Option.bind_some _ _).symm.trans H; with_reducible exact H2_) | with_reducible exact H | (rw [hy573]; exact H) | exact H
 have Ny573 := Aside0.mk hy573
 clear hy573
 by_cases c24 : y573.length + l0_0.length < 4398046511104
 rotate_left
 ·rw [if_neg c24] at H
  exact absurd H (by simp)
 rw [if_pos c24] at H
 have LMc24 := Aside0.mk c24
 clear c24
 obtain ⟨y576, hy576⟩ : ∃ y_ : List (S48), y_ = (y573 ++ l0_0) := ⟨_, rfl⟩
 replace H : (if y576.length + l0_1.length < 4398046511104 then ((some (y576 ++ l0_1 : List (S48))).bind fun y579 => (impl_AddTo.l0 kj3 a1 y579 (y579.length : Int) 0 l0_0 l0_1 a2 a1 1)) else (none)) = some (r1, r2, r3) := by first | (rw [hy576]; with_reducible exact H) | (have H2_ := (Option.bind_some _ _).symm.trans H; rw [hy576]; with_reducible exact H2_) | (have H2_ := (Option.bind_some _ _).symm.trans H; with_reducible exact H2_) | with_reducible exact H | (rw [hy576]; exact H) | exact H
 have Ny576 := Aside0.mk hy576
 clear hy576
 by_cases c25 : y576.length + l0_1.length < 4398046511104
 rotate_left
 ·rw [if_neg c25] at H
  exact absurd H (by simp)
 rw [if_pos c25] at H
 have LMc25 := Aside0.mk c25
 clear c25
 obtain ⟨y579, hy579⟩ : ∃ y_ : List (S48), y_ = (y576 ++ l0_1) := ⟨_, rfl⟩
 replace H : (impl_AddTo.l0 kj3 a1 y579 (y579.length : Int) 0 l0_0 l0_1 a2 a1 1) = some (r1, r2, r3) := by first | (rw [hy579]; with_reducible exact H) | (have H2_ := (Option.bind_some _ _).symm.trans H; rw [hy579]; with_reducible exact H2_) | (have H2_ := (Option.bind_some _ _).symm.trans H; with_reducible exact H2_) | with_reducible exact H | (rw [hy579]; exact H) | exact H
 have Ny579 := Aside0.mk hy579
 clear hy579
 have H' := Aside0.mk H
 clear H
 try go_wp2_with (first | ((with_reducible refine gate_dst (N := 8) rfl ?_); refine box_event rfl (N := 8) rfl (cs := #[.string (⟨#[]⟩ : ByteArray), .int .i64 0, .int .i64 0]) (t := 48) gs_ ?_; intro gb572 hg w26 hbox hb; have BK572 := Aside0.mk (hbox); have GW572 := Aside0.mk ((by rw [hg]; exact bz_ : w.heap.size ≤ gb572)); have GE572 := GW572; replace HB := Aside0.mk (below_step bl_ hb); have NB567_572 := nl_ hg BK567; have NB572_567 := nm_ hg BK567; replace BK567 := bb_ BK567 hb; have NB568_572 := nl_ hg BK568; have NB572_568 := nm_ hg BK568; replace BK568 := bb_ BK568 hb; clear hb hbox hg; have hnb27 := NB572_567.out; have hnc27 := NB567_572.out; have hnb28 := NB572_568.out; have hnc28 := NB568_572.out; have hcz29_0 : w26.cell? ⟨gb572, 0, none⟩ = some (.string (⟨#[]⟩ : ByteArray)) := bc_ BK572.out 0; have hcz29_1 : w26.cell? ⟨gb572, 1, none⟩ = some (.int .i64 0) := bc_ BK572.out 1; have hcz29_2 : w26.cell? ⟨gb572, 2, none⟩ = some (.int .i64 0) := bc_ BK572.out 2; have hfz29_0 := blk_frozen BK572.out 0; have hfz29_1 := blk_frozen BK572.out 1; have hfz29_2 := blk_frozen BK572.out 2))
 have n0_ : Aside0 ((((w26.setCell ⟨gb572, 0, none⟩ (.string a2)).setCell ⟨gb572, 1, none⟩ (.int .i64 a1)).setCell ⟨gb572, 2, none⟩ (.int .i64 1)).heap[gb567]? = some (.cells #[.slice A0_0 l0_0.length c0_0, .slice A0_1 l0_1.length c0_1] 29 (0, 0))) := ⟨kz_⟩
 have n1_ : Aside0 ((((w26.setCell ⟨gb572, 0, none⟩ (.string a2)).setCell ⟨gb572, 1, none⟩ (.int .i64 a1)).setCell ⟨gb572, 2, none⟩ (.int .i64 1)).heap[gb568]? = some (.cells #[.slice none 0 0, .slice none 0 0] 29 (0, 0))) := ⟨kz_⟩
 have n2_ : Aside0 ((((w26.setCell ⟨gb572, 0, none⟩ (.string a2)).setCell ⟨gb572, 1, none⟩ (.int .i64 a1)).setCell ⟨gb572, 2, none⟩ (.int .i64 1)).heap[gb572]? = some (.cells #[.string a2, .int .i64 a1, .int .i64 1] 48 (0, 0))) := ⟨by (with_reducible repeat (first | refine blk_drewN ?_ _ | refine blk_drew ?_ | refine blk_alloc ?_ _)); refine blk_put (cs := #[.string a2, .int .i64 a1, .int .i64 0]) ?_ 2 _ rfl; (with_reducible repeat (first | refine blk_drewN ?_ _ | refine blk_drew ?_ | refine blk_alloc ?_ _)); refine blk_put (cs := #[.string a2, .int .i64 0, .int .i64 0]) ?_ 1 _ rfl; (with_reducible repeat (first | refine blk_drewN ?_ _ | refine blk_drew ?_ | refine blk_alloc ?_ _)); refine blk_put (cs := #[.string (⟨#[]⟩ : ByteArray), .int .i64 0, .int .i64 0]) ?_ 0 _ rfl; exact kb_ BK572.out⟩
 have n3_ : Aside0 (Below w.heap.size w (((w26.setCell ⟨gb572, 0, none⟩ (.string a2)).setCell ⟨gb572, 1, none⟩ (.int .i64 a1)).setCell ⟨gb572, 2, none⟩ (.int .i64 1))) := ⟨bl_⟩
 (try clear BK567)
 (try clear BK568)
 (try clear BK572)
 (try clear HB)
 generalize (((w26.setCell ⟨gb572, 0, none⟩ (.string a2)).setCell ⟨gb572, 1, none⟩ (.int .i64 a1)).setCell ⟨gb572, 2, none⟩ (.int .i64 1)) = w30 at n0_ n1_ n2_ n3_ ⊢
 have BK567 := n0_
 have BK568 := n1_
 have BK572 := n2_
 have HB := n3_
 clear n0_ n1_ n2_ n3_
 replace BK567 := Aside0.mk (blk_drew BK567.out)
 replace BK568 := Aside0.mk (blk_drew BK568.out)
 replace BK572 := Aside0.mk (blk_drew BK572.out)
 replace HB := Aside0.mk (below_drew1 HB.out)
 refine start_ (n := 9) (S := fun w' => w'.cell? ⟨gb567, 0, none⟩ = some (.slice A0_0 l0_0.length c0_0) ∧ w'.cell? ⟨gb567, 1, none⟩ = some (.slice A0_1 l0_1.length c0_1)) (ds := []) #[false, false, false, false, false, false, false, false, false] (by kernel_rfl) rfl rfl ⟨bc_ BK567.out 0, bc_ BK567.out 1⟩ (fun hHeld => ?_); refine with_tabW impl_AddTo.tab4 impl_AddTo.bits4 (fun HT_ HW_ => ?_)
 generalize w30.drew = w31 at BK567 BK568 BK572 HB hHeld ⊢
 refine pu_ 1 (some 29) (h := ?_)
 refine pu_ 4 (some 32) (h := ?_)
 refine pu_ 8 (some 36) (h := ?_)
 refine tk2_ 2 (some 30) (h := ?_)
 refine tk2_ 5 (some 33) (h := ?_)
 refine on_ 0 (some 28) (h := fun K hK => ?_)
 refine Kd.R_lit_step k48 _ 48 rfl (N := 28) rfl (xs := ([] : List (S48))) (inner := []) (ok := fun _ => True) (okp := fun _ => True) gs_ ?hp (fun _ hk => hk) trivial (Below.refl _ _) (Nat.le_refl _) (by simp) ?_; (case hp => exact (Reps.none _ _))
 intro v574 w32 ho33 hb hg_ hnew_
 clear hg_ hnew_
 (first | rw [← Ny573.out] at ho33 | (simp only [Int.reduceToNat] at ho33; rw [← Ny573.out] at ho33))
 have HO575 := Aside0.mk (Kd.R_lower (Kd.R_newB ho33 (kb_ BK572.out)) bz_)
 replace BK567 := bb_ BK567 hb
 replace BK568 := bb_ BK568 hb
 replace BK572 := bb_ BK572 hb
 replace HB := Aside0.mk (below_step bl_ hb)
 clear hb ho33
 refine hK.out _ _ ⟨bc_ BK567.out 0, bc_ BK567.out 1⟩ (fun hHeld => ?_)
 clear hK K
 refine norm_ nn_ ?_
 refine on_ 3 (some 31) (h := fun K hK => ?_)
 refine Kd.R_append_rows_step k48 (w0 := w) w.heap.size (by rfl) (.tmp 28) (.tmp 30) 27 48 (.agg #[(.string ⟨#[]⟩), (.int .i64 0), (.int .i64 0)]) 32 rfl Try.underlying27 info48 rfl (by decide) (by omega) v574 y573 l0_0 _ _ _ (fun k_ => k_ ≠ gb572) (fun _ => False) rfl rfl ?aO ?aR (fun _ _ h => h) (fun _ h => h.elim) ?aF ?aB ?aS ?aL ?_
 (case aR => exact kc_ (Kd.C_below HR0_0.out HB.out))
 (case aB => exact bl_)
 (case aF => exact (fun k_ hk => Kd.freshB (kb_ BK572.out) k_ hk))
 (case aO => exact (kp_ HO575.out))
 (case aS => exact bz_)
 (case aL => have := LMc24.out; omega)
 intro v577 w34 ho hb hg hat
 rw [← Ny576.out] at ho
 replace BK567 := bgr_ BK567 hg HO575 BK567
 replace BK568 := bgr_ BK568 hg HO575 BK568
 replace BK572 := Aside0.mk (blk_grown (kb_ BK572.out) hg (Kd.R_away HO575.out (fun _ hk => hk.2)))
 replace HB := Aside0.mk (hb)
 have HO578 := Aside0.mk (ho)
 clear HO575 ho hb hg hat
 refine hK.out _ _ ⟨bc_ BK567.out 0, bc_ BK567.out 1⟩ (fun hHeld => ?_)
 clear hK K
 refine norm_ nn_ ?_
 refine on_ 6 (some 34) (h := fun K hK => ?_)
 refine Kd.R_append_rows_step k48 (w0 := w) w.heap.size (by rfl) (.tmp 31) (.tmp 33) 27 48 (.agg #[(.string ⟨#[]⟩), (.int .i64 0), (.int .i64 0)]) 32 rfl Try.underlying27 info48 rfl (by decide) (by omega) v577 y576 l0_1 _ _ _ (fun k_ => k_ ≠ gb572) (fun _ => False) rfl rfl ?aO ?aR (fun _ _ h => h) (fun _ h => h.elim) ?aF ?aB ?aS ?aL ?_
 (case aR => exact kc_ (Kd.C_below HR0_1.out HB.out))
 (case aB => exact bl_)
 (case aF => exact (fun k_ hk => Kd.freshB (kb_ BK572.out) k_ hk))
 (case aO => exact (kr_ HO578.out))
 (case aS => exact bz_)
 (case aL => have := LMc25.out; omega)
 intro v580 w35 ho hb hg hat
 rw [← Ny579.out] at ho
 replace BK567 := bgr_ BK567 hg HO578 BK567
 replace BK568 := bgr_ BK568 hg HO578 BK568
 replace BK572 := Aside0.mk (blk_grown (kb_ BK572.out) hg (Kd.R_away HO578.out (fun _ hk => hk)))
 replace HB := Aside0.mk (hb)
 have HO581 := Aside0.mk (ho)
 clear HO578 ho hb hg hat
 obtain ⟨Ao36, co36, eo36⟩ := Kd.R_slice HO581.out
 (first | subst eo36 | (injection eo36 with f1_ f2_ f3_; have f4_ := f1_.symm; have f5_ := f3_.symm; clear f1_ f2_ f3_; subst f4_; subst f5_))
 refine hK.out _ _ ⟨bc_ BK567.out 0, bc_ BK567.out 1⟩ (fun hHeld => ?_)
 clear hK K
 refine norm_ nn_ ?_
 refine pu_ 7 (some 35) (h := ?_)
 refine done_ (done_of HT_.out (by kernel_rfl)) ?_
 try go_wp2
 go_loopg [36] kj3 (fun kq v36 w' => ∃ (x36_2 : Int) (x573002_2 : Int), v36 = .int .i64 x36_2 ∧ Aside0 (impl_AddTo.l0 kq a1 y579 (y579.length : Int) x36_2 l0_0 l0_1 a2 a1 x573002_2 = some (r1, r2, r3)) ∧ Aside0 (kq ≤ kj3) ∧ Aside0 (Kd.R k48 48 w' w.heap.size (fun k_ => k_ ≠ gb572) (.slice Ao36 y579.length co36) y579) ∧ Aside0 (w'.heap[gb567]? = some (.cells #[(.slice A0_0 l0_0.length c0_0), (.slice A0_1 l0_1.length c0_1)] 29 (0, 0))) ∧ Aside0 (w'.heap[gb568]? = some (.cells #[(.slice none 0 0), (.slice none 0 0)] 29 (0, 0))) ∧ Aside0 (w'.heap[gb572]? = some (.cells #[.string a2, .int .i64 a1, .int .i64 x573002_2] 48 (0, 0))) ∧ Aside0 (Below w.heap.size w w'))
 case atStart => exact ⟨(0), (1), (by first | rfl | (simp; done) | (simp [*]; done)), H', ⟨Nat.le_refl _⟩, ⟨by exact kr_ HO581.out⟩, ⟨by exact kb_ BK567.out⟩, ⟨by exact kb_ BK568.out⟩, ⟨by exact kb_ BK572.out⟩, ⟨bl_⟩⟩
 clear H'
 try clear c1
 try clear c2
 try clear p2
 try clear c3
 try clear c8
 try clear c10
 try clear c12
 try clear c15
 try clear c18
 try clear c21
 try clear c22
 try clear c24
 try clear c25
 try clear c27
 try clear c28
 try clear c30
 try clear hcz13_0
 try clear hcz13_1
 try clear hcz16_0
 try clear hcz16_1
 try clear hcz19_0
 try clear hcz19_1
 try clear hcz23_0
 try clear hcz23_1
 try clear hcz29_0
 try clear hcz29_1
 try clear hcz29_2
 try clear hfz13_0
 try clear hfz13_1
 try clear hfz16_0
 try clear hfz16_1
 try clear hfz19_0
 try clear hfz19_1
 try clear hfz23_0
 try clear hfz23_1
 try clear hfz29_0
 try clear hfz29_1
 try clear hfz29_2
 try clear p2
 obtain ⟨x36_2, x573002_2, rfl, HA, HK2, HO_34, BK567, BK568, BK572, HB⟩ := hrel
 cases gk with
 | zero => exact absurd HA.out (by simp [impl_AddTo.l0])
 | succ k2 => ?_
 have H := HA.out
 clear HA
 simp only [impl_AddTo.l0] at H
 by_cases c37 : x36_2 < (y579.length : Int)
 ·rw [if_pos c37] at H
  have c37b0 : decide (x36_2 < (y579.length : Int)) = true := decide_eq_true c37
  clear c37
  by_cases c38 : 0 ≤ x36_2
  rotate_left
  ·rw [if_neg c38] at H
   exact absurd H (by simp)
  rw [if_pos c38] at H
  have c38b0 : decide (0 ≤ x36_2) = true := decide_eq_true c38
  clear c38
  by_cases c39 : x36_2 < (y579.length : Int)
  rotate_left
  ·rw [if_neg c39] at H
   exact absurd H (by simp)
  rw [if_pos c39] at H
  have c39b0 : decide (x36_2 < (y579.length : Int)) = true := decide_eq_true c39
  clear c39
  by_cases c40 : ((rd_T48 y579 x36_2).f1) = a1
  rotate_left
  ·rw [if_neg c40] at H
   have c40b0 : (((rd_T48 y579 x36_2).f1) == a1) = false := beq_eq_false_iff_ne.mpr c40
   have c40b1 : (((rd_T48 y579 x36_2).f1) != a1) = true := bne_iff_ne.mpr c40
   have H' := Aside0.mk H
   clear H
   have p582 : 0 ≤ (x36_2 : Int) := of_decide_eq_true (by first | (with_reducible assumption) | assumption)
   have q582 : x36_2 < (y579.length : Int) := of_decide_eq_true (by first | (with_reducible assumption) | assumption)
   obtain ⟨ad582, e582, hx582_0, hx582_1, hx582_2⟩ := at_T48 (Kd.R_reads' HO_34.out).2.2 x36_2 p582 q582
   cases e582
   replace p582 := eq_true p582
   replace q582 := eq_true q582
   go_wp2_with (first | ((with_reducible refine gate_dst (N := 10) rfl ?_); refine box_event rfl (N := 10) rfl (cs := #[.string (⟨#[]⟩ : ByteArray), .int .i64 0, .int .i64 0]) (t := 48) gs_ ?_; intro gb583 hg w50 hbox hb; replace HO_34 := Aside0.mk (Kd.R_below (Kd.R_elderB (kr_ HO_34.out) gb583 (Nat.le_of_eq hg.symm)) hb); have BK583 := Aside0.mk (hbox); have GW583 := Aside0.mk ((by rw [hg]; exact bz_ : w.heap.size ≤ gb583)); have GE583 := GW583; replace HB := Aside0.mk (below_step bl_ hb); have NB567_583 := nl_ hg BK567; have NB583_567 := nm_ hg BK567; replace BK567 := bb_ BK567 hb; have NB568_583 := nl_ hg BK568; have NB583_568 := nm_ hg BK568; replace BK568 := bb_ BK568 hb; have NB572_583 := nl_ hg BK572; have NB583_572 := nm_ hg BK572; replace BK572 := bb_ BK572 hb; clear hb hbox hg; have hnb51 := NB583_567.out; have hnc51 := NB567_583.out; have hnb52 := NB583_568.out; have hnc52 := NB568_583.out; have hnb53 := NB583_572.out; have hnc53 := NB572_583.out; have hcz54_0 : w50.cell? ⟨gb583, 0, none⟩ = some (.string (⟨#[]⟩ : ByteArray)) := bc_ BK583.out 0; have hcz54_1 : w50.cell? ⟨gb583, 1, none⟩ = some (.int .i64 0) := bc_ BK583.out 1; have hcz54_2 : w50.cell? ⟨gb583, 2, none⟩ = some (.int .i64 0) := bc_ BK583.out 2; have hfz54_0 := blk_frozen BK583.out 0; have hfz54_1 := blk_frozen BK583.out 1; have hfz54_2 := blk_frozen BK583.out 2))
   go_roundg k2
   case measure => have := HJ3.out; have := HK2.out; omega
   case rel => exact ⟨(wrap64 (x36_2 + 1)), (x573002_2), (by first | rfl | (simp; done) | (simp [*]; done)), H', ⟨by have := HJ3.out; have := HK2.out; omega⟩, ⟨by exact kr_ (Kd.R_mono (Kd.R_far (p := ⟨gb583, 2, none⟩) (Kd.R_far (p := ⟨gb583, 1, none⟩) (Kd.R_far (p := ⟨gb583, 0, none⟩) (Kd.R_mono HO_34.out (fun k_ hk => (⟨hk, hk.2⟩ : _ ∧ k_ ≠ gb583))) (fun _ hk => hk.2) (.string ((rd_T48 y579 x36_2).f0))) (fun _ hk => hk.2) (.int .i64 ((rd_T48 y579 x36_2).f1))) (fun _ hk => hk.2) (.int .i64 ((rd_T48 y579 x36_2).f2))) (fun _ hk => hk.1.1))⟩, ⟨kz_⟩, ⟨kz_⟩, ⟨kz_⟩, ⟨bl_⟩⟩
  rw [if_pos c40] at H
  have c40b0 : (((rd_T48 y579 x36_2).f1) == a1) = true := beq_iff_eq.mpr c40
  have c40b1 : (((rd_T48 y579 x36_2).f1) != a1) = false := bne_eq_false_iff_eq.mpr c40
  clear c40
  obtain ⟨ji41, hji41⟩ : ∃ j_ : Int, (mx x573002_2 (wrap64 (((rd_T48 y579 x36_2).f2) + 1))) = j_ := ⟨_, rfl⟩
  replace H : (impl_AddTo.l0 k2 a1 y579 (y579.length : Int) (wrap64 (x36_2 + 1)) l0_0 l0_1 a2 a1 ji41) = some (r1, r2, r3) := by first | (rw [hji41] at H; exact H) | (simp only [hji41] at H ⊢; exact H)
  have hji41_ : (if x573002_2 < (wrap64 (((rd_T48 y579 x36_2).f2) + 1)) then (wrap64 (((rd_T48 y579 x36_2).f2) + 1)) else x573002_2) = ji41 := hji41
  have H' := Aside0.mk H
  clear H
  have p582 : 0 ≤ (x36_2 : Int) := of_decide_eq_true (by first | (with_reducible assumption) | assumption)
  have q582 : x36_2 < (y579.length : Int) := of_decide_eq_true (by first | (with_reducible assumption) | assumption)
  obtain ⟨ad582, e582, hx582_0, hx582_1, hx582_2⟩ := at_T48 (Kd.R_reads' HO_34.out).2.2 x36_2 p582 q582
  cases e582
  replace p582 := eq_true p582
  replace q582 := eq_true q582
  go_wp2_with (first | ((with_reducible refine gate_dst (N := 10) rfl ?_); refine box_event rfl (N := 10) rfl (cs := #[.string (⟨#[]⟩ : ByteArray), .int .i64 0, .int .i64 0]) (t := 48) gs_ ?_; intro gb583 hg w42 hbox hb; replace HO_34 := Aside0.mk (Kd.R_below (Kd.R_elderB (kr_ HO_34.out) gb583 (Nat.le_of_eq hg.symm)) hb); have BK583 := Aside0.mk (hbox); have GW583 := Aside0.mk ((by rw [hg]; exact bz_ : w.heap.size ≤ gb583)); have GE583 := GW583; replace HB := Aside0.mk (below_step bl_ hb); have NB567_583 := nl_ hg BK567; have NB583_567 := nm_ hg BK567; replace BK567 := bb_ BK567 hb; have NB568_583 := nl_ hg BK568; have NB583_568 := nm_ hg BK568; replace BK568 := bb_ BK568 hb; have NB572_583 := nl_ hg BK572; have NB583_572 := nm_ hg BK572; replace BK572 := bb_ BK572 hb; clear hb hbox hg; have hnb43 := NB583_567.out; have hnc43 := NB567_583.out; have hnb44 := NB583_568.out; have hnc44 := NB568_583.out; have hnb45 := NB583_572.out; have hnc45 := NB572_583.out; have hcz46_0 : w42.cell? ⟨gb583, 0, none⟩ = some (.string (⟨#[]⟩ : ByteArray)) := bc_ BK583.out 0; have hcz46_1 : w42.cell? ⟨gb583, 1, none⟩ = some (.int .i64 0) := bc_ BK583.out 1; have hcz46_2 : w42.cell? ⟨gb583, 2, none⟩ = some (.int .i64 0) := bc_ BK583.out 2; have hfz46_0 := blk_frozen BK583.out 0; have hfz46_1 := blk_frozen BK583.out 1; have hfz46_2 := blk_frozen BK583.out 2; have hnb47 := NB572_567.out; have hnc47 := NB567_572.out; have hnb48 := NB572_568.out; have hnc48 := NB568_572.out; have hcz49_0 : w42.cell? ⟨gb572, 0, none⟩ = some (.string a2) := bc_ BK572.out 0; have hcz49_1 : w42.cell? ⟨gb572, 1, none⟩ = some (.int .i64 a1) := bc_ BK572.out 1; have hcz49_2 : w42.cell? ⟨gb572, 2, none⟩ = some (.int .i64 x573002_2) := bc_ BK572.out 2; have hfz49_0 := blk_frozen BK572.out 0; have hfz49_1 := blk_frozen BK572.out 1; have hfz49_2 := blk_frozen BK572.out 2))
  go_roundg k2
  case measure => have := HJ3.out; have := HK2.out; omega
  case rel => exact ⟨(wrap64 (x36_2 + 1)), (ji41), (by first | rfl | (simp; done) | (simp [*]; done)), H', ⟨by have := HJ3.out; have := HK2.out; omega⟩, ⟨by exact kr_ (Kd.R_mono (Kd.R_far (p := ⟨gb572, 2, none⟩) (Kd.R_far (p := ⟨gb583, 2, none⟩) (Kd.R_far (p := ⟨gb583, 1, none⟩) (Kd.R_far (p := ⟨gb583, 0, none⟩) (Kd.R_mono (Kd.R_mono HO_34.out (fun k_ hk => (⟨hk, hk.2⟩ : _ ∧ k_ ≠ gb583))) (fun k_ hk => (⟨hk, hk.1.1⟩ : _ ∧ k_ ≠ gb572))) (fun _ hk => hk.1.2) (.string ((rd_T48 y579 x36_2).f0))) (fun _ hk => hk.1.2) (.int .i64 ((rd_T48 y579 x36_2).f1))) (fun _ hk => hk.1.2) (.int .i64 ((rd_T48 y579 x36_2).f2))) (fun _ hk => hk.2) (.int .i64 ji41)) (fun _ hk => hk.1.1.1))⟩, ⟨kz_⟩, ⟨kz_⟩, ⟨by (with_reducible repeat (first | refine blk_drewN ?_ _ | refine blk_drew ?_ | refine blk_alloc ?_ _)); refine blk_put (cs := #[.string a2, .int .i64 a1, .int .i64 x573002_2]) ?_ 2 _ rfl; (with_reducible repeat (first | refine blk_drewN ?_ _ | refine blk_drew ?_ | refine blk_alloc ?_ _)); refine blk_far ?_ NB572_583.out _; (with_reducible repeat (first | refine blk_drewN ?_ _ | refine blk_drew ?_ | refine blk_alloc ?_ _)); refine blk_far ?_ NB572_583.out _; (with_reducible repeat (first | refine blk_drewN ?_ _ | refine blk_drew ?_ | refine blk_alloc ?_ _)); refine blk_far ?_ NB572_583.out _; exact kb_ BK572.out⟩, ⟨bl_⟩⟩
 rw [if_neg c37] at H
 have c37b0 : decide (x36_2 < (y579.length : Int)) = false := decide_eq_false c37
 clear c37
 obtain ⟨y584, hy584⟩ : ∃ y_ : List (S48), y_ = (([] : List (S48))) := ⟨_, rfl⟩
 replace H : (if y584.length + l0_0.length < 4398046511104 then ((some (y584 ++ l0_0 : List (S48))).bind fun y587 => ((some (([(⟨a2, a1, x573002_2⟩ : S48)] : List (S48)) : List (S48))).bind fun y590 => (if y587.length + y590.length < 4398046511104 then ((impl_goodBag.f k2 (y587 ++ y590) l0_1).bind fun bt596 => (some (bt596.1, bt596.2.1, bt596.2.2))) else (none)))) else (none)) = some (r1, r2, r3) := by first | (rw [hy584]; with_reducible exact H) | (have H2_ := (Option.bind_some _ _).symm.trans H; rw [hy584]; with_reducible exact H2_) | (have H2_ := (Option.bind_some _ _).symm.trans H; with_reducible exact H2_) | with_reducible exact H | (rw [hy584]; exact H) | exact H
 have Ny584 := Aside0.mk hy584
 clear hy584
 by_cases c55 : y584.length + l0_0.length < 4398046511104
 rotate_left
 ·rw [if_neg c55] at H
  exact absurd H (by simp)
 rw [if_pos c55] at H
 have LMc55 := Aside0.mk c55
 clear c55
 obtain ⟨y587, hy587⟩ : ∃ y_ : List (S48), y_ = (y584 ++ l0_0) := ⟨_, rfl⟩
 replace H : ((some (([(⟨a2, a1, x573002_2⟩ : S48)] : List (S48)) : List (S48))).bind fun y590 => (if y587.length + y590.length < 4398046511104 then ((impl_goodBag.f k2 (y587 ++ y590) l0_1).bind fun bt596 => (some (bt596.1, bt596.2.1, bt596.2.2))) else (none))) = some (r1, r2, r3) := by first | (rw [hy587]; with_reducible exact H) | (have H2_ := (Option.bind_some _ _).symm.trans H; rw [hy587]; with_reducible exact H2_) | (have H2_ := (Option.bind_some _ _).symm.trans H; with_reducible exact H2_) | with_reducible exact H | (rw [hy587]; exact H) | exact H
 have Ny587 := Aside0.mk hy587
 clear hy587
 obtain ⟨y590, hy590⟩ : ∃ y_ : List (S48), y_ = (([(⟨a2, a1, x573002_2⟩ : S48)] : List (S48))) := ⟨_, rfl⟩
 replace H : (if y587.length + y590.length < 4398046511104 then ((impl_goodBag.f k2 (y587 ++ y590) l0_1).bind fun bt596 => (some (bt596.1, bt596.2.1, bt596.2.2))) else (none)) = some (r1, r2, r3) := by first | (rw [hy590]; with_reducible exact H) | (have H2_ := (Option.bind_some _ _).symm.trans H; rw [hy590]; with_reducible exact H2_) | (have H2_ := (Option.bind_some _ _).symm.trans H; with_reducible exact H2_) | with_reducible exact H | (rw [hy590]; exact H) | exact H
 have Ny590 := Aside0.mk hy590
 clear hy590
 by_cases c56 : y587.length + y590.length < 4398046511104
 rotate_left
 ·rw [if_neg c56] at H
  exact absurd H (by simp)
 rw [if_pos c56] at H
 have LMc56 := Aside0.mk c56
 clear c56
 obtain ⟨y593, hy593⟩ : ∃ y_ : List (S48), y_ = (y587 ++ y590) := ⟨_, rfl⟩
 replace H : ((impl_goodBag.f k2 y593 l0_1).bind fun bt596 => (some (bt596.1, bt596.2.1, bt596.2.2))) = some (r1, r2, r3) := by first | (rw [hy593]; with_reducible exact H) | (have H2_ := (Option.bind_some _ _).symm.trans H; rw [hy593]; with_reducible exact H2_) | (have H2_ := (Option.bind_some _ _).symm.trans H; with_reducible exact H2_) | with_reducible exact H | (rw [hy593]; exact H) | exact H
 have Ny593 := Aside0.mk hy593
 clear hy593
 replace H := Option.bind_eq_some_iff.mp H
 obtain ⟨⟨t596, t599, t602⟩, A570, H⟩ := H
 replace H : (some (t596, t599, t602)) = some (r1, r2, r3) := H
 have A57 := Aside0.mk A570
 clear A570
 simp only [Option.some.injEq, Prod.mk.injEq] at H
 obtain ⟨rfl, rfl, rfl⟩ := H
 try go_wp2
 replace HO_34 := Aside0.mk (Kd.R_drew HO_34.out)
 replace BK567 := Aside0.mk (blk_drew BK567.out)
 replace BK568 := Aside0.mk (blk_drew BK568.out)
 replace BK572 := Aside0.mk (blk_drew BK572.out)
 replace HB := Aside0.mk (below_drew1 HB.out)
 refine start_ (n := 14) (S := fun w' => w'.cell? ⟨gb567, 0, none⟩ = some (.slice A0_0 l0_0.length c0_0) ∧ w'.cell? ⟨gb567, 1, none⟩ = some (.slice A0_1 l0_1.length c0_1) ∧ w'.cell? ⟨gb572, 0, none⟩ = some (.string a2) ∧ w'.cell? ⟨gb572, 1, none⟩ = some (.int .i64 a1) ∧ w'.cell? ⟨gb572, 2, none⟩ = some (.int .i64 x573002_2)) (ds := []) #[false, false, false, false, false, false, false, false, false, false, false, false, false, false] (by kernel_rfl) rfl rfl ⟨bc_ BK567.out 0, bc_ BK567.out 1, bc_ BK572.out 0, bc_ BK572.out 1, bc_ BK572.out 2⟩ (fun hHeld => ?_); refine with_tabW impl_AddTo.tab10 impl_AddTo.bits10 (fun HT_ HW_ => ?_)
 generalize wr.drew = w58 at HO_34 BK567 BK568 BK572 HB hHeld ⊢
 refine pu_ 1 (some 53) (h := ?_)
 refine pu_ 7 (some 59) (h := ?_)
 refine tk5_ 2 (some 54) (h := ?_)
 refine tk5_ 4 (some 56) (h := ?_)
 refine tk5_ 8 (some 60) (h := ?_)
 refine join_ (σ := Value × Value × Value) 6 #[true, true, true, true, true, true, false, true, true, false, false, false, false, false] (fun s_ => [(52, s_.1), (55, s_.2.1), (57, s_.2.2)]) (fun s_ w' => (w'.cell? ⟨gb567, 0, none⟩ = some (.slice A0_0 l0_0.length c0_0) ∧ w'.cell? ⟨gb567, 1, none⟩ = some (.slice A0_1 l0_1.length c0_1) ∧ w'.cell? ⟨gb572, 0, none⟩ = some (.string a2) ∧ w'.cell? ⟨gb572, 1, none⟩ = some (.int .i64 a1) ∧ w'.cell? ⟨gb572, 2, none⟩ = some (.int .i64 x573002_2)) ∧ (Kd.R k48 48 w' w.heap.size (fun k_ => some k_ ≠ (s_.2.2 : Value).ownBlock ∧ some k_ ≠ (.slice Ao36 y579.length co36 : Value).ownBlock ∧ k_ ≠ gb572) s_.2.1 y587) ∧ (Kd.R k48 48 w' w.heap.size (fun k_ => some k_ ≠ (s_.2.1 : Value).ownBlock ∧ some k_ ≠ (.slice Ao36 y579.length co36 : Value).ownBlock ∧ k_ ≠ gb572) s_.2.2 y590) ∧ (Kd.R k48 48 w' w.heap.size (fun k_ => some k_ ≠ (s_.2.1 : Value).ownBlock ∧ some k_ ≠ (s_.2.2 : Value).ownBlock ∧ k_ ≠ gb572) (.slice Ao36 y579.length co36) y579) ∧ (w'.heap[gb567]? = some (.cells #[.slice A0_0 l0_0.length c0_0, .slice A0_1 l0_1.length c0_1] 29 (0, 0))) ∧ (w'.heap[gb568]? = some (.cells #[.slice none 0 0, .slice none 0 0] 29 (0, 0))) ∧ (w'.heap[gb572]? = some (.cells #[.string a2, .int .i64 a1, .int .i64 x573002_2] 48 (0, 0))) ∧ (Below w.heap.size w w')) ?_ ?_
 rotate_left
 ·intro hCont
  refine tw_ 0 5 (some 52) (some 57) (h1 := fun K hK => ?_) (h2 := fun K hK => ?_)
  ·skip
   refine Kd.R_lit_step k48 _ 48 rfl (N := 52) rfl (xs := ([] : List (S48))) (inner := []) (ok := fun _ => True) (okp := fun _ => True) gs_ ?hp (fun _ hk => hk) trivial (Below.refl _ _) (Nat.le_refl _) (by simp) ?_; (case hp => exact (Reps.none _ _))
   intro v585 w59 ho60 hb hg_ hnew_
   clear hg_ hnew_
   (first | rw [← Ny584.out] at ho60 | (simp only [Int.reduceToNat] at ho60; rw [← Ny584.out] at ho60))
   have HO586 := Aside0.mk (Kd.R_lower (Kd.R_newB (rn_ ho60 HO_34.out) (kb_ BK572.out)) bz_)
   replace HO_34 := Aside0.mk (Kd.R_elder' (kr_ HO_34.out) (Kd.R_base ho60) hb)
   replace BK567 := bb_ BK567 hb
   replace BK568 := bb_ BK568 hb
   replace BK572 := bb_ BK572 hb
   replace HB := Aside0.mk (below_step bl_ hb)
   clear hb ho60
   refine hK.out _ _ ⟨bc_ BK567.out 0, bc_ BK567.out 1, bc_ BK572.out 0, bc_ BK572.out 1, bc_ BK572.out 2⟩ (fun hHeld => ?_)
   clear hK K
   refine norm_ nn_ ?_
   refine tw_ 3 5 (some 55) (some 57) (h1 := fun K hK => ?_) (h2 := fun K hK => ?_)
   ·skip
    refine Kd.R_append_rows_step k48 (w0 := w) w.heap.size (by rfl) (.tmp 52) (.tmp 54) 27 48 (.agg #[(.string ⟨#[]⟩), (.int .i64 0), (.int .i64 0)]) 32 rfl Try.underlying27 info48 rfl (by decide) (by omega) v585 y584 l0_0 _ _ _ (fun k_ => some k_ ≠ (.slice Ao36 y579.length co36 : Value).ownBlock ∧ k_ ≠ gb572) (fun _ => False) rfl rfl ?aO ?aR (fun _ _ h => h) (fun _ h => h.elim) ?aF ?aB ?aS ?aL ?_
    (case aR => exact kc_ (Kd.C_below HR0_0.out HB.out))
    (case aB => exact bl_)
    (case aF => exact (fun k_ hk => ⟨Kd.fresh' (Kd.R_lt (kr_ HO_34.out)) k_ hk, Kd.freshB (kb_ BK572.out) k_ hk⟩))
    (case aO => exact (kp_ HO586.out))
    (case aS => exact bz_)
    (case aL => have := LMc55.out; omega)
    intro v588 w61 ho hb hg hat
    rw [← Ny587.out] at ho
    replace HO_34 := Aside0.mk (Kd.R_after (ok := (fun k_ => k_ ≠ gb572)) (kr_ HO_34.out) hg hat)
    replace BK567 := bgr_ BK567 hg HO586 BK567
    replace BK568 := bgr_ BK568 hg HO586 BK568
    replace BK572 := Aside0.mk (blk_grown (kb_ BK572.out) hg (Kd.R_away HO586.out (fun _ hk => hk.2)))
    replace HB := Aside0.mk (hb)
    have HO589 := Aside0.mk (ho)
    clear HO586 ho hb hg hat
    refine hK.out _ _ ⟨bc_ BK567.out 0, bc_ BK567.out 1, bc_ BK572.out 0, bc_ BK572.out 1, bc_ BK572.out 2⟩ (fun hHeld => ?_)
    clear hK K
    refine norm_ nn_ ?_
    refine on_ 5 (some 57) (h := fun K hK => ?_)
    refine Kd.R_lit_step k48 _ 48 rfl (N := 57) rfl (xs := ([(⟨a2, a1, x573002_2⟩ : S48)] : List (S48))) (inner := [.string a2, .int .i64 a1, .int .i64 x573002_2]) (ok := fun _ => True) (okp := fun _ => True) gs_ ?hp (fun _ hk => hk) trivial (Below.refl _ _) (Nat.le_refl _) (by simp) ?_; (case hp => exact (Reps.c3 (show Kd.M k48 _ _ _ (⟨a2, a1, x573002_2⟩ : S48) [.string a2, .int .i64 a1, .int .i64 x573002_2] from (k48_mkM _ _ _ (⟨a2, a1, x573002_2⟩ : S48) )) (Reps.none _ _)))
    intro v591 w62 ho63 hb hg_ hnew_
    clear hg_ hnew_
    (first | rw [← Ny590.out] at ho63 | (simp only [Int.reduceToNat] at ho63; rw [← Ny590.out] at ho63))
    have HO592 := Aside0.mk (Kd.R_lower (Kd.R_newB (rn_ (rn_ ho63 HO_34.out) HO589.out) (kb_ BK572.out)) bz_)
    replace HO_34 := Aside0.mk (Kd.R_elder' (kr_ HO_34.out) (Kd.R_base ho63) hb)
    replace HO589 := Aside0.mk (Kd.R_elder' (kr_ HO589.out) (Kd.R_base ho63) hb)
    replace BK567 := bb_ BK567 hb
    replace BK568 := bb_ BK568 hb
    replace BK572 := bb_ BK572 hb
    replace HB := Aside0.mk (below_step bl_ hb)
    clear hb ho63
    refine hK.out _ _ ⟨bc_ BK567.out 0, bc_ BK567.out 1, bc_ BK572.out 0, bc_ BK572.out 1, bc_ BK572.out 2⟩ (fun hHeld => ?_)
    clear hK K
    refine norm_ nn_ ?_
    exact norm_ (by simp only [putAll, Act.put, List.setIfInBounds_toArray, List.set_cons_zero, List.set_cons_succ]) (hCont (v585, v588, v591) _ ⟨hHeld, kp_ HO589.out, kp_ HO592.out, kp_ HO_34.out, kb_ BK567.out, kb_ BK568.out, kb_ BK572.out, bl_⟩)
   ·skip
    refine Kd.R_lit_step k48 _ 48 rfl (N := 57) rfl (xs := ([(⟨a2, a1, x573002_2⟩ : S48)] : List (S48))) (inner := [.string a2, .int .i64 a1, .int .i64 x573002_2]) (ok := fun _ => True) (okp := fun _ => True) gs_ ?hp (fun _ hk => hk) trivial (Below.refl _ _) (Nat.le_refl _) (by simp) ?_; (case hp => exact (Reps.c3 (show Kd.M k48 _ _ _ (⟨a2, a1, x573002_2⟩ : S48) [.string a2, .int .i64 a1, .int .i64 x573002_2] from (k48_mkM _ _ _ (⟨a2, a1, x573002_2⟩ : S48) )) (Reps.none _ _)))
    intro v591 w61 ho62 hb hg_ hnew_
    clear hg_ hnew_
    (first | rw [← Ny590.out] at ho62 | (simp only [Int.reduceToNat] at ho62; rw [← Ny590.out] at ho62))
    have HO592 := Aside0.mk (Kd.R_lower (Kd.R_newB (rn_ (rn_ ho62 HO_34.out) HO586.out) (kb_ BK572.out)) bz_)
    replace HO_34 := Aside0.mk (Kd.R_elder' (kr_ HO_34.out) (Kd.R_base ho62) hb)
    replace HO586 := Aside0.mk (Kd.R_elder' (kr_ HO586.out) (Kd.R_base ho62) hb)
    replace BK567 := bb_ BK567 hb
    replace BK568 := bb_ BK568 hb
    replace BK572 := bb_ BK572 hb
    replace HB := Aside0.mk (below_step bl_ hb)
    clear hb ho62
    refine hK.out _ _ ⟨bc_ BK567.out 0, bc_ BK567.out 1, bc_ BK572.out 0, bc_ BK572.out 1, bc_ BK572.out 2⟩ (fun hHeld => ?_)
    clear hK K
    refine norm_ nn_ ?_
    refine on_ 3 (some 55) (h := fun K hK => ?_)
    refine Kd.R_append_rows_step k48 (w0 := w) w.heap.size (by rfl) (.tmp 52) (.tmp 54) 27 48 (.agg #[(.string ⟨#[]⟩), (.int .i64 0), (.int .i64 0)]) 32 rfl Try.underlying27 info48 rfl (by decide) (by omega) v585 y584 l0_0 _ _ _ (fun k_ => some k_ ≠ (.slice Ao36 y579.length co36 : Value).ownBlock ∧ some k_ ≠ (v591 : Value).ownBlock ∧ k_ ≠ gb572) (fun _ => False) rfl rfl ?aO ?aR (fun _ _ h => h) (fun _ h => h.elim) ?aF ?aB ?aS ?aL ?_
    (case aR => exact kc_ (Kd.C_below HR0_0.out HB.out))
    (case aB => exact bl_)
    (case aF => exact (fun k_ hk => ⟨Kd.fresh' (Kd.R_lt (kr_ HO_34.out)) k_ hk, Kd.fresh' (Kd.R_lt (kr_ HO592.out)) k_ hk, Kd.freshB (kb_ BK572.out) k_ hk⟩))
    (case aO => exact (kp_ HO586.out))
    (case aS => exact bz_)
    (case aL => have := LMc55.out; omega)
    intro v588 w63 ho hb hg hat
    rw [← Ny587.out] at ho
    replace HO_34 := Aside0.mk (Kd.R_after (ok := (fun k_ => some k_ ≠ (v591 : Value).ownBlock ∧ k_ ≠ gb572)) (kp_ HO_34.out) hg hat)
    replace BK567 := bgr_ BK567 hg HO586 BK567
    replace BK568 := bgr_ BK568 hg HO586 BK568
    replace BK572 := Aside0.mk (blk_grown (kb_ BK572.out) hg (Kd.R_away HO586.out (fun _ hk => hk.1.2)))
    replace HO592 := Aside0.mk (Kd.R_after (ok := (fun k_ => some k_ ≠ (.slice Ao36 y579.length co36 : Value).ownBlock ∧ k_ ≠ gb572)) (kp_ HO592.out) hg hat)
    replace HB := Aside0.mk (hb)
    have HO589 := Aside0.mk (ho)
    clear HO586 ho hb hg hat
    refine hK.out _ _ ⟨bc_ BK567.out 0, bc_ BK567.out 1, bc_ BK572.out 0, bc_ BK572.out 1, bc_ BK572.out 2⟩ (fun hHeld => ?_)
    clear hK K
    refine norm_ nn_ ?_
    exact norm_ (by simp only [putAll, Act.put, List.setIfInBounds_toArray, List.set_cons_zero, List.set_cons_succ]) (hCont (v585, v588, v591) _ ⟨hHeld, kp_ HO589.out, kp_ HO592.out, kp_ HO_34.out, kb_ BK567.out, kb_ BK568.out, kb_ BK572.out, bl_⟩)
  ·skip
   refine Kd.R_lit_step k48 _ 48 rfl (N := 57) rfl (xs := ([(⟨a2, a1, x573002_2⟩ : S48)] : List (S48))) (inner := [.string a2, .int .i64 a1, .int .i64 x573002_2]) (ok := fun _ => True) (okp := fun _ => True) gs_ ?hp (fun _ hk => hk) trivial (Below.refl _ _) (Nat.le_refl _) (by simp) ?_; (case hp => exact (Reps.c3 (show Kd.M k48 _ _ _ (⟨a2, a1, x573002_2⟩ : S48) [.string a2, .int .i64 a1, .int .i64 x573002_2] from (k48_mkM _ _ _ (⟨a2, a1, x573002_2⟩ : S48) )) (Reps.none _ _)))
   intro v591 w59 ho60 hb hg_ hnew_
   clear hg_ hnew_
   (first | rw [← Ny590.out] at ho60 | (simp only [Int.reduceToNat] at ho60; rw [← Ny590.out] at ho60))
   have HO592 := Aside0.mk (Kd.R_lower (Kd.R_newB (rn_ ho60 HO_34.out) (kb_ BK572.out)) bz_)
   replace HO_34 := Aside0.mk (Kd.R_elder' (kr_ HO_34.out) (Kd.R_base ho60) hb)
   replace BK567 := bb_ BK567 hb
   replace BK568 := bb_ BK568 hb
   replace BK572 := bb_ BK572 hb
   replace HB := Aside0.mk (below_step bl_ hb)
   clear hb ho60
   refine hK.out _ _ ⟨bc_ BK567.out 0, bc_ BK567.out 1, bc_ BK572.out 0, bc_ BK572.out 1, bc_ BK572.out 2⟩ (fun hHeld => ?_)
   clear hK K
   refine norm_ nn_ ?_
   refine on_ 0 (some 52) (h := fun K hK => ?_)
   refine Kd.R_lit_step k48 _ 48 rfl (N := 52) rfl (xs := ([] : List (S48))) (inner := []) (ok := fun _ => True) (okp := fun _ => True) gs_ ?hp (fun _ hk => hk) trivial (Below.refl _ _) (Nat.le_refl _) (by simp) ?_; (case hp => exact (Reps.none _ _))
   intro v585 w61 ho62 hb hg_ hnew_
   clear hg_ hnew_
   (first | rw [← Ny584.out] at ho62 | (simp only [Int.reduceToNat] at ho62; rw [← Ny584.out] at ho62))
   have HO586 := Aside0.mk (Kd.R_lower (Kd.R_newB (rn_ (rn_ ho62 HO_34.out) HO592.out) (kb_ BK572.out)) bz_)
   replace HO_34 := Aside0.mk (Kd.R_elder' (kr_ HO_34.out) (Kd.R_base ho62) hb)
   replace HO592 := Aside0.mk (Kd.R_elder' (kr_ HO592.out) (Kd.R_base ho62) hb)
   replace BK567 := bb_ BK567 hb
   replace BK568 := bb_ BK568 hb
   replace BK572 := bb_ BK572 hb
   replace HB := Aside0.mk (below_step bl_ hb)
   clear hb ho62
   refine hK.out _ _ ⟨bc_ BK567.out 0, bc_ BK567.out 1, bc_ BK572.out 0, bc_ BK572.out 1, bc_ BK572.out 2⟩ (fun hHeld => ?_)
   clear hK K
   refine norm_ nn_ ?_
   refine on_ 3 (some 55) (h := fun K hK => ?_)
   refine Kd.R_append_rows_step k48 (w0 := w) w.heap.size (by rfl) (.tmp 52) (.tmp 54) 27 48 (.agg #[(.string ⟨#[]⟩), (.int .i64 0), (.int .i64 0)]) 32 rfl Try.underlying27 info48 rfl (by decide) (by omega) v585 y584 l0_0 _ _ _ (fun k_ => some k_ ≠ (.slice Ao36 y579.length co36 : Value).ownBlock ∧ some k_ ≠ (v591 : Value).ownBlock ∧ k_ ≠ gb572) (fun _ => False) rfl rfl ?aO ?aR (fun _ _ h => h) (fun _ h => h.elim) ?aF ?aB ?aS ?aL ?_
   (case aR => exact kc_ (Kd.C_below HR0_0.out HB.out))
   (case aB => exact bl_)
   (case aF => exact (fun k_ hk => ⟨Kd.fresh' (Kd.R_lt (kr_ HO_34.out)) k_ hk, Kd.fresh' (Kd.R_lt (kr_ HO592.out)) k_ hk, Kd.freshB (kb_ BK572.out) k_ hk⟩))
   (case aO => exact (kp_ HO586.out))
   (case aS => exact bz_)
   (case aL => have := LMc55.out; omega)
   intro v588 w63 ho hb hg hat
   rw [← Ny587.out] at ho
   replace HO_34 := Aside0.mk (Kd.R_after (ok := (fun k_ => some k_ ≠ (v591 : Value).ownBlock ∧ k_ ≠ gb572)) (kp_ HO_34.out) hg hat)
   replace BK567 := bgr_ BK567 hg HO586 BK567
   replace BK568 := bgr_ BK568 hg HO586 BK568
   replace BK572 := Aside0.mk (blk_grown (kb_ BK572.out) hg (Kd.R_away HO586.out (fun _ hk => hk.2)))
   replace HO592 := Aside0.mk (Kd.R_after (ok := (fun k_ => some k_ ≠ (.slice Ao36 y579.length co36 : Value).ownBlock ∧ k_ ≠ gb572)) (kp_ HO592.out) hg hat)
   replace HB := Aside0.mk (hb)
   have HO589 := Aside0.mk (ho)
   clear HO586 ho hb hg hat
   refine hK.out _ _ ⟨bc_ BK567.out 0, bc_ BK567.out 1, bc_ BK572.out 0, bc_ BK572.out 1, bc_ BK572.out 2⟩ (fun hHeld => ?_)
   clear hK K
   refine norm_ nn_ ?_
   exact norm_ (by simp only [putAll, Act.put, List.setIfInBounds_toArray, List.set_cons_zero, List.set_cons_succ]) (hCont (v585, v588, v591) _ ⟨hHeld, kp_ HO589.out, kp_ HO592.out, kp_ HO_34.out, kb_ BK567.out, kb_ BK568.out, kb_ BK572.out, bl_⟩)
 rintro ⟨v585, v588, v591⟩ w64 ⟨hS_, h0_, h1_, h2_, h3_, h4_, h5_, h6_⟩
 dsimp only at h0_ h1_ h2_ h3_ h4_ h5_ h6_
 have HO589 := Aside0.mk h0_
 have HO592 := Aside0.mk h1_
 replace HO_34 := Aside0.mk h2_
 replace BK567 := Aside0.mk h3_
 replace BK568 := Aside0.mk h4_
 replace BK572 := Aside0.mk h5_
 replace HB := Aside0.mk h6_
 clear h0_ h1_ h2_ h3_ h4_ h5_ h6_
 try dsimp only at hS_
 have hHeld := hS_
 obtain ⟨Ao66, co66, eo66⟩ := Kd.R_slice HO592.out
 (first | subst eo66 | (injection eo66 with f1_ f2_ f3_; have f4_ := f1_.symm; have f5_ := f3_.symm; clear f1_ f2_ f3_; subst f4_; subst f5_))
 refine norm_ np_ ?_
 refine on_ 6 (some 58) (h := fun K hK => ?_)
 refine Kd.R_append_rows_step k48 (w0 := w) w.heap.size (by rfl) (.tmp 55) (.tmp 57) 27 48 (.agg #[(.string ⟨#[]⟩), (.int .i64 0), (.int .i64 0)]) 32 rfl Try.underlying27 info48 rfl (by decide) (by omega) v588 y587 y590 _ _ _ (fun k_ => some k_ ≠ (.slice Ao36 y579.length co36 : Value).ownBlock ∧ some k_ ≠ (.slice Ao66 y590.length co66 : Value).ownBlock ∧ k_ ≠ gb572) (fun _ => False) rfl rfl ?aO ?aR (fun _ _ h => h) (fun _ h => h.elim) ?aF ?aB ?aS ?aL ?_
 (case aR => exact kc_ (Kd.R_reads' HO592.out).2.2)
 (case aB => exact bl_)
 (case aF => exact (fun k_ hk => ⟨Kd.fresh' (Kd.R_lt (kr_ HO_34.out)) k_ hk, Kd.fresh' (Kd.R_lt (kr_ HO592.out)) k_ hk, Kd.freshB (kb_ BK572.out) k_ hk⟩))
 (case aO => exact (kp_ HO589.out))
 (case aS => exact bz_)
 (case aL => have := LMc56.out; omega)
 intro v594 w65 ho hb hg hat
 rw [← Ny593.out] at ho
 replace HO_34 := Aside0.mk (Kd.R_after (ok := (fun k_ => some k_ ≠ (.slice Ao66 y590.length co66 : Value).ownBlock ∧ k_ ≠ gb572)) (kp_ HO_34.out) hg hat)
 replace BK567 := bgr_ BK567 hg HO589 BK567
 replace BK568 := bgr_ BK568 hg HO589 BK568
 replace BK572 := Aside0.mk (blk_grown (kb_ BK572.out) hg (Kd.R_away HO589.out (fun _ hk => hk.2.2)))
 replace HO592 := Aside0.mk (Kd.R_after (ok := (fun k_ => some k_ ≠ (.slice Ao36 y579.length co36 : Value).ownBlock ∧ k_ ≠ gb572)) (kp_ HO592.out) hg hat)
 replace HB := Aside0.mk (hb)
 have HO595 := Aside0.mk (ho)
 clear HO589 ho hb hg hat
 obtain ⟨Ao67, co67, eo67⟩ := Kd.R_slice HO595.out
 (first | subst eo67 | (injection eo67 with f1_ f2_ f3_; have f4_ := f1_.symm; have f5_ := f3_.symm; clear f1_ f2_ f3_; subst f4_; subst f5_))
 refine hK.out _ _ ⟨bc_ BK567.out 0, bc_ BK567.out 1, bc_ BK572.out 0, bc_ BK572.out 1, bc_ BK572.out 2⟩ (fun hHeld => ?_)
 clear hK K
 refine norm_ nn_ ?_
 refine on_ 9 (some 61) (h := fun K hK => ?_)
 refine goes_ Try.func33 (by kernel_rfl) rfl #[.slice Ao67 y593.length co67, .slice A0_1 l0_1.length c0_1] (by rfl) rfl rfl nc_ ?_
 with_reducible refine (impl_goodBag.calls k2 _ _ y593 _ _ l0_1 t596 t599 t602 _ ?side1 ?side2 ?side3 ?side4 A57.out).mono ?_
 (case side1 => exact kc_ (Kd.R_reads' HO595.out).2.2)
 (case side2 => exact (Kd.R_reads' HO595.out).2.1)
 (case side3 => exact kc_ (Kd.C_below HR0_1.out HB.out))
 (case side4 => exact HC0_1.out)
 rintro e w68 ⟨v597, v600, rfl, ho0, ho1, hb⟩
 refine ⟨_, rfl, ?_⟩
 have HO598 := Aside0.mk (Kd.R_lower (Kd.R_newB (rn_ (rn_ (rn_ ho0 HO_34.out) HO592.out) HO595.out) (kb_ BK572.out)) bz_)
 have HO601 := Aside0.mk (Kd.R_lower (Kd.R_newB (rn_ (rn_ (rn_ ho1 HO_34.out) HO592.out) HO595.out) (kb_ BK572.out)) bz_)
 replace HO_34 := rp2_ HO_34 hb ho0 ho1
 replace HO592 := rp2_ HO592 hb ho0 ho1
 replace HO595 := rp2_ HO595 hb ho0 ho1
 replace BK567 := bb_ BK567 hb
 replace BK568 := bb_ BK568 hb
 replace BK572 := bb_ BK572 hb
 replace HB := Aside0.mk (below_step bl_ hb)
 clear hb ho0 ho1
 obtain ⟨Ao69, co69, eo69⟩ := Kd.R_slice HO598.out
 (first | subst eo69 | (injection eo69 with f1_ f2_ f3_; have f4_ := f1_.symm; have f5_ := f3_.symm; clear f1_ f2_ f3_; subst f4_; subst f5_))
 obtain ⟨Ao71, co71, eo71⟩ := Kd.R_slice HO601.out
 (first | subst eo71 | (injection eo71 with f1_ f2_ f3_; have f4_ := f1_.symm; have f5_ := f3_.symm; clear f1_ f2_ f3_; subst f4_; subst f5_))
 refine hK.out _ _ ⟨bc_ BK567.out 0, bc_ BK567.out 1, bc_ BK572.out 0, bc_ BK572.out 1, bc_ BK572.out 2⟩ (fun hHeld => ?_)
 clear hK K
 refine norm_ nn_ ?_
 refine pu_ 10 (some 62) (h := ?_)
 refine pu_ 11 (some 63) (h := ?_)
 refine on_ 12 none (h := fun K hK => ?_)
 have hs70 : w68.cell? ⟨gb568, 0, none⟩ = some (.slice none 0 0) := bc_ BK568.out 0
 have hfs70 := blk_frozen BK568.out 0
 have hns70_0 := NB567_568.out
 have hns70_2 := NB572_568.out
 have hms70_0 := NB568_567.out
 have hms70_2 := NB568_572.out
 have hs72 : w68.cell? ⟨gb568, 1, none⟩ = some (.slice none 0 0) := bc_ BK568.out 1
 have hfs72 := blk_frozen BK568.out 1
 have hns72_0 := NB567_568.out
 have hns72_2 := NB572_568.out
 have hms72_0 := NB568_567.out
 have hms72_2 := NB568_572.out
 refine skip_ (w1 := ?_) (by rfl) rfl ?_ ?_
 rotate_left
 ·go_simp
  rfl
 refine hK.out _ _ ⟨((cell_far (p := ⟨gb568, _, none⟩) NB567_568.out _).trans (((cell_far (p := ⟨gb568, _, none⟩) NB567_568.out _).trans (hHeld.1)))), ((cell_far (p := ⟨gb568, _, none⟩) NB567_568.out _).trans (((cell_far (p := ⟨gb568, _, none⟩) NB567_568.out _).trans (hHeld.2.1)))), ((cell_far (p := ⟨gb568, _, none⟩) NB572_568.out _).trans (((cell_far (p := ⟨gb568, _, none⟩) NB572_568.out _).trans (hHeld.2.2.1)))), ((cell_far (p := ⟨gb568, _, none⟩) NB572_568.out _).trans (((cell_far (p := ⟨gb568, _, none⟩) NB572_568.out _).trans (hHeld.2.2.2.1)))), ((cell_far (p := ⟨gb568, _, none⟩) NB572_568.out _).trans (((cell_far (p := ⟨gb568, _, none⟩) NB572_568.out _).trans (hHeld.2.2.2.2))))⟩ (fun hHeld => ?_)
 clear hK K
 refine pu_ 13 (some 7) (h := ?_)
 refine done_ (done_of HT_.out (by kernel_rfl)) ?_
 try go_wp2
 refine bodyPost_ret (results_ct rfl _ _ gb568 29 #[.slice Ao69 t596.length co69, .slice Ao71 t599.length co71] (0, 0) _ rfl (by (with_reducible repeat (first | refine blk_drewN ?_ _ | refine blk_drew ?_ | refine blk_alloc ?_ _)); refine blk_put (cs := #[.slice Ao69 t596.length co69, .slice none 0 0]) ?_ 1 _ rfl; (with_reducible repeat (first | refine blk_drewN ?_ _ | refine blk_drew ?_ | refine blk_alloc ?_ _)); refine blk_put (cs := #[.slice none 0 0, .slice none 0 0]) ?_ 0 _ rfl; exact kb_ BK568.out) Try.underlying29 rfl (by kernel_rfl)) rfl ?_
 exact ⟨_, _, ng_, by exact kr_ (Kd.R_mono (Kd.R_far (p := ⟨gb568, 1, none⟩) (Kd.R_far (p := ⟨gb568, 0, none⟩) (Kd.R_types HO598.out BK568.out (by decide)) (fun _ hk => hk.2) (.slice Ao69 t596.length co69)) (fun _ hk => hk.2) (.slice Ao71 t599.length co71)) (fun _ hk => hk.1.1.1.1.1)), by exact kr_ (Kd.R_mono (Kd.R_far (p := ⟨gb568, 1, none⟩) (Kd.R_far (p := ⟨gb568, 0, none⟩) (Kd.R_types HO601.out BK568.out (by decide)) (fun _ hk => hk.2) (.slice Ao69 t596.length co69)) (fun _ hk => hk.2) (.slice Ao71 t599.length co71)) (fun _ hk => hk.1.1.1.1.1)), bl_⟩

end Go.Proofs.Ytdnapgnnliibfaa.PAT
