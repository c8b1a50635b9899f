/- What this text proves: the machine calls of these functions return what the plain functions say. Conditions: as each theorem says. Printed by a program of this session out of the translation. -/
import Derived.Test.YtdnapgnnliibfaaPRCx0
import Derived.Test.YtdnapgnnliibfaaPRCx1
import Derived.Test.YtdnapgnnliibfaaPRCx3
import Derived.Test.YtdnapgnnliibfaaPRCx5
import Derived.Test.YtdnapgnnliibfaaPRCx8
import Derived.Test.YtdnapgnnliibfaaPRCx18
import Derived.Test.YtdnapgnnliibfaaPRCx22
namespace Go.Proofs.Ytdnapgnnliibfaa.PRC
open Go.RowKit Go.Proofs.YtdnapgnnliibfaaW.PrintWords Go.Proofs.YtdnapgnnliibfaaW.PrintLast Go.Proofs.YtdnapgnnliibfaaW.PrintMore
attribute [local go_sem] max2_int min2_int max_two min_two max_three min_three max_four min_four   -- for this text's walks alone
set_option linter.unusedVariables false
set_option linter.unusedSimpArgs false

attribute [local go_sem high] eqA48
/-! ### spec_RemoveFrom: function 13 -/
def spec_RemoveFrom.l0 : Nat → ByteArray → List (S48) → Int → Int → List (S48) → List (S48) → Option ((List (S48)) × (List (S48)) × Bool)
 | 0, _, _, _, _, _, _ => none
 | k + 1, x1, x19, x20, x21, x507000, x507001 => if x21 < x20 then (if 0 ≤ x21 then (if x21 < (x19.length : Int) then (if ((rd_T48 x19 x21).f0).toList = x1.toList then ((spec_l14Put.f k x507001 ((rd_T48 x19 x21).f0) ((rd_T48 x19 x21).f1) ((rd_T48 x19 x21).f2)).bind fun t509 => (spec_RemoveFrom.l0 k x1 x19 x20 (wrap64 (x21 + 1)) x507000 t509)) else (if x507000.length < 4398046511104 then (spec_RemoveFrom.l0 k x1 x19 x20 (wrap64 (x21 + 1)) (x507000 ++ [(⟨(rd_T48 x19 x21).f0, (rd_T48 x19 x21).f1, (rd_T48 x19 x21).f2⟩ : S48)]) x507001) else (none))) else (none)) else (none)) else ((spec_GoodBag.f k x507000 x507001).bind fun t515 => (if t515 = true then (some (x507000, x507001, true)) else (some (([] : List (S48)), ([] : List (S48)), false))))
def spec_RemoveFrom.f (k : Nat) (l0_0 : List (S48)) (l0_1 : List (S48)) (a1 : ByteArray) : Option ((List (S48)) × (List (S48)) × Bool) := (spec_GoodBag.f k l0_0 l0_1).bind fun t499 => (if t499 = true then ((some (([] : List (S48)) : List (S48))).bind fun y500 => (if y500.length + l0_1.length < 4398046511104 then (spec_RemoveFrom.l0 k a1 l0_0 (l0_0.length : Int) 0 ([] : List (S48)) (y500 ++ l0_1)) else (none))) else (some (([] : List (S48)), ([] : List (S48)), false)))
theorem spec_RemoveFrom.mono_l : ∀ k, (∀ y0 y1 y2 y3 y4 y5, LeO (spec_RemoveFrom.l0 k y0 y1 y2 y3 y4 y5) (spec_RemoveFrom.l0 (k + 1) y0 y1 y2 y3 y4 y5))
 | 0 => fun _ _ _ _ _ _ r h => by simp [spec_RemoveFrom.l0] at h
 | k + 1 => by
  have ih0 := spec_RemoveFrom.mono_l k
  ·intro y0 y1 y2 y3 y4 y5
   unfold spec_RemoveFrom.l0
   repeat' first
   | (with_reducible exact ih0 _ _ _ _ _ _)
   | (with_reducible exact spec_GoodBag.mono _ _ _)
   | (with_reducible exact spec_l14Put.mono _ _ _ _ _)
   | (with_reducible exact LeO.refl _)
   | (with_reducible exact LeO.none _)
   | (with_reducible refine LeO.ite ?_ ?_)
   | (with_reducible refine LeO.bind ?_ (fun _ => ?_))
   | exact ih0 _ _ _ _ _ _
   | exact spec_GoodBag.mono _ _ _
   | exact spec_l14Put.mono _ _ _ _ _
   | exact LeO.none _
   | refine LeO.ite ?_ ?_
   | refine LeO.bind ?_ (fun _ => ?_)
theorem spec_RemoveFrom.mono : ∀ a0 a1 a2 k, LeO (spec_RemoveFrom.f k a0 a1 a2) (spec_RemoveFrom.f (k + 1) a0 a1 a2) := by
 intro a0 a1 a2 k
 have ih0 := spec_RemoveFrom.mono_l k
 unfold spec_RemoveFrom.f
 repeat' first
   | (with_reducible exact ih0 _ _ _ _ _ _)
   | (with_reducible exact spec_GoodBag.mono _ _ _)
   | (with_reducible exact spec_l14Put.mono _ _ _ _ _)
   | (with_reducible exact LeO.refl _)
   | (with_reducible exact LeO.none _)
   | (with_reducible refine LeO.ite ?_ ?_)
   | (with_reducible refine LeO.bind ?_ (fun _ => ?_))
   | exact ih0 _ _ _ _ _ _
   | exact spec_GoodBag.mono _ _ _
   | exact spec_l14Put.mono _ _ _ _ _
   | exact LeO.none _
   | refine LeO.ite ?_ ?_
   | refine LeO.bind ?_ (fun _ => ?_)
set_option maxHeartbeats 8000000 in
set_option maxRecDepth 100000 in
theorem spec_RemoveFrom.calls (k : Nat) (A0_0 : Option Addr) (c0_0 : Nat) (l0_0 : List (S48)) (A0_1 : Option Addr) (c0_1 : Nat) (l0_1 : List (S48)) (a1 : ByteArray) (r1 : List (S48)) (r2 : List (S48)) (r3 : Bool) (w : World) (hr0_0 : Kd.C k48 w A0_0 l0_0.length l0_0) (hc0_0 : l0_0.length ≤ c0_0) (hr0_1 : Kd.C k48 w A0_1 l0_1.length l0_1) (hc0_1 : l0_1.length ≤ c0_1) (h : spec_RemoveFrom.f k l0_0 l0_1 a1 = some (r1, r2, r3)) :
  Calls Try.prog 13 #[.agg #[.slice A0_0 l0_0.length c0_0, .slice A0_1 l0_1.length c0_1], .string a1] w fun e w' => ∃ v0_ v1_ : Value, e = .returned (.tuple #[.agg #[v0_, v1_], .bool r3]) ∧ Kd.R k48 48 w' w.heap.size (fun k_ => some k_ ≠ (v1_ : Value).ownBlock) v0_ r1 ∧ Kd.R k48 48 w' w.heap.size (fun k_ => some k_ ≠ (v0_ : Value).ownBlock) v1_ r2 ∧ Below w.heap.size w w' := by
 have hu29 := Try.underlying29
 have hu48 := Try.underlying48
 have HR0_0 := Aside0.mk hr0_0
 have HC0_0 := Aside0.mk hc0_0
 clear hr0_0 hc0_0
 have HR0_1 := Aside0.mk hr0_1
 have HC0_1 := Aside0.mk hc0_1
 clear hr0_1 hc0_1
 have HB := Aside0.mk (Below.refl w.heap.size w)
 have H : ((spec_GoodBag.f k l0_0 l0_1).bind fun t499 => (if t499 = true then ((some (([] : List (S48)) : List (S48))).bind fun y500 => (if y500.length + l0_1.length < 4398046511104 then (spec_RemoveFrom.l0 k a1 l0_0 (l0_0.length : Int) 0 ([] : List (S48)) (y500 ++ l0_1)) else (none))) else (some (([] : List (S48)), ([] : List (S48)), false)))) = some (r1, r2, r3) := h
 clear h
 replace H := Option.bind_eq_some_iff.mp H
 obtain ⟨t499, A30, H⟩ := H
 replace H : (if t499 = true then ((some (([] : List (S48)) : List (S48))).bind fun y500 => (if y500.length + l0_1.length < 4398046511104 then (spec_RemoveFrom.l0 k a1 l0_0 (l0_0.length : Int) 0 ([] : List (S48)) (y500 ++ l0_1)) else (none))) else (some (([] : List (S48)), ([] : List (S48)), false))) = some (r1, r2, r3) := H
 have A3 := Aside0.mk A30
 clear A30
 by_cases c4 : t499 = true
 rotate_left
 ·replace c4 := Bool.eq_false_iff.mpr c4
  subst c4
  have H1 : (some (([] : List (S48)), ([] : List (S48)), false)) = some (r1, r2, r3) := by rw [if_neg (show ¬ (false = true) by decide)] at H; exact H
  clear H
  have H := H1
  clear H1
  simp only [Option.some.injEq, Prod.mk.injEq] at H
  obtain ⟨rfl, rfl, rfl⟩ := H
  go_enter Try.func13, Try.ntmps13
  go_wp2_with (first | ((with_reducible refine gate_dst (N := 2) rfl ?_); refine box_event rfl (N := 2) rfl (cs := #[.slice A0_0 l0_0.length c0_0, .slice A0_1 l0_1.length c0_1]) (t := 29) gs_ ?_; intro gb497 hg w69 hbox hb; have BK497 := Aside0.mk (hbox); have GW497 := Aside0.mk ((by rw [hg]; exact bz_ : w.heap.size ≤ gb497)); have GE497 := GW497; replace HB := Aside0.mk (below_step bl_ hb); clear hb hbox hg) | ((with_reducible refine gate_dst (N := 4) rfl ?_); refine box_event rfl (N := 4) rfl (cs := #[.slice none 0 0, .slice none 0 0]) (t := 29) gs_ ?_; intro gb498 hg w70 hbox hb; have BK498 := Aside0.mk (hbox); have GW498 := Aside0.mk ((by rw [hg]; exact bz_ : w.heap.size ≤ gb498)); have GE498 := GW498; replace HB := Aside0.mk (below_step bl_ hb); have NB497_498 := nl_ hg BK497; have NB498_497 := nm_ hg BK497; replace BK497 := bb_ BK497 hb; clear hb hbox hg; have hnb71 := NB497_498.out; have hnc71 := NB498_497.out; have hcz72_0 : w70.cell? ⟨gb497, 0, none⟩ = some (.slice A0_0 l0_0.length c0_0) := bc_ BK497.out 0; have hcz72_1 : w70.cell? ⟨gb497, 1, none⟩ = some (.slice A0_1 l0_1.length c0_1) := bc_ BK497.out 1; have hfz72_0 := blk_frozen BK497.out 0; have hfz72_1 := blk_frozen BK497.out 1) | ((with_reducible refine gate_callee (f := 9) rfl ?_); refine goesL_ (some 10) rfl rfl Try.func9 (by kernel_rfl) rfl #[.agg #[.slice A0_0 l0_0.length c0_0, .slice A0_1 l0_1.length c0_1]] rfl nc_ ?_; (with_reducible refine (spec_GoodBag.calls k _ _ l0_0 _ _ l0_1 false _ ?side1 ?side2 ?side3 ?side4 A3.out).mono ?_); (case side1 => exact kc_ (Kd.C_below HR0_0.out HB.out)); (case side2 => exact HC0_0.out); (case side3 => exact kc_ (Kd.C_below HR0_1.out HB.out)); (case side4 => exact HC0_1.out); rintro e w73 ⟨rfl, hb⟩; refine ⟨_, rfl, ?_⟩; replace BK497 := bb_ BK497 hb; replace BK498 := bb_ BK498 hb; replace HB := Aside0.mk (below_step bl_ hb); clear hb; have hcz74_0 : w73.cell? ⟨gb498, 0, none⟩ = some (.slice none 0 0) := bc_ BK498.out 0; have hcz74_1 : w73.cell? ⟨gb498, 1, none⟩ = some (.slice none 0 0) := bc_ BK498.out 1; have hfz74_0 := blk_frozen BK498.out 0; have hfz74_1 := blk_frozen BK498.out 1))
  refine bodyPost_ret (results_ct rfl _ _ gb498 29 #[.slice none 0 0, .slice none 0 0] (0, 0) _ rfl (by (with_reducible repeat (first | refine blk_drewN ?_ _ | refine blk_drew ?_ | refine blk_alloc ?_ _)); refine blk_put (cs := #[.slice none 0 0, .slice none 0 0]) ?_ 1 _ rfl; (with_reducible repeat (first | refine blk_drewN ?_ _ | refine blk_drew ?_ | refine blk_alloc ?_ _)); refine blk_put (cs := #[.slice none 0 0, .slice none 0 0]) ?_ 0 _ rfl; exact kb_ BK498.out) Try.underlying29 rfl (by kernel_rfl)) rfl ?_
  exact ⟨_, _, ng_, by first | exact Kd.R_nil _ _ _ _ _ | exact Kd.N_nil _ _ _ _ _ | exact Kd.V_nil _ _ _ _ _ | exact Kd.Q_nil _ _ _ _ _ | exact Kd.S_nil _ _ _ _ _, by first | exact Kd.R_nil _ _ _ _ _ | exact Kd.N_nil _ _ _ _ _ | exact Kd.V_nil _ _ _ _ _ | exact Kd.Q_nil _ _ _ _ _ | exact Kd.S_nil _ _ _ _ _, bl_⟩
 subst c4
 have H1 : ((some (([] : List (S48)) : List (S48))).bind fun y500 => (if y500.length + l0_1.length < 4398046511104 then (spec_RemoveFrom.l0 k a1 l0_0 (l0_0.length : Int) 0 ([] : List (S48)) (y500 ++ l0_1)) else (none))) = some (r1, r2, r3) := by rw [if_pos rfl] at H; exact H
 clear H
 have H := H1
 clear H1
 obtain ⟨y500, hy500⟩ : ∃ y_ : List (S48), y_ = (([] : List (S48))) := ⟨_, rfl⟩
 replace H : (if y500.length + l0_1.length < 4398046511104 then (spec_RemoveFrom.l0 k a1 l0_0 (l0_0.length : Int) 0 ([] : List (S48)) (y500 ++ l0_1)) else (none)) = some (r1, r2, r3) := by first | (rw [hy500]; with_reducible exact H) | (have H2_ := (Option.bind_some _ _).symm.trans H; rw [hy500]; with_reducible exact H2_) | (have H2_ := (Option.bind_some _ _).symm.trans H; with_reducible exact H2_) | with_reducible exact H | (rw [hy500]; exact H) | exact H
 have Ny500 := Aside0.mk hy500
 clear hy500
 by_cases c5 : y500.length + l0_1.length < 4398046511104
 rotate_left
 ·rw [if_neg c5] at H
  exact absurd H (by simp)
 rw [if_pos c5] at H
 have LMc5 := Aside0.mk c5
 clear c5
 obtain ⟨y503, hy503⟩ : ∃ y_ : List (S48), y_ = (y500 ++ l0_1) := ⟨_, rfl⟩
 replace H : (spec_RemoveFrom.l0 k a1 l0_0 (l0_0.length : Int) 0 ([] : List (S48)) y503) = some (r1, r2, r3) := by first | (rw [hy503]; with_reducible exact H) | (have H2_ := (Option.bind_some _ _).symm.trans H; rw [hy503]; with_reducible exact H2_) | (have H2_ := (Option.bind_some _ _).symm.trans H; with_reducible exact H2_) | with_reducible exact H | (rw [hy503]; exact H) | exact H
 have Ny503 := Aside0.mk hy503
 clear hy503
 have H' := Aside0.mk H
 clear H
 go_enter Try.func13, Try.ntmps13
 go_wp2_with (first | ((with_reducible refine gate_dst (N := 2) rfl ?_); refine box_event rfl (N := 2) rfl (cs := #[.slice A0_0 l0_0.length c0_0, .slice A0_1 l0_1.length c0_1]) (t := 29) gs_ ?_; intro gb497 hg w6 hbox hb; have BK497 := Aside0.mk (hbox); have GW497 := Aside0.mk ((by rw [hg]; exact bz_ : w.heap.size ≤ gb497)); have GE497 := GW497; replace HB := Aside0.mk (below_step bl_ hb); clear hb hbox hg) | ((with_reducible refine gate_dst (N := 4) rfl ?_); refine box_event rfl (N := 4) rfl (cs := #[.slice none 0 0, .slice none 0 0]) (t := 29) gs_ ?_; intro gb498 hg w7 hbox hb; have BK498 := Aside0.mk (hbox); have GW498 := Aside0.mk ((by rw [hg]; exact bz_ : w.heap.size ≤ gb498)); have GE498 := GW498; replace HB := Aside0.mk (below_step bl_ hb); have NB497_498 := nl_ hg BK497; have NB498_497 := nm_ hg BK497; replace BK497 := bb_ BK497 hb; clear hb hbox hg; have hnb8 := NB497_498.out; have hnc8 := NB498_497.out; have hcz9_0 : w7.cell? ⟨gb497, 0, none⟩ = some (.slice A0_0 l0_0.length c0_0) := bc_ BK497.out 0; have hcz9_1 : w7.cell? ⟨gb497, 1, none⟩ = some (.slice A0_1 l0_1.length c0_1) := bc_ BK497.out 1; have hfz9_0 := blk_frozen BK497.out 0; have hfz9_1 := blk_frozen BK497.out 1) | ((with_reducible refine gate_callee (f := 9) rfl ?_); refine goesL_ (some 10) rfl rfl Try.func9 (by kernel_rfl) rfl #[.agg #[.slice A0_0 l0_0.length c0_0, .slice A0_1 l0_1.length c0_1]] rfl nc_ ?_; (with_reducible refine (spec_GoodBag.calls k _ _ l0_0 _ _ l0_1 true _ ?side1 ?side2 ?side3 ?side4 A3.out).mono ?_); (case side1 => exact kc_ (Kd.C_below HR0_0.out HB.out)); (case side2 => exact HC0_0.out); (case side3 => exact kc_ (Kd.C_below HR0_1.out HB.out)); (case side4 => exact HC0_1.out); rintro e w10 ⟨rfl, hb⟩; refine ⟨_, rfl, ?_⟩; replace BK497 := bb_ BK497 hb; replace BK498 := bb_ BK498 hb; replace HB := Aside0.mk (below_step bl_ hb); clear hb) | ((with_reducible refine gate_dst (N := 13) rfl ?_); refine Kd.R_lit k48 _ 48 rfl (N := 13) rfl (xs := ([] : List (S48))) (inner := []) (ok := fun _ => True) (okp := fun _ => True) gs_ ?hp (fun _ hk => hk) trivial (Below.refl _ _) (Nat.le_refl _) (by simp) ?_; (case hp => exact (Reps.none _ _)); intro v501 w11 ho12 hb hg_ hnew_; clear hg_ hnew_; (first | rw [← Ny500.out] at ho12 | (simp only [Int.reduceToNat] at ho12; rw [← Ny500.out] at ho12)); have HO502 := Aside0.mk (Kd.R_lower ho12 bz_); replace BK497 := bb_ BK497 hb; replace BK498 := bb_ BK498 hb; replace HB := Aside0.mk (below_step bl_ hb); clear hb ho12; have hcz13_0 : w11.cell? ⟨gb497, 0, none⟩ = some (.slice A0_0 l0_0.length c0_0) := bc_ BK497.out 0; have hcz13_1 : w11.cell? ⟨gb497, 1, none⟩ = some (.slice A0_1 l0_1.length c0_1) := bc_ BK497.out 1; have hfz13_0 := blk_frozen BK497.out 0; have hfz13_1 := blk_frozen BK497.out 1) | ((with_reducible refine gate_builtin (b := .append) (xs := #[.tmp 13, .tmp 15]) rfl ?_); at_builtin; refine Kd.R_append_rows k48 (w0 := w) w.heap.size rfl (.tmp 13) (.tmp 15) 27 48 (.agg #[(.string ⟨#[]⟩), (.int .i64 0), (.int .i64 0)]) 32 rfl Try.underlying27 info48 rfl (by decide) (by omega) v501 y500 l0_1 _ _ _ (fun _ => True) (fun _ => False) rfl rfl ?aO ?aR (fun _ _ h => h) (fun _ h => h.elim) ?aF ?aB ?aS ?aL ?_; (case aR => exact kc_ (Kd.C_below HR0_1.out HB.out)); (case aB => exact bl_); (case aF => exact (fun _ _ => trivial)); (case aO => exact (kr_ HO502.out)); (case aS => exact bz_); (case aL => have := LMc5.out; omega); intro v504 w14 ho hb hg hat; rw [← Ny503.out] at ho; replace BK497 := bgr_ BK497 hg HO502 BK497; replace BK498 := bgr_ BK498 hg HO502 BK498; replace HB := Aside0.mk (hb); have HO505 := Aside0.mk (ho); clear HO502 ho hb hg hat; obtain ⟨Ao15, co15, eo15⟩ := Kd.R_slice HO505.out; subst eo15) | ((with_reducible refine gate_dst (N := 6) rfl ?_); refine box_event rfl (N := 6) rfl (cs := #[.slice none 0 0, .slice none 0 0]) (t := 29) gs_ ?_; intro gb506 hg w16 hbox hb; replace HO505 := rb_ HO505 hb; have BK506 := Aside0.mk (hbox); have GW506 := Aside0.mk ((by rw [hg]; exact bz_ : w.heap.size ≤ gb506)); have GE506 := GW506; replace HB := Aside0.mk (below_step bl_ hb); have NB497_506 := nl_ hg BK497; have NB506_497 := nm_ hg BK497; replace BK497 := bb_ BK497 hb; have NB498_506 := nl_ hg BK498; have NB506_498 := nm_ hg BK498; replace BK498 := bb_ BK498 hb; clear hb hbox hg; have hnb17 := NB506_497.out; have hnc17 := NB497_506.out; have hnb18 := NB506_498.out; have hnc18 := NB498_506.out; have hcz19_0 : w16.cell? ⟨gb506, 0, none⟩ = some (.slice none 0 0) := bc_ BK506.out 0; have hcz19_1 : w16.cell? ⟨gb506, 1, none⟩ = some (.slice none 0 0) := bc_ BK506.out 1; have hfz19_0 := blk_frozen BK506.out 0; have hfz19_1 := blk_frozen BK506.out 1; have hcz20_0 : w16.cell? ⟨gb497, 0, none⟩ = some (.slice A0_0 l0_0.length c0_0) := bc_ BK497.out 0; have hcz20_1 : w16.cell? ⟨gb497, 1, none⟩ = some (.slice A0_1 l0_1.length c0_1) := bc_ BK497.out 1; have hfz20_0 := blk_frozen BK497.out 0; have hfz20_1 := blk_frozen BK497.out 1))
 go_loopg [21] k (fun kq v21 w' => ∃ (x21_1 : Int) (x507000_1 : List (S48)) (x507001_1 : List (S48)) (u507000 : Value) (u507001 : Value), v21 = .int .i64 x21_1 ∧ Aside0 (spec_RemoveFrom.l0 kq a1 l0_0 (l0_0.length : Int) x21_1 x507000_1 x507001_1 = some (r1, r2, r3)) ∧ Aside0 (kq ≤ k) ∧ Aside0 (Kd.R k48 48 w' w.heap.size (fun k_ => some k_ ≠ (u507001 : Value).ownBlock) u507000 x507000_1) ∧ Aside0 (Kd.R k48 48 w' w.heap.size (fun k_ => some k_ ≠ (u507000 : Value).ownBlock) u507001 x507001_1) ∧ Aside0 (w'.heap[gb497]? = some (.cells #[(.slice A0_0 l0_0.length c0_0), (.slice A0_1 l0_1.length c0_1)] 29 (0, 0))) ∧ Aside0 (w'.heap[gb498]? = some (.cells #[(.slice none 0 0), (.slice none 0 0)] 29 (0, 0))) ∧ Aside0 (w'.heap[gb506]? = some (.cells #[u507000, u507001] 29 (0, 0))) ∧ Aside0 (Below w.heap.size w w'))
 case atStart => exact ⟨(0), (([] : List (S48))), (y503), (.slice none 0 0), (.slice Ao15 y503.length co15), (by first | rfl | (simp; done) | (simp [*]; done)), H', ⟨Nat.le_refl _⟩, ⟨by first | exact Kd.R_nil _ _ _ _ _ | exact Kd.N_nil _ _ _ _ _ | exact Kd.V_nil _ _ _ _ _ | exact Kd.Q_nil _ _ _ _ _ | exact Kd.S_nil _ _ _ _ _⟩, ⟨by exact kr_ (Kd.R_mono (Kd.R_far (p := ⟨gb506, 1, none⟩) (Kd.R_far (p := ⟨gb506, 0, none⟩) (Kd.R_types HO505.out BK506.out (by decide)) (fun _ hk => hk.2) (.slice none 0 0)) (fun _ hk => hk.2) (.slice Ao15 y503.length co15)) (fun _ hk => (by simp [Value.ownBlock])))⟩, ⟨kz_⟩, ⟨kz_⟩, ⟨by (with_reducible repeat (first | refine blk_drewN ?_ _ | refine blk_drew ?_ | refine blk_alloc ?_ _)); refine blk_put (cs := #[.slice none 0 0, .slice none 0 0]) ?_ 1 _ rfl; (with_reducible repeat (first | refine blk_drewN ?_ _ | refine blk_drew ?_ | refine blk_alloc ?_ _)); refine blk_put (cs := #[.slice none 0 0, .slice none 0 0]) ?_ 0 _ rfl; exact kb_ BK506.out⟩, ⟨bl_⟩⟩
 clear H'
 try clear c1
 try clear p2
 try clear c4
 try clear c5
 try clear c8
 try clear c9
 try clear c13
 try clear c17
 try clear c18
 try clear hcz13_0
 try clear hcz13_1
 try clear hcz19_0
 try clear hcz19_1
 try clear hcz20_0
 try clear hcz20_1
 try clear hcz9_0
 try clear hcz9_1
 try clear hfz13_0
 try clear hfz13_1
 try clear hfz19_0
 try clear hfz19_1
 try clear hfz20_0
 try clear hfz20_1
 try clear hfz9_0
 try clear hfz9_1
 obtain ⟨x21_1, x507000_1, x507001_1, u507000, u507001, rfl, HA, HK1, HO_507000, HO_507001, BK497, BK498, BK506, HB⟩ := hrel
 cases gk with
 | zero => exact absurd HA.out (by simp [spec_RemoveFrom.l0])
 | succ k1 => ?_
 have H := HA.out
 clear HA
 simp only [spec_RemoveFrom.l0] at H
 by_cases c21 : x21_1 < (l0_0.length : Int)
 rotate_left
 ·rw [if_neg c21] at H
  have c21b0 : decide (x21_1 < (l0_0.length : Int)) = false := decide_eq_false c21
  clear c21
  replace H := Option.bind_eq_some_iff.mp H
  obtain ⟨t515, A500, H⟩ := H
  replace H : (if t515 = true then (some (x507000_1, x507001_1, true)) else (some (([] : List (S48)), ([] : List (S48)), false))) = some (r1, r2, r3) := H
  have A50 := Aside0.mk A500
  clear A500
  by_cases c51 : t515 = true
  rotate_left
  ·replace c51 := Bool.eq_false_iff.mpr c51
   subst c51
   have H1 : (some (([] : List (S48)), ([] : List (S48)), false)) = some (r1, r2, r3) := by rw [if_neg (show ¬ (false = true) by decide)] at H; exact H
   clear H
   have H := H1
   clear H1
   simp only [Option.some.injEq, Prod.mk.injEq] at H
   obtain ⟨rfl, rfl, rfl⟩ := H
   have hnb61 := NB506_497.out
   have hnc61 := NB497_506.out
   have hnb62 := NB506_498.out
   have hnc62 := NB498_506.out
   have hcz63_0 : wr.cell? ⟨gb506, 0, none⟩ = some (u507000) := bc_ BK506.out 0
   have hcz63_1 : wr.cell? ⟨gb506, 1, none⟩ = some (u507001) := bc_ BK506.out 1
   have hfz63_0 := blk_frozen BK506.out 0
   have hfz63_1 := blk_frozen BK506.out 1
   obtain ⟨Ao64, co64, eo64⟩ := Kd.R_slice HO_507000.out
   subst eo64
   obtain ⟨Ao65, co65, eo65⟩ := Kd.R_slice HO_507001.out
   subst eo65
   go_wp2_with (first | ((with_reducible refine gate_callee (f := 9) rfl ?_); refine goesL_ (some 42) rfl rfl Try.func9 (by kernel_rfl) rfl #[.agg #[.slice Ao64 x507000_1.length co64, .slice Ao65 x507001_1.length co65]] rfl nc_ ?_; (with_reducible refine (spec_GoodBag.calls k1 _ _ x507000_1 _ _ x507001_1 false _ ?side1 ?side2 ?side3 ?side4 A50.out).mono ?_); (case side1 => exact kc_ (Kd.R_reads' HO_507000.out).2.2); (case side2 => exact (Kd.R_reads' HO_507000.out).2.1); (case side3 => exact kc_ (Kd.R_reads' HO_507001.out).2.2); (case side4 => exact (Kd.R_reads' HO_507001.out).2.1); rintro e w66 ⟨rfl, hb⟩; refine ⟨_, rfl, ?_⟩; replace HO_507000 := rb_ HO_507000 hb; replace HO_507001 := rb_ HO_507001 hb; replace BK497 := bb_ BK497 hb; replace BK498 := bb_ BK498 hb; replace BK506 := bb_ BK506 hb; replace HB := Aside0.mk (below_step bl_ hb); clear hb; have hnb67 := NB498_497.out; have hnc67 := NB497_498.out; have hcz68_0 : w66.cell? ⟨gb498, 0, none⟩ = some (.slice none 0 0) := bc_ BK498.out 0; have hcz68_1 : w66.cell? ⟨gb498, 1, none⟩ = some (.slice none 0 0) := bc_ BK498.out 1; have hfz68_0 := blk_frozen BK498.out 0; have hfz68_1 := blk_frozen BK498.out 1))
   refine bodyPost_ret (results_ct rfl _ _ gb498 29 #[.slice none 0 0, .slice none 0 0] (0, 0) _ rfl (by (with_reducible repeat (first | refine blk_drewN ?_ _ | refine blk_drew ?_ | refine blk_alloc ?_ _)); refine blk_put (cs := #[.slice none 0 0, .slice none 0 0]) ?_ 1 _ rfl; (with_reducible repeat (first | refine blk_drewN ?_ _ | refine blk_drew ?_ | refine blk_alloc ?_ _)); refine blk_put (cs := #[.slice none 0 0, .slice none 0 0]) ?_ 0 _ rfl; exact kb_ BK498.out) Try.underlying29 rfl (by kernel_rfl)) rfl ?_
   exact ⟨_, _, ng_, by first | exact Kd.R_nil _ _ _ _ _ | exact Kd.N_nil _ _ _ _ _ | exact Kd.V_nil _ _ _ _ _ | exact Kd.Q_nil _ _ _ _ _ | exact Kd.S_nil _ _ _ _ _, by first | exact Kd.R_nil _ _ _ _ _ | exact Kd.N_nil _ _ _ _ _ | exact Kd.V_nil _ _ _ _ _ | exact Kd.Q_nil _ _ _ _ _ | exact Kd.S_nil _ _ _ _ _, bl_⟩
  subst c51
  have H1 : (some (x507000_1, x507001_1, true)) = some (r1, r2, r3) := by rw [if_pos rfl] at H; exact H
  clear H
  have H := H1
  clear H1
  simp only [Option.some.injEq, Prod.mk.injEq] at H
  obtain ⟨rfl, rfl, rfl⟩ := H
  have hnb52 := NB506_497.out
  have hnc52 := NB497_506.out
  have hnb53 := NB506_498.out
  have hnc53 := NB498_506.out
  have hcz54_0 : wr.cell? ⟨gb506, 0, none⟩ = some (u507000) := bc_ BK506.out 0
  have hcz54_1 : wr.cell? ⟨gb506, 1, none⟩ = some (u507001) := bc_ BK506.out 1
  have hfz54_0 := blk_frozen BK506.out 0
  have hfz54_1 := blk_frozen BK506.out 1
  obtain ⟨Ao55, co55, eo55⟩ := Kd.R_slice HO_507000.out
  subst eo55
  obtain ⟨Ao56, co56, eo56⟩ := Kd.R_slice HO_507001.out
  subst eo56
  go_wp2_with (first | ((with_reducible refine gate_callee (f := 9) rfl ?_); refine goesL_ (some 42) rfl rfl Try.func9 (by kernel_rfl) rfl #[.agg #[.slice Ao55 x507000_1.length co55, .slice Ao56 x507001_1.length co56]] rfl nc_ ?_; (with_reducible refine (spec_GoodBag.calls k1 _ _ x507000_1 _ _ x507001_1 true _ ?side1 ?side2 ?side3 ?side4 A50.out).mono ?_); (case side1 => exact kc_ (Kd.R_reads' HO_507000.out).2.2); (case side2 => exact (Kd.R_reads' HO_507000.out).2.1); (case side3 => exact kc_ (Kd.R_reads' HO_507001.out).2.2); (case side4 => exact (Kd.R_reads' HO_507001.out).2.1); rintro e w57 ⟨rfl, hb⟩; refine ⟨_, rfl, ?_⟩; replace HO_507000 := rb_ HO_507000 hb; replace HO_507001 := rb_ HO_507001 hb; replace BK497 := bb_ BK497 hb; replace BK498 := bb_ BK498 hb; replace BK506 := bb_ BK506 hb; replace HB := Aside0.mk (below_step bl_ hb); clear hb; have hcz58_0 : w57.cell? ⟨gb506, 0, none⟩ = some (.slice Ao55 x507000_1.length co55) := bc_ BK506.out 0; have hcz58_1 : w57.cell? ⟨gb506, 1, none⟩ = some (.slice Ao56 x507001_1.length co56) := bc_ BK506.out 1; have hfz58_0 := blk_frozen BK506.out 0; have hfz58_1 := blk_frozen BK506.out 1; have hnb59 := NB498_497.out; have hnc59 := NB497_498.out; have hcz60_0 : w57.cell? ⟨gb498, 0, none⟩ = some (.slice none 0 0) := bc_ BK498.out 0; have hcz60_1 : w57.cell? ⟨gb498, 1, none⟩ = some (.slice none 0 0) := bc_ BK498.out 1; have hfz60_0 := blk_frozen BK498.out 0; have hfz60_1 := blk_frozen BK498.out 1))
  refine bodyPost_ret (results_ct rfl _ _ gb498 29 #[.slice Ao55 x507000_1.length co55, .slice Ao56 x507001_1.length co56] (0, 0) _ rfl (by (with_reducible repeat (first | refine blk_drewN ?_ _ | refine blk_drew ?_ | refine blk_alloc ?_ _)); refine blk_put (cs := #[.slice Ao55 x507000_1.length co55, .slice none 0 0]) ?_ 1 _ rfl; (with_reducible repeat (first | refine blk_drewN ?_ _ | refine blk_drew ?_ | refine blk_alloc ?_ _)); refine blk_put (cs := #[.slice none 0 0, .slice none 0 0]) ?_ 0 _ rfl; exact kb_ BK498.out) Try.underlying29 rfl (by kernel_rfl)) rfl ?_
  exact ⟨_, _, ng_, by exact kr_ (Kd.R_mono (Kd.R_far (p := ⟨gb498, 1, none⟩) (Kd.R_far (p := ⟨gb498, 0, none⟩) (Kd.R_types HO_507000.out BK498.out (by decide)) (fun _ hk => hk.2) (.slice Ao55 x507000_1.length co55)) (fun _ hk => hk.2) (.slice Ao56 x507001_1.length co56)) (fun _ hk => hk.1)), by exact kr_ (Kd.R_mono (Kd.R_far (p := ⟨gb498, 1, none⟩) (Kd.R_far (p := ⟨gb498, 0, none⟩) (Kd.R_types HO_507001.out BK498.out (by decide)) (fun _ hk => hk.2) (.slice Ao55 x507000_1.length co55)) (fun _ hk => hk.2) (.slice Ao56 x507001_1.length co56)) (fun _ hk => hk.1)), bl_⟩
 rw [if_pos c21] at H
 have c21b0 : decide (x21_1 < (l0_0.length : Int)) = true := decide_eq_true c21
 clear c21
 by_cases c22 : 0 ≤ x21_1
 rotate_left
 ·rw [if_neg c22] at H
  exact absurd H (by simp)
 rw [if_pos c22] at H
 have c22b0 : decide (0 ≤ x21_1) = true := decide_eq_true c22
 clear c22
 by_cases c23 : x21_1 < (l0_0.length : Int)
 rotate_left
 ·rw [if_neg c23] at H
  exact absurd H (by simp)
 rw [if_pos c23] at H
 have c23b0 : decide (x21_1 < (l0_0.length : Int)) = true := decide_eq_true c23
 clear c23
 by_cases c24 : ((rd_T48 l0_0 x21_1).f0).toList = a1.toList
 rotate_left
 ·rw [if_neg c24] at H
  have c24b0 : (((rd_T48 l0_0 x21_1).f0).toList == a1.toList) = false := beq_eq_false_iff_ne.mpr c24
  have c24b1 : (((rd_T48 l0_0 x21_1).f0).toList != a1.toList) = true := bne_iff_ne.mpr c24
  by_cases c38 : x507000_1.length < 4398046511104
  rotate_left
  ·rw [if_neg c38] at H
   exact absurd H (by simp)
  rw [if_pos c38] at H
  have LMc38 := Aside0.mk c38
  clear c38
  obtain ⟨y512, hy512⟩ : ∃ y_ : List (S48), y_ = (x507000_1 ++ [(⟨(rd_T48 l0_0 x21_1).f0, (rd_T48 l0_0 x21_1).f1, (rd_T48 l0_0 x21_1).f2⟩ : S48)]) := ⟨_, rfl⟩
  replace H : (spec_RemoveFrom.l0 k1 a1 l0_0 (l0_0.length : Int) (wrap64 (x21_1 + 1)) y512 x507001_1) = some (r1, r2, r3) := by first | (rw [hy512]; with_reducible exact H) | (have H2_ := (Option.bind_some _ _).symm.trans H; rw [hy512]; with_reducible exact H2_) | (have H2_ := (Option.bind_some _ _).symm.trans H; with_reducible exact H2_) | with_reducible exact H | (rw [hy512]; exact H) | exact H
  have Ny512 := Aside0.mk hy512
  clear hy512
  have H' := Aside0.mk H
  clear H
  have p507 : 0 ≤ (x21_1 : Int) := of_decide_eq_true (by first | (with_reducible assumption) | assumption)
  have q507 : x21_1 < (l0_0.length : Int) := of_decide_eq_true (by first | (with_reducible assumption) | assumption)
  obtain ⟨ad507, e507, hx507_0, hx507_1, hx507_2⟩ := at_T48 HR0_0.out x21_1 p507 q507
  cases e507
  replace hx507_0 := (HB.out.cell (World.block_lt_of_cell? w _ hx507_0)).trans hx507_0
  replace hx507_1 := (HB.out.cell (World.block_lt_of_cell? w _ hx507_1)).trans hx507_1
  replace hx507_2 := (HB.out.cell (World.block_lt_of_cell? w _ hx507_2)).trans hx507_2
  replace p507 := eq_true p507
  replace q507 := eq_true q507
  go_wp2_with (first | ((with_reducible refine gate_dst (N := 8) rfl ?_); refine box_event rfl (N := 8) rfl (cs := #[.string (⟨#[]⟩ : ByteArray), .int .i64 0, .int .i64 0]) (t := 48) gs_ ?_; intro gb508 hg w39 hbox hb; replace HO_507000 := Aside0.mk (Kd.R_below (Kd.R_elderB (kr_ HO_507000.out) gb508 (Nat.le_of_eq hg.symm)) hb); replace HO_507001 := Aside0.mk (Kd.R_below (Kd.R_elderB (kr_ HO_507001.out) gb508 (Nat.le_of_eq hg.symm)) hb); have BK508 := Aside0.mk (hbox); have GW508 := Aside0.mk ((by rw [hg]; exact bz_ : w.heap.size ≤ gb508)); have GE508 := GW508; replace HB := Aside0.mk (below_step bl_ hb); have NB497_508 := nl_ hg BK497; have NB508_497 := nm_ hg BK497; replace BK497 := bb_ BK497 hb; have NB498_508 := nl_ hg BK498; have NB508_498 := nm_ hg BK498; replace BK498 := bb_ BK498 hb; have NB506_508 := nl_ hg BK506; have NB508_506 := nm_ hg BK506; replace BK506 := bb_ BK506 hb; clear hb hbox hg; have hnb40 := NB508_497.out; have hnc40 := NB497_508.out; have hnb41 := NB508_498.out; have hnc41 := NB498_508.out; have hnb42 := NB508_506.out; have hnc42 := NB506_508.out; have hcz43_0 : w39.cell? ⟨gb508, 0, none⟩ = some (.string (⟨#[]⟩ : ByteArray)) := bc_ BK508.out 0; have hcz43_1 : w39.cell? ⟨gb508, 1, none⟩ = some (.int .i64 0) := bc_ BK508.out 1; have hcz43_2 : w39.cell? ⟨gb508, 2, none⟩ = some (.int .i64 0) := bc_ BK508.out 2; have hfz43_0 := blk_frozen BK508.out 0; have hfz43_1 := blk_frozen BK508.out 1; have hfz43_2 := blk_frozen BK508.out 2; have hnb44 := NB506_497.out; have hnc44 := NB497_506.out; have hnb45 := NB506_498.out; have hnc45 := NB498_506.out; have hcz46_0 : w39.cell? ⟨gb506, 0, none⟩ = some (u507000) := bc_ BK506.out 0; have hcz46_1 : w39.cell? ⟨gb506, 1, none⟩ = some (u507001) := bc_ BK506.out 1; have hfz46_0 := blk_frozen BK506.out 0; have hfz46_1 := blk_frozen BK506.out 1) | ((with_reducible refine gate_builtin (b := .append) (xs := #[.tmp 35, .tmp 37]) rfl ?_); at_builtin; refine Kd.R_append k48 (w0 := w) w.heap.size rfl (.tmp 35) (.tmp 37) 27 48 (.agg #[(.string ⟨#[]⟩), (.int .i64 0), (.int .i64 0)]) 32 rfl Try.underlying27 info48 rfl (by decide) (by omega) u507000 x507000_1 (⟨(rd_T48 l0_0 x21_1).f0, (rd_T48 l0_0 x21_1).f1, (rd_T48 l0_0 x21_1).f2⟩ : S48) [.string ((rd_T48 l0_0 x21_1).f0), .int .i64 ((rd_T48 l0_0 x21_1).f1), .int .i64 ((rd_T48 l0_0 x21_1).f2)] (fun k_ => some k_ ≠ (u507001 : Value).ownBlock ∧ k_ ≠ gb508) (fun _ => False) rfl (by first | (go_simp; done) | (go_simp; rfl)) ?aP (fun _ hk => hk.elim) ?aF ?aO ?aB ?aS ?aL ?_; (case aP => exact k48_mkM _ _ _ (⟨(rd_T48 l0_0 x21_1).f0, (rd_T48 l0_0 x21_1).f1, (rd_T48 l0_0 x21_1).f2⟩ : S48)); (case aB => exact bl_); (case aF => exact (fun k_ hk => ⟨Kd.fresh' (Kd.R_lt (by exact kr_ ((Kd.R_mono (Kd.R_far (p := ⟨gb508, 2, none⟩) (Kd.R_far (p := ⟨gb508, 1, none⟩) (Kd.R_far (p := ⟨gb508, 0, none⟩) (Kd.R_mono HO_507001.out (fun k_ hk => (⟨hk, hk.2⟩ : _ ∧ k_ ≠ gb508))) (fun _ hk => hk.2) (.string ((rd_T48 l0_0 x21_1).f0))) (fun _ hk => hk.2) (.int .i64 ((rd_T48 l0_0 x21_1).f1))) (fun _ hk => hk.2) (.int .i64 ((rd_T48 l0_0 x21_1).f2))) (fun _ h_ => h_.1))))) k_ hk, Kd.freshB (g := gb508) (o := .cells #[.string ((rd_T48 l0_0 x21_1).f0), .int .i64 ((rd_T48 l0_0 x21_1).f1), .int .i64 ((rd_T48 l0_0 x21_1).f2)] 48 (0, 0)) (by (with_reducible repeat (first | refine blk_drewN ?_ _ | refine blk_drew ?_ | refine blk_alloc ?_ _)); refine blk_put (cs := #[.string ((rd_T48 l0_0 x21_1).f0), .int .i64 ((rd_T48 l0_0 x21_1).f1), .int .i64 0]) ?_ 2 _ rfl; (with_reducible repeat (first | refine blk_drewN ?_ _ | refine blk_drew ?_ | refine blk_alloc ?_ _)); refine blk_put (cs := #[.string ((rd_T48 l0_0 x21_1).f0), .int .i64 0, .int .i64 0]) ?_ 1 _ rfl; (with_reducible repeat (first | refine blk_drewN ?_ _ | refine blk_drew ?_ | refine blk_alloc ?_ _)); refine blk_put (cs := #[.string (⟨#[]⟩ : ByteArray), .int .i64 0, .int .i64 0]) ?_ 0 _ rfl; exact kb_ BK508.out) k_ hk⟩)); (case aO => exact (by exact kr_ (Kd.R_mono (Kd.R_far (p := ⟨gb508, 2, none⟩) (Kd.R_far (p := ⟨gb508, 1, none⟩) (Kd.R_far (p := ⟨gb508, 0, none⟩) (Kd.R_mono HO_507000.out (fun k_ hk => (⟨hk, hk.2⟩ : _ ∧ k_ ≠ gb508))) (fun _ hk => hk.2) (.string ((rd_T48 l0_0 x21_1).f0))) (fun _ hk => hk.2) (.int .i64 ((rd_T48 l0_0 x21_1).f1))) (fun _ hk => hk.2) (.int .i64 ((rd_T48 l0_0 x21_1).f2))) (fun _ hk => ⟨hk.1.1, hk.1.2⟩)))); (case aS => exact bz_); (case aL => have := LMc38.out; omega); intro v513 w47 ho hb hg hat; rw [← Ny512.out] at ho; replace HO_507001 := Aside0.mk (Kd.R_after (ok := (fun k_ => k_ ≠ gb508)) (by exact kr_ (Kd.R_mono (Kd.R_far (p := ⟨gb508, 2, none⟩) (Kd.R_far (p := ⟨gb508, 1, none⟩) (Kd.R_far (p := ⟨gb508, 0, none⟩) (Kd.R_mono HO_507001.out (fun k_ hk => (⟨hk, hk.2⟩ : _ ∧ k_ ≠ gb508))) (fun _ hk => hk.2) (.string ((rd_T48 l0_0 x21_1).f0))) (fun _ hk => hk.2) (.int .i64 ((rd_T48 l0_0 x21_1).f1))) (fun _ hk => hk.2) (.int .i64 ((rd_T48 l0_0 x21_1).f2))) (fun _ hk => ⟨hk.1.2, hk.1.1⟩))) hg hat); replace BK497 := Aside0.mk (blk_grown (g := gb497) (o := .cells #[.slice (some ad507) l0_0.length c0_0, .slice A0_1 l0_1.length c0_1] 29 (0, 0)) kz_ hg (Kd.R_ne HO_507000.out BK497.out (by decide))); replace BK498 := Aside0.mk (blk_grown (g := gb498) (o := .cells #[.slice none 0 0, .slice none 0 0] 29 (0, 0)) kz_ hg (Kd.R_ne HO_507000.out BK498.out (by decide))); replace BK506 := Aside0.mk (blk_grown (g := gb506) (o := .cells #[u507000, u507001] 29 (0, 0)) kz_ hg (Kd.R_ne HO_507000.out BK506.out (by decide))); replace BK508 := Aside0.mk (blk_grown (g := gb508) (o := .cells #[.string ((rd_T48 l0_0 x21_1).f0), .int .i64 ((rd_T48 l0_0 x21_1).f1), .int .i64 ((rd_T48 l0_0 x21_1).f2)] 48 (0, 0)) (by (with_reducible repeat (first | refine blk_drewN ?_ _ | refine blk_drew ?_ | refine blk_alloc ?_ _)); refine blk_put (cs := #[.string ((rd_T48 l0_0 x21_1).f0), .int .i64 ((rd_T48 l0_0 x21_1).f1), .int .i64 0]) ?_ 2 _ rfl; (with_reducible repeat (first | refine blk_drewN ?_ _ | refine blk_drew ?_ | refine blk_alloc ?_ _)); refine blk_put (cs := #[.string ((rd_T48 l0_0 x21_1).f0), .int .i64 0, .int .i64 0]) ?_ 1 _ rfl; (with_reducible repeat (first | refine blk_drewN ?_ _ | refine blk_drew ?_ | refine blk_alloc ?_ _)); refine blk_put (cs := #[.string (⟨#[]⟩ : ByteArray), .int .i64 0, .int .i64 0]) ?_ 0 _ rfl; exact kb_ BK508.out) hg (Kd.R_away HO_507000.out (fun _ hk => hk.2))); replace HB := Aside0.mk (hb); have HO514 := Aside0.mk (ho); clear HO_507000 ho hb hg hat; obtain ⟨Ao48, co48, eo48⟩ := Kd.R_slice HO514.out; subst eo48; have hcz49_0 : w47.cell? ⟨gb506, 0, none⟩ = some (u507000) := bc_ BK506.out 0; have hcz49_1 : w47.cell? ⟨gb506, 1, none⟩ = some (u507001) := bc_ BK506.out 1; have hfz49_0 := blk_frozen BK506.out 0; have hfz49_1 := blk_frozen BK506.out 1))
  go_roundg k1
  case measure => have := HK1.out; omega
  case rel => exact ⟨(wrap64 (x21_1 + 1)), (y512), (x507001_1), (.slice Ao48 y512.length co48), (u507001), (by first | rfl | (simp; done) | (simp [*]; done)), H', ⟨by have := HK1.out; omega⟩, ⟨by exact kr_ (Kd.R_mono (Kd.R_far (p := ⟨gb506, 0, none⟩) (Kd.R_types HO514.out BK506.out (by decide)) (fun _ hk => hk.2) (.slice Ao48 y512.length co48)) (fun _ hk => hk.1.1))⟩, ⟨by exact kr_ (Kd.R_mono (Kd.R_far (p := ⟨gb506, 0, none⟩) (Kd.R_types HO_507001.out BK506.out (by decide)) (fun _ hk => hk.2) (.slice Ao48 y512.length co48)) (fun _ hk => hk.1.2))⟩, ⟨kz_⟩, ⟨kz_⟩, ⟨by (with_reducible repeat (first | refine blk_drewN ?_ _ | refine blk_drew ?_ | refine blk_alloc ?_ _)); refine blk_put (cs := #[u507000, u507001]) ?_ 0 _ rfl; exact kb_ BK506.out⟩, ⟨bl_⟩⟩
 rw [if_pos c24] at H
 have c24b0 : (((rd_T48 l0_0 x21_1).f0).toList == a1.toList) = true := beq_iff_eq.mpr c24
 have c24b1 : (((rd_T48 l0_0 x21_1).f0).toList != a1.toList) = false := bne_eq_false_iff_eq.mpr c24
 clear c24
 replace H := Option.bind_eq_some_iff.mp H
 obtain ⟨t509, A250, H⟩ := H
 replace H : (spec_RemoveFrom.l0 k1 a1 l0_0 (l0_0.length : Int) (wrap64 (x21_1 + 1)) x507000_1 t509) = some (r1, r2, r3) := H
 have A25 := Aside0.mk A250
 clear A250
 have H' := Aside0.mk H
 clear H
 have p507 : 0 ≤ (x21_1 : Int) := of_decide_eq_true (by first | (with_reducible assumption) | assumption)
 have q507 : x21_1 < (l0_0.length : Int) := of_decide_eq_true (by first | (with_reducible assumption) | assumption)
 obtain ⟨ad507, e507, hx507_0, hx507_1, hx507_2⟩ := at_T48 HR0_0.out x21_1 p507 q507
 cases e507
 replace hx507_0 := (HB.out.cell (World.block_lt_of_cell? w _ hx507_0)).trans hx507_0
 replace hx507_1 := (HB.out.cell (World.block_lt_of_cell? w _ hx507_1)).trans hx507_1
 replace hx507_2 := (HB.out.cell (World.block_lt_of_cell? w _ hx507_2)).trans hx507_2
 replace p507 := eq_true p507
 replace q507 := eq_true q507
 go_wp2_with (first | ((with_reducible refine gate_dst (N := 8) rfl ?_); refine box_event rfl (N := 8) rfl (cs := #[.string (⟨#[]⟩ : ByteArray), .int .i64 0, .int .i64 0]) (t := 48) gs_ ?_; intro gb508 hg w26 hbox hb; replace HO_507000 := Aside0.mk (Kd.R_below (Kd.R_elderB (kr_ HO_507000.out) gb508 (Nat.le_of_eq hg.symm)) hb); replace HO_507001 := Aside0.mk (Kd.R_below (Kd.R_elderB (kr_ HO_507001.out) gb508 (Nat.le_of_eq hg.symm)) hb); have BK508 := Aside0.mk (hbox); have GW508 := Aside0.mk ((by rw [hg]; exact bz_ : w.heap.size ≤ gb508)); have GE508 := GW508; replace HB := Aside0.mk (below_step bl_ hb); have NB497_508 := nl_ hg BK497; have NB508_497 := nm_ hg BK497; replace BK497 := bb_ BK497 hb; have NB498_508 := nl_ hg BK498; have NB508_498 := nm_ hg BK498; replace BK498 := bb_ BK498 hb; have NB506_508 := nl_ hg BK506; have NB508_506 := nm_ hg BK506; replace BK506 := bb_ BK506 hb; clear hb hbox hg; have hnb27 := NB508_497.out; have hnc27 := NB497_508.out; have hnb28 := NB508_498.out; have hnc28 := NB498_508.out; have hnb29 := NB508_506.out; have hnc29 := NB506_508.out; have hcz30_0 : w26.cell? ⟨gb508, 0, none⟩ = some (.string (⟨#[]⟩ : ByteArray)) := bc_ BK508.out 0; have hcz30_1 : w26.cell? ⟨gb508, 1, none⟩ = some (.int .i64 0) := bc_ BK508.out 1; have hcz30_2 : w26.cell? ⟨gb508, 2, none⟩ = some (.int .i64 0) := bc_ BK508.out 2; have hfz30_0 := blk_frozen BK508.out 0; have hfz30_1 := blk_frozen BK508.out 1; have hfz30_2 := blk_frozen BK508.out 2; have hnb31 := NB506_497.out; have hnc31 := NB497_506.out; have hnb32 := NB506_498.out; have hnc32 := NB498_506.out; have hcz33_0 : w26.cell? ⟨gb506, 0, none⟩ = some (u507000) := bc_ BK506.out 0; have hcz33_1 : w26.cell? ⟨gb506, 1, none⟩ = some (u507001) := bc_ BK506.out 1; have hfz33_0 := blk_frozen BK506.out 0; have hfz33_1 := blk_frozen BK506.out 1; obtain ⟨Ao34, co34, eo34⟩ := Kd.R_slice HO_507001.out; subst eo34) | ((with_reducible refine gate_callee (f := 32) rfl ?_); refine goesL_ (some 32) rfl rfl Try.func32 (by kernel_rfl) rfl #[.slice Ao34 x507001_1.length co34, .agg #[.string ((rd_T48 l0_0 x21_1).f0), .int .i64 ((rd_T48 l0_0 x21_1).f1), .int .i64 ((rd_T48 l0_0 x21_1).f2)]] rfl nc_ ?_; (with_reducible refine (spec_l14Put.calls k1 _ _ x507001_1 ((rd_T48 l0_0 x21_1).f0) ((rd_T48 l0_0 x21_1).f1) ((rd_T48 l0_0 x21_1).f2) t509 _ ?side1 ?side2 A25.out).mono ?_); (case side1 => refine (Kd.R_reads' (e := 48) (base := w.heap.size) (ok := fun k_ => (some k_ ≠ (u507000 : Value).ownBlock ∧ k_ ≠ gb508)) (n := x507001_1.length) (c := co34) ?_).2.2; exact (by exact kr_ ((Kd.R_mono (Kd.R_far (p := ⟨gb508, 2, none⟩) (Kd.R_far (p := ⟨gb508, 1, none⟩) (Kd.R_far (p := ⟨gb508, 0, none⟩) (Kd.R_mono HO_507001.out (fun k_ hk => (⟨hk, hk.2⟩ : _ ∧ k_ ≠ gb508))) (fun _ hk => hk.2) (.string ((rd_T48 l0_0 x21_1).f0))) (fun _ hk => hk.2) (.int .i64 ((rd_T48 l0_0 x21_1).f1))) (fun _ hk => hk.2) (.int .i64 ((rd_T48 l0_0 x21_1).f2))) (fun _ h_ => h_.1))))); (case side2 => exact (Kd.R_reads' HO_507001.out).2.1); rintro e w35 ⟨v510, rfl, ho0, hb⟩; refine ⟨_, rfl, ?_⟩; have HO511 := Aside0.mk (Kd.R_lower (Kd.R_newB (Kd.R_new' (Kd.R_new' ho0 (Kd.R_lt (by exact kr_ ((Kd.R_mono (Kd.R_far (p := ⟨gb508, 2, none⟩) (Kd.R_far (p := ⟨gb508, 1, none⟩) (Kd.R_far (p := ⟨gb508, 0, none⟩) (Kd.R_mono HO_507000.out (fun k_ hk => (⟨hk, hk.2⟩ : _ ∧ k_ ≠ gb508))) (fun _ hk => hk.2) (.string ((rd_T48 l0_0 x21_1).f0))) (fun _ hk => hk.2) (.int .i64 ((rd_T48 l0_0 x21_1).f1))) (fun _ hk => hk.2) (.int .i64 ((rd_T48 l0_0 x21_1).f2))) (fun _ h_ => h_.1)))))) (Kd.R_lt (by exact kr_ ((Kd.R_mono (Kd.R_far (p := ⟨gb508, 2, none⟩) (Kd.R_far (p := ⟨gb508, 1, none⟩) (Kd.R_far (p := ⟨gb508, 0, none⟩) (Kd.R_mono HO_507001.out (fun k_ hk => (⟨hk, hk.2⟩ : _ ∧ k_ ≠ gb508))) (fun _ hk => hk.2) (.string ((rd_T48 l0_0 x21_1).f0))) (fun _ hk => hk.2) (.int .i64 ((rd_T48 l0_0 x21_1).f1))) (fun _ hk => hk.2) (.int .i64 ((rd_T48 l0_0 x21_1).f2))) (fun _ h_ => h_.1)))))) (g := gb508) (o := .cells #[.string ((rd_T48 l0_0 x21_1).f0), .int .i64 ((rd_T48 l0_0 x21_1).f1), .int .i64 ((rd_T48 l0_0 x21_1).f2)] 48 (0, 0)) (by (with_reducible repeat (first | refine blk_drewN ?_ _ | refine blk_drew ?_ | refine blk_alloc ?_ _)); refine blk_put (cs := #[.string ((rd_T48 l0_0 x21_1).f0), .int .i64 ((rd_T48 l0_0 x21_1).f1), .int .i64 0]) ?_ 2 _ rfl; (with_reducible repeat (first | refine blk_drewN ?_ _ | refine blk_drew ?_ | refine blk_alloc ?_ _)); refine blk_put (cs := #[.string ((rd_T48 l0_0 x21_1).f0), .int .i64 0, .int .i64 0]) ?_ 1 _ rfl; (with_reducible repeat (first | refine blk_drewN ?_ _ | refine blk_drew ?_ | refine blk_alloc ?_ _)); refine blk_put (cs := #[.string (⟨#[]⟩ : ByteArray), .int .i64 0, .int .i64 0]) ?_ 0 _ rfl; exact kb_ BK508.out)) bz_); replace HO_507000 := Aside0.mk (Kd.R_elder' (by exact kr_ ((Kd.R_mono (Kd.R_far (p := ⟨gb508, 2, none⟩) (Kd.R_far (p := ⟨gb508, 1, none⟩) (Kd.R_far (p := ⟨gb508, 0, none⟩) (Kd.R_mono HO_507000.out (fun k_ hk => (⟨hk, hk.2⟩ : _ ∧ k_ ≠ gb508))) (fun _ hk => hk.2) (.string ((rd_T48 l0_0 x21_1).f0))) (fun _ hk => hk.2) (.int .i64 ((rd_T48 l0_0 x21_1).f1))) (fun _ hk => hk.2) (.int .i64 ((rd_T48 l0_0 x21_1).f2))) (fun _ h_ => h_.1)))) (Kd.R_base ho0) hb); replace HO_507001 := Aside0.mk (Kd.R_elder' (by exact kr_ ((Kd.R_mono (Kd.R_far (p := ⟨gb508, 2, none⟩) (Kd.R_far (p := ⟨gb508, 1, none⟩) (Kd.R_far (p := ⟨gb508, 0, none⟩) (Kd.R_mono HO_507001.out (fun k_ hk => (⟨hk, hk.2⟩ : _ ∧ k_ ≠ gb508))) (fun _ hk => hk.2) (.string ((rd_T48 l0_0 x21_1).f0))) (fun _ hk => hk.2) (.int .i64 ((rd_T48 l0_0 x21_1).f1))) (fun _ hk => hk.2) (.int .i64 ((rd_T48 l0_0 x21_1).f2))) (fun _ h_ => h_.1)))) (Kd.R_base ho0) hb); replace BK497 := Aside0.mk (blk_below (g := gb497) (o := .cells #[.slice (some ad507) l0_0.length c0_0, .slice A0_1 l0_1.length c0_1] 29 (0, 0)) kz_ hb); replace BK498 := Aside0.mk (blk_below (g := gb498) (o := .cells #[.slice none 0 0, .slice none 0 0] 29 (0, 0)) kz_ hb); replace BK506 := Aside0.mk (blk_below (g := gb506) (o := .cells #[u507000, .slice Ao34 x507001_1.length co34] 29 (0, 0)) kz_ hb); replace BK508 := Aside0.mk (blk_below (g := gb508) (o := .cells #[.string ((rd_T48 l0_0 x21_1).f0), .int .i64 ((rd_T48 l0_0 x21_1).f1), .int .i64 ((rd_T48 l0_0 x21_1).f2)] 48 (0, 0)) (by (with_reducible repeat (first | refine blk_drewN ?_ _ | refine blk_drew ?_ | refine blk_alloc ?_ _)); refine blk_put (cs := #[.string ((rd_T48 l0_0 x21_1).f0), .int .i64 ((rd_T48 l0_0 x21_1).f1), .int .i64 0]) ?_ 2 _ rfl; (with_reducible repeat (first | refine blk_drewN ?_ _ | refine blk_drew ?_ | refine blk_alloc ?_ _)); refine blk_put (cs := #[.string ((rd_T48 l0_0 x21_1).f0), .int .i64 0, .int .i64 0]) ?_ 1 _ rfl; (with_reducible repeat (first | refine blk_drewN ?_ _ | refine blk_drew ?_ | refine blk_alloc ?_ _)); refine blk_put (cs := #[.string (⟨#[]⟩ : ByteArray), .int .i64 0, .int .i64 0]) ?_ 0 _ rfl; exact kb_ BK508.out) hb); replace HB := Aside0.mk (below_step bl_ hb); clear hb ho0; obtain ⟨Ao36, co36, eo36⟩ := Kd.R_slice HO511.out; subst eo36; have hcz37_0 : w35.cell? ⟨gb506, 0, none⟩ = some (u507000) := bc_ BK506.out 0; have hcz37_1 : w35.cell? ⟨gb506, 1, none⟩ = some (.slice Ao34 x507001_1.length co34) := bc_ BK506.out 1; have hfz37_0 := blk_frozen BK506.out 0; have hfz37_1 := blk_frozen BK506.out 1))
 go_roundg k1
 case measure => have := HK1.out; omega
 case rel => exact ⟨(wrap64 (x21_1 + 1)), (x507000_1), (t509), (u507000), (.slice Ao36 t509.length co36), (by first | rfl | (simp; done) | (simp [*]; done)), H', ⟨by have := HK1.out; omega⟩, ⟨by exact kr_ (Kd.R_mono (Kd.R_far (p := ⟨gb506, 1, none⟩) (Kd.R_types HO_507000.out BK506.out (by decide)) (fun _ hk => hk.2) (.slice Ao36 t509.length co36)) (fun _ hk => hk.1.2))⟩, ⟨by exact kr_ (Kd.R_mono (Kd.R_far (p := ⟨gb506, 1, none⟩) (Kd.R_types HO511.out BK506.out (by decide)) (fun _ hk => hk.2) (.slice Ao36 t509.length co36)) (fun _ hk => hk.1.1.1.2))⟩, ⟨kz_⟩, ⟨kz_⟩, ⟨by (with_reducible repeat (first | refine blk_drewN ?_ _ | refine blk_drew ?_ | refine blk_alloc ?_ _)); refine blk_put (cs := #[u507000, .slice Ao34 x507001_1.length co34]) ?_ 1 _ rfl; exact kb_ BK506.out⟩, ⟨bl_⟩⟩

-- NOT PRINTED: function 80 (impl_Add_80)

-- NOT PRINTED: function 94 (impl_Add_94)

-- NOT PRINTED: function 81 (impl_Add_81)

-- NOT PRINTED: function 82 (impl_Add_82)

-- NOT PRINTED: function 98 (impl_Add_98)

-- NOT PRINTED: function 96 (impl_Add_96)

-- NOT PRINTED: function 95 (impl_Add_95)

-- NOT PRINTED: function 83 (impl_Add_83)

-- NOT PRINTED: function 84 (impl_Add_84)

-- NOT PRINTED: function 85 (impl_Add_85)

-- NOT PRINTED: function 86 (impl_Add_86)

-- NOT PRINTED: function 87 (impl_Add_87)

-- NOT PRINTED: function 67 (impl_Add_67)

-- NOT PRINTED: function 59 (impl_Add_59)

/-! ### impl_Add_60: function 60 -/
mutual
def impl_Add_60.l0 : Nat → List (S48) → Int → Option ((List (S48)))
 | 0, _, _ => none
 | k + 1, x0, x3 => if x3 < (x0.length : Int) then (if 0 ≤ x3 then (if 0 ≤ (wrap64 (x3 - 1)) then (if (wrap64 (x3 - 1)) < (x0.length : Int) then (if ((((rd_T48 x0 x3).f0).toList) == (((rd_T48 x0 (wrap64 (x3 - 1))).f0).toList) && (((rd_T48 x0 x3).f1) == ((rd_T48 x0 (wrap64 (x3 - 1))).f1) && (((rd_T48 x0 x3).f2) == ((rd_T48 x0 (wrap64 (x3 - 1))).f2)))) = true then (none) else (impl_Add_60.l0 k x0 (wrap64 (x3 + 1)))) else (none)) else (none)) else (none)) else (some x0)
def impl_Add_60.l1 : Nat → List (S48) → Int → List (S48) → Int → Option ((List (S48)))
 | 0, _, _, _, _ => none
 | k + 1, x0, x3, x4, x5 => if x5 < (x4.length : Int) then (if 0 ≤ x5 then (if 0 ≤ (wrap64 (x5 - 1)) then (if (wrap64 (x5 - 1)) < (x4.length : Int) then (if (!((((rd_T48 x4 x5).f0).toList) == (((rd_T48 x4 (wrap64 (x5 - 1))).f0).toList)) || (!(((rd_T48 x4 x5).f1) == ((rd_T48 x4 (wrap64 (x5 - 1))).f1)) || (!(((rd_T48 x4 x5).f2) == ((rd_T48 x4 (wrap64 (x5 - 1))).f2))))) = true then (if 0 ≤ x3 then (if x3 < (x0.length : Int) then (impl_Add_60.l1 k x0 (wrap64 (x3 + 1)) x4 (wrap64 (x5 + 1))) else (none)) else (none)) else (impl_Add_60.l1 k x0 x3 x4 (wrap64 (x5 + 1)))) else (none)) else (none)) else (none)) else (if 0 ≤ x3 then (if x3 ≤ (x0.length : Int) then (some (x0.take (x3 : Int).toNat)) else (none)) else (none))
end
def impl_Add_60.f (k : Nat) (l0 : List (S48)) : Option ((List (S48))) := if (l0.length : Int) < 2 then (some l0) else (impl_Add_60.l0 k l0 1)
theorem impl_Add_60.mono_l : ∀ k, (∀ y0 y1, LeO (impl_Add_60.l0 k y0 y1) (impl_Add_60.l0 (k + 1) y0 y1)) ∧ (∀ y0 y1 y2 y3, LeO (impl_Add_60.l1 k y0 y1 y2 y3) (impl_Add_60.l1 (k + 1) y0 y1 y2 y3))
 | 0 => ⟨fun _ _ r h => by simp [impl_Add_60.l0] at h, fun _ _ _ _ r h => by simp [impl_Add_60.l1] at h⟩
 | k + 1 => by
  obtain ⟨ih0, ih1⟩ := impl_Add_60.mono_l k
  refine ⟨?_, ?_⟩
  ·intro y0 y1
   unfold impl_Add_60.l0
   repeat' first
   | (with_reducible exact ih0 _ _)
   | (with_reducible exact ih1 _ _ _ _)
   | (with_reducible exact LeO.refl _)
   | (with_reducible exact LeO.none _)
   | (with_reducible refine LeO.ite ?_ ?_)
   | (with_reducible refine LeO.bind ?_ (fun _ => ?_))
   | exact ih0 _ _
   | exact ih1 _ _ _ _
   | exact LeO.none _
   | refine LeO.ite ?_ ?_
   | refine LeO.bind ?_ (fun _ => ?_)
  ·intro y0 y1 y2 y3
   unfold impl_Add_60.l1
   repeat' first
   | (with_reducible exact ih0 _ _)
   | (with_reducible exact ih1 _ _ _ _)
   | (with_reducible exact LeO.refl _)
   | (with_reducible exact LeO.none _)
   | (with_reducible refine LeO.ite ?_ ?_)
   | (with_reducible refine LeO.bind ?_ (fun _ => ?_))
   | exact ih0 _ _
   | exact ih1 _ _ _ _
   | exact LeO.none _
   | refine LeO.ite ?_ ?_
   | refine LeO.bind ?_ (fun _ => ?_)
theorem impl_Add_60.mono : ∀ a0 k, LeO (impl_Add_60.f k a0) (impl_Add_60.f (k + 1) a0) := by
 intro a0 k
 obtain ⟨ih0, ih1⟩ := impl_Add_60.mono_l k
 unfold impl_Add_60.f
 repeat' first
   | (with_reducible exact ih0 _ _)
   | (with_reducible exact ih1 _ _ _ _)
   | (with_reducible exact LeO.refl _)
   | (with_reducible exact LeO.none _)
   | (with_reducible refine LeO.ite ?_ ?_)
   | (with_reducible refine LeO.bind ?_ (fun _ => ?_))
   | exact ih0 _ _
   | exact ih1 _ _ _ _
   | exact LeO.none _
   | refine LeO.ite ?_ ?_
   | refine LeO.bind ?_ (fun _ => ?_)
set_option maxHeartbeats 8000000 in
set_option maxRecDepth 100000 in
theorem impl_Add_60.calls (k : Nat) (P0_ : Nat → Prop) (u9000_ : Value) (l0 : List (S48)) (r : List (S48)) (w0 w : World) (hB : Below w0.heap.size w0 w) (ho0 : Kd.R k48 48 w w0.heap.size P0_ u9000_ l0) (h : impl_Add_60.f k l0 = some r) :
  Calls Try.prog 60 #[u9000_] w fun e w' => ∃ v0_ : Value, e = .returned (v0_) ∧ Kd.R k48 48 w' w0.heap.size (fun k_ => (P0_ k_ ∨ w.heap.size ≤ k_)) v0_ r ∧ Below w0.heap.size w0 w' ∧ Kept w w' (fun k_ => P0_ k_) := by
 have hu48 := Try.underlying48
 have HO0 := Aside0.mk (show Kd.R k48 48 w w0.heap.size (fun k_ => (P0_ k_ ∨ w.heap.size ≤ k_)) u9000_ l0 from Kd.R_mono ho0 (fun k_ hk => (.inl hk)))
 have HK := Aside0.mk (Kept.refl w (fun k_ => P0_ k_))
 have HW0 := Aside0.mk hB.size
 have HB := Aside0.mk hB
 clear hB
 have H : (if (l0.length : Int) < 2 then (some l0) else (impl_Add_60.l0 k l0 1)) = some r := h
 clear h
 by_cases c2 : (l0.length : Int) < 2
 ·rw [if_pos c2] at H
  have c2b0 : decide ((l0.length : Int) < 2) = true := decide_eq_true c2
  have c2b1 : decide (l0.length < 2) = true := decide_eq_true (by omega)
  clear c2
  obtain rfl := Option.some.inj H
  obtain ⟨Ao3, co3, eo3⟩ := Kd.R_slice HO0.out
  subst eo3
  go_enter Try.func60, Try.ntmps60
  go_wp2
  repeat (go_quiet (fail); try go_wp2)
  go_ret
  exact ⟨_, ng_, by exact kr_ HO0.out, bl_, by repeat (first | (with_reducible first | exact HK.out | apply Kept.alloc | apply Kept.drewN | apply Kept.drew) | exact HK.out)⟩
 rw [if_neg c2] at H
 have c2b0 : decide ((l0.length : Int) < 2) = false := decide_eq_false c2
 have c2b1 : decide (l0.length < 2) = false := decide_eq_false (by omega)
 clear c2
 have H' := Aside0.mk H
 clear H
 obtain ⟨Ao4, co4, eo4⟩ := Kd.R_slice HO0.out
 subst eo4
 go_enter Try.func60, Try.ntmps60
 go_wp2
 repeat (go_quiet (fail); try go_wp2)
 go_loopg [3] k (fun kq v3 w' => ∃ (x3_1 : Int), v3 = .int .i64 x3_1 ∧ Aside0 (impl_Add_60.l0 kq l0 x3_1 = some r) ∧ Aside0 (kq ≤ k) ∧ Aside0 (Kd.R k48 48 w' w0.heap.size (fun k_ => (P0_ k_ ∨ w.heap.size ≤ k_)) (.slice Ao4 l0.length co4) l0) ∧ Aside0 (Kept w w' (fun k_ => P0_ k_)) ∧ Aside0 (Below w0.heap.size w0 w'))
 case atStart => exact ⟨(1), (by first | rfl | (simp; done) | (simp [*]; done)), H', ⟨Nat.le_refl _⟩, ⟨by exact kr_ HO0.out⟩, ⟨by repeat (first | (with_reducible first | exact HK.out | apply Kept.alloc | apply Kept.drewN | apply Kept.drew) | exact HK.out)⟩, ⟨bl_⟩⟩
 clear H'
 try clear c2
 try clear c2b0
 try clear c2b1
 try clear p2
 obtain ⟨x3_1, rfl, HA, HK1, HO_0, HK, HB⟩ := hrel
 cases gk with
 | zero => exact absurd HA.out (by simp [impl_Add_60.l0])
 | succ k1 => ?_
 have H := HA.out
 clear HA
 simp only [impl_Add_60.l0] at H
 by_cases c5 : x3_1 < (l0.length : Int)
 rotate_left
 ·rw [if_neg c5] at H
  have c5b0 : decide (x3_1 < (l0.length : Int)) = false := decide_eq_false c5
  clear c5
  obtain rfl := Option.some.inj H
  go_wp2
  repeat (go_quiet (fail); try go_wp2)
  go_ret
  exact ⟨_, ng_, by exact kr_ HO_0.out, bl_, by repeat (first | (with_reducible first | exact HK.out | apply Kept.alloc | apply Kept.drewN | apply Kept.drew) | exact HK.out)⟩
 rw [if_pos c5] at H
 have c5b0 : decide (x3_1 < (l0.length : Int)) = true := decide_eq_true c5
 clear c5
 by_cases c6 : 0 ≤ x3_1
 rotate_left
 ·rw [if_neg c6] at H
  exact absurd H (by simp)
 rw [if_pos c6] at H
 have c6b0 : decide (0 ≤ x3_1) = true := decide_eq_true c6
 clear c6
 obtain ⟨ji7, hji7⟩ : ∃ j_ : Int, (wrap64 (x3_1 - 1)) = j_ := ⟨_, rfl⟩
 replace H : (if 0 ≤ (ji7) then (if (ji7) < (l0.length : Int) then (if ((((rd_T48 l0 x3_1).f0).toList) == (((rd_T48 l0 (ji7)).f0).toList) && (((rd_T48 l0 x3_1).f1) == ((rd_T48 l0 (ji7)).f1) && (((rd_T48 l0 x3_1).f2) == ((rd_T48 l0 (ji7)).f2)))) = true then (none) else (impl_Add_60.l0 k1 l0 (wrap64 (x3_1 + 1)))) else (none)) else (none)) = some r := by first | (rw [hji7] at H; exact H) | (simp only [hji7] at H ⊢; exact H)
 have hji7w : (IntKind.i64.wrap (x3_1 - 1)) = ji7 := (i64_w _).trans hji7
 by_cases c8 : 0 ≤ (ji7)
 rotate_left
 ·rw [if_neg c8] at H
  exact absurd H (by simp)
 rw [if_pos c8] at H
 have c8b0 : decide (0 ≤ (ji7)) = true := decide_eq_true c8
 clear c8
 by_cases c9 : (ji7) < (l0.length : Int)
 rotate_left
 ·rw [if_neg c9] at H
  exact absurd H (by simp)
 rw [if_pos c9] at H
 have c9b0 : decide ((ji7) < (l0.length : Int)) = true := decide_eq_true c9
 clear c9
 by_cases c10 : ((((rd_T48 l0 x3_1).f0).toList) == (((rd_T48 l0 (ji7)).f0).toList) && (((rd_T48 l0 x3_1).f1) == ((rd_T48 l0 (ji7)).f1) && (((rd_T48 l0 x3_1).f2) == ((rd_T48 l0 (ji7)).f2)))) = true
 rotate_left
 ·rw [if_neg c10] at H
  have c10b0 : ((((rd_T48 l0 x3_1).f0).toList) == (((rd_T48 l0 (ji7)).f0).toList) && (((rd_T48 l0 x3_1).f1) == ((rd_T48 l0 (ji7)).f1) && (((rd_T48 l0 x3_1).f2) == ((rd_T48 l0 (ji7)).f2)))) = false := by simpa using c10
  (try (have c10b1 : decide ((((rd_T48 l0 x3_1).f0).toList) = (((rd_T48 l0 (ji7)).f0).toList) && (((rd_T48 l0 x3_1).f1) == ((rd_T48 l0 (ji7)).f1) && (((rd_T48 l0 x3_1).f2) == ((rd_T48 l0 (ji7)).f2)))) = false := by simpa using c10))
  (try (have c10b2 : ((((rd_T48 l0 x3_1).f0).toList) == (((rd_T48 l0 (ji7)).f0).toList) && (((rd_T48 l0 x3_1).f1) == ((rd_T48 l0 (ji7)).f1) && (((rd_T48 l0 x3_1).f2) == ((rd_T48 l0 (ji7)).f2)))) = false := by simpa using c10))
  (try (have c10b3 : ¬ ((((rd_T48 l0 x3_1).f0).toList) = (((rd_T48 l0 (ji7)).f0).toList) && (((rd_T48 l0 x3_1).f1) == ((rd_T48 l0 (ji7)).f1) && (((rd_T48 l0 x3_1).f2) == ((rd_T48 l0 (ji7)).f2)))) := by simpa using c10))
  clear c10
  have H' := Aside0.mk H
  clear H
  have p516 : 0 ≤ (x3_1 : Int) := of_decide_eq_true (by first | (with_reducible assumption) | assumption)
  have q516 : x3_1 < (l0.length : Int) := of_decide_eq_true (by first | (with_reducible assumption) | assumption)
  obtain ⟨ad516, e516, hx516_0, hx516_1, hx516_2⟩ := at_T48 (Kd.R_reads' HO_0.out).2.2 x3_1 p516 q516
  cases e516
  replace p516 := eq_true p516
  replace q516 := eq_true q516
  have p517 : 0 ≤ ((ji7) : Int) := of_decide_eq_true (by first | (with_reducible assumption) | assumption)
  have q517 : (ji7) < (l0.length : Int) := of_decide_eq_true (by first | (with_reducible assumption) | assumption)
  obtain ⟨ad517, e517, hx517_0, hx517_1, hx517_2⟩ := at_T48 (Kd.R_reads' HO_0.out).2.2 (ji7) p517 q517
  obtain rfl : ad516 = ad517 := (by injection e517)
  replace p517 := eq_true p517
  replace q517 := eq_true q517
  go_wp2
  repeat (go_quiet (fail); try go_wp2)
  go_roundg k1
  case measure => have := HK1.out; omega
  case rel => exact ⟨(wrap64 (x3_1 + 1)), (by first | rfl | (simp; done) | (simp [*]; done)), H', ⟨by have := HK1.out; omega⟩, ⟨by exact kr_ HO_0.out⟩, ⟨by repeat (first | (with_reducible first | exact HK.out | apply Kept.alloc | apply Kept.drewN | apply Kept.drew) | exact HK.out)⟩, ⟨bl_⟩⟩
 rw [if_pos c10] at H
 exact absurd H (by simp)

/-! ### impl_goodBag: function 33 -/
def impl_goodBag.f (k : Nat) (l0 : List (S48)) (l1 : List (S48)) : Option ((List (S48)) × (List (S48)) × Bool) := (some (([] : List (S48)) : List (S48))).bind fun y534 => (if y534.length + l0.length < 4398046511104 then ((some (([] : List (S48)) : List (S48))).bind fun y540 => (if y540.length + l1.length < 4398046511104 then ((sortA.f k (y534 ++ l0) 1).bind fun bt547 => ((sortA.f k (y540 ++ l1) 1).bind fun bt549 => ((impl_Add_60.f k bt547.2).bind fun t551 => ((impl_Add_60.f k bt549.2).bind fun t554 => ((impl_isBag.f k t551 t554).bind fun t557 => (if t557 = true then (some (t551, t554, true)) else (some (([] : List (S48)), ([] : List (S48)), false)))))))) else (none))) else (none))
theorem impl_goodBag.mono : ∀ a0 a1 k, LeO (impl_goodBag.f k a0 a1) (impl_goodBag.f (k + 1) a0 a1) := by
 intro a0 a1 k
 unfold impl_goodBag.f
 repeat' first
   | (with_reducible exact impl_Add_60.mono _ _)
   | (with_reducible exact impl_isBag.mono _ _ _)
   | (with_reducible exact sortA.mono _ _ _)
   | (with_reducible exact LeO.refl _)
   | (with_reducible exact LeO.none _)
   | (with_reducible refine LeO.ite ?_ ?_)
   | (with_reducible refine LeO.bind ?_ (fun _ => ?_))
   | exact impl_Add_60.mono _ _
   | exact impl_isBag.mono _ _ _
   | exact sortA.mono _ _ _
   | exact LeO.none _
   | refine LeO.ite ?_ ?_
   | refine LeO.bind ?_ (fun _ => ?_)
set_option maxHeartbeats 8000000 in
set_option maxRecDepth 100000 in
theorem impl_goodBag.calls (k : Nat) (A0 : Option Addr) (c0 : Nat) (l0 : List (S48)) (A1 : Option Addr) (c1 : Nat) (l1 : List (S48)) (r1 : List (S48)) (r2 : List (S48)) (r3 : Bool) (w : World) (hr0 : Kd.C k48 w A0 l0.length l0) (hc0 : l0.length ≤ c0) (hr1 : Kd.C k48 w A1 l1.length l1) (hc1 : l1.length ≤ c1) (h : impl_goodBag.f k l0 l1 = some (r1, r2, r3)) :
  Calls Try.prog 33 #[.slice A0 l0.length c0, .slice A1 l1.length c1] w fun e w' => ∃ v0_ v1_ : Value, e = .returned (.tuple #[.agg #[v0_, v1_], .bool r3]) ∧ Kd.R k48 48 w' w.heap.size (fun k_ => some k_ ≠ (v1_ : Value).ownBlock) v0_ r1 ∧ Kd.R k48 48 w' w.heap.size (fun k_ => some k_ ≠ (v0_ : Value).ownBlock) v1_ r2 ∧ Below w.heap.size w w' := by
 have hu29 := Try.underlying29
 have HR0 := Aside0.mk hr0
 have HC0 := Aside0.mk hc0
 clear hr0 hc0
 have HR1 := Aside0.mk hr1
 have HC1 := Aside0.mk hc1
 clear hr1 hc1
 have HB := Aside0.mk (Below.refl w.heap.size w)
 have H : ((some (([] : List (S48)) : List (S48))).bind fun y534 => (if y534.length + l0.length < 4398046511104 then ((some (([] : List (S48)) : List (S48))).bind fun y540 => (if y540.length + l1.length < 4398046511104 then ((sortA.f k (y534 ++ l0) 1).bind fun bt547 => ((sortA.f k (y540 ++ l1) 1).bind fun bt549 => ((impl_Add_60.f k bt547.2).bind fun t551 => ((impl_Add_60.f k bt549.2).bind fun t554 => ((impl_isBag.f k t551 t554).bind fun t557 => (if t557 = true then (some (t551, t554, true)) else (some (([] : List (S48)), ([] : List (S48)), false)))))))) else (none))) else (none))) = some (r1, r2, r3) := h
 clear h
 obtain ⟨y534, hy534⟩ : ∃ y_ : List (S48), y_ = (([] : List (S48))) := ⟨_, rfl⟩
 replace H : (if y534.length + l0.length < 4398046511104 then ((some (([] : List (S48)) : List (S48))).bind fun y540 => (if y540.length + l1.length < 4398046511104 then ((sortA.f k (y534 ++ l0) 1).bind fun bt547 => ((sortA.f k (y540 ++ l1) 1).bind fun bt549 => ((impl_Add_60.f k bt547.2).bind fun t551 => ((impl_Add_60.f k bt549.2).bind fun t554 => ((impl_isBag.f k t551 t554).bind fun t557 => (if t557 = true then (some (t551, t554, true)) else (some (([] : List (S48)), ([] : List (S48)), false)))))))) else (none))) else (none)) = some (r1, r2, r3) := by first | (rw [hy534]; with_reducible exact H) | (have H2_ := (Option.bind_some _ _).symm.trans H; rw [hy534]; with_reducible exact H2_) | (have H2_ := (Option.bind_some _ _).symm.trans H; with_reducible exact H2_) | with_reducible exact H | (rw [hy534]; exact H) | exact H
 have Ny534 := Aside0.mk hy534
 clear hy534
 by_cases c3 : y534.length + l0.length < 4398046511104
 rotate_left
 ·rw [if_neg c3] at H
  exact absurd H (by simp)
 rw [if_pos c3] at H
 have LMc3 := Aside0.mk c3
 clear c3
 obtain ⟨y537, hy537⟩ : ∃ y_ : List (S48), y_ = (y534 ++ l0) := ⟨_, rfl⟩
 replace H : ((some (([] : List (S48)) : List (S48))).bind fun y540 => (if y540.length + l1.length < 4398046511104 then ((sortA.f k y537 1).bind fun bt547 => ((sortA.f k (y540 ++ l1) 1).bind fun bt549 => ((impl_Add_60.f k bt547.2).bind fun t551 => ((impl_Add_60.f k bt549.2).bind fun t554 => ((impl_isBag.f k t551 t554).bind fun t557 => (if t557 = true then (some (t551, t554, true)) else (some (([] : List (S48)), ([] : List (S48)), false)))))))) else (none))) = some (r1, r2, r3) := by first | (rw [hy537]; with_reducible exact H) | (have H2_ := (Option.bind_some _ _).symm.trans H; rw [hy537]; with_reducible exact H2_) | (have H2_ := (Option.bind_some _ _).symm.trans H; with_reducible exact H2_) | with_reducible exact H | (rw [hy537]; exact H) | exact H
 have Ny537 := Aside0.mk hy537
 clear hy537
 obtain ⟨y540, hy540⟩ : ∃ y_ : List (S48), y_ = (([] : List (S48))) := ⟨_, rfl⟩
 replace H : (if y540.length + l1.length < 4398046511104 then ((sortA.f k y537 1).bind fun bt547 => ((sortA.f k (y540 ++ l1) 1).bind fun bt549 => ((impl_Add_60.f k bt547.2).bind fun t551 => ((impl_Add_60.f k bt549.2).bind fun t554 => ((impl_isBag.f k t551 t554).bind fun t557 => (if t557 = true then (some (t551, t554, true)) else (some (([] : List (S48)), ([] : List (S48)), false)))))))) else (none)) = some (r1, r2, r3) := by first | (rw [hy540]; with_reducible exact H) | (have H2_ := (Option.bind_some _ _).symm.trans H; rw [hy540]; with_reducible exact H2_) | (have H2_ := (Option.bind_some _ _).symm.trans H; with_reducible exact H2_) | with_reducible exact H | (rw [hy540]; exact H) | exact H
 have Ny540 := Aside0.mk hy540
 clear hy540
 by_cases c4 : y540.length + l1.length < 4398046511104
 rotate_left
 ·rw [if_neg c4] at H
  exact absurd H (by simp)
 rw [if_pos c4] at H
 have LMc4 := Aside0.mk c4
 clear c4
 obtain ⟨y543, hy543⟩ : ∃ y_ : List (S48), y_ = (y540 ++ l1) := ⟨_, rfl⟩
 replace H : ((sortA.f k y537 1).bind fun bt547 => ((sortA.f k y543 1).bind fun bt549 => ((impl_Add_60.f k bt547.2).bind fun t551 => ((impl_Add_60.f k bt549.2).bind fun t554 => ((impl_isBag.f k t551 t554).bind fun t557 => (if t557 = true then (some (t551, t554, true)) else (some (([] : List (S48)), ([] : List (S48)), false)))))))) = some (r1, r2, r3) := by first | (rw [hy543]; with_reducible exact H) | (have H2_ := (Option.bind_some _ _).symm.trans H; rw [hy543]; with_reducible exact H2_) | (have H2_ := (Option.bind_some _ _).symm.trans H; with_reducible exact H2_) | with_reducible exact H | (rw [hy543]; exact H) | exact H
 have Ny543 := Aside0.mk hy543
 clear hy543
 replace H := Option.bind_eq_some_iff.mp H
 obtain ⟨⟨t547, t548⟩, A50, H⟩ := H
 replace H : ((sortA.f k y543 1).bind fun bt549 => ((impl_Add_60.f k t548).bind fun t551 => ((impl_Add_60.f k bt549.2).bind fun t554 => ((impl_isBag.f k t551 t554).bind fun t557 => (if t557 = true then (some (t551, t554, true)) else (some (([] : List (S48)), ([] : List (S48)), false))))))) = some (r1, r2, r3) := H
 have A5 := Aside0.mk A50
 clear A50
 replace H := Option.bind_eq_some_iff.mp H
 obtain ⟨⟨t549, t550⟩, A60, H⟩ := H
 replace H : ((impl_Add_60.f k t548).bind fun t551 => ((impl_Add_60.f k t550).bind fun t554 => ((impl_isBag.f k t551 t554).bind fun t557 => (if t557 = true then (some (t551, t554, true)) else (some (([] : List (S48)), ([] : List (S48)), false)))))) = some (r1, r2, r3) := H
 have A6 := Aside0.mk A60
 clear A60
 replace H := Option.bind_eq_some_iff.mp H
 obtain ⟨t551, A70, H⟩ := H
 replace H : ((impl_Add_60.f k t550).bind fun t554 => ((impl_isBag.f k t551 t554).bind fun t557 => (if t557 = true then (some (t551, t554, true)) else (some (([] : List (S48)), ([] : List (S48)), false))))) = some (r1, r2, r3) := H
 have A7 := Aside0.mk A70
 clear A70
 replace H := Option.bind_eq_some_iff.mp H
 obtain ⟨t554, A80, H⟩ := H
 replace H : ((impl_isBag.f k t551 t554).bind fun t557 => (if t557 = true then (some (t551, t554, true)) else (some (([] : List (S48)), ([] : List (S48)), false)))) = some (r1, r2, r3) := H
 have A8 := Aside0.mk A80
 clear A80
 replace H := Option.bind_eq_some_iff.mp H
 obtain ⟨t557, A90, H⟩ := H
 replace H : (if t557 = true then (some (t551, t554, true)) else (some (([] : List (S48)), ([] : List (S48)), false))) = some (r1, r2, r3) := H
 have A9 := Aside0.mk A90
 clear A90
 by_cases c10 : t557 = true
 rotate_left
 ·replace c10 := Bool.eq_false_iff.mpr c10
  subst c10
  have H1 : (some (([] : List (S48)), ([] : List (S48)), false)) = some (r1, r2, r3) := by rw [if_neg (show ¬ (false = true) by decide)] at H; exact H
  clear H
  have H := H1
  clear H1
  simp only [Option.some.injEq, Prod.mk.injEq] at H
  obtain ⟨rfl, rfl, rfl⟩ := H
  go_enter Try.func33, Try.ntmps33
  go_wp2_with (first | ((with_reducible refine gate_dst (N := 4) rfl ?_); refine box_event rfl (N := 4) rfl (cs := #[.slice none 0 0, .slice none 0 0]) (t := 29) gs_ ?_; intro gb533 hg w40 hbox hb; have BK533 := Aside0.mk (hbox); have GW533 := Aside0.mk ((by rw [hg]; exact bz_ : w.heap.size ≤ gb533)); have GE533 := GW533; replace HB := Aside0.mk (below_step bl_ hb); clear hb hbox hg) | ((with_reducible refine gate_dst (N := 7) rfl ?_); refine Kd.R_lit k48 _ 48 rfl (N := 7) rfl (xs := ([] : List (S48))) (inner := []) (ok := fun _ => True) (okp := fun _ => True) gs_ ?hp (fun _ hk => hk) trivial (Below.refl _ _) (Nat.le_refl _) (by simp) ?_; (case hp => exact (Reps.none _ _)); intro v535 w41 ho42 hb hg_ hnew_; clear hg_ hnew_; (first | rw [← Ny534.out] at ho42 | (simp only [Int.reduceToNat] at ho42; rw [← Ny534.out] at ho42)); have HO536 := Aside0.mk (Kd.R_lower ho42 bz_); replace BK533 := bb_ BK533 hb; replace HB := Aside0.mk (below_step bl_ hb); clear hb ho42) | ((with_reducible refine gate_builtin (b := .append) (xs := #[.tmp 7, .tmp 8]) rfl ?_); at_builtin; refine Kd.R_append_rows k48 (w0 := w) w.heap.size rfl (.tmp 7) (.tmp 8) 27 48 (.agg #[(.string ⟨#[]⟩), (.int .i64 0), (.int .i64 0)]) 32 rfl Try.underlying27 info48 rfl (by decide) (by omega) v535 y534 l0 _ _ _ (fun _ => True) (fun _ => False) rfl rfl ?aO ?aR (fun _ _ h => h) (fun _ h => h.elim) ?aF ?aB ?aS ?aL ?_; (case aR => exact kc_ (Kd.C_below HR0.out HB.out)); (case aB => exact bl_); (case aF => exact (fun _ _ => trivial)); (case aO => exact (kr_ HO536.out)); (case aS => exact bz_); (case aL => have := LMc3.out; omega); intro v538 w43 ho hb hg hat; rw [← Ny537.out] at ho; replace BK533 := bgr_ BK533 hg HO536 BK533; replace HB := Aside0.mk (hb); have HO539 := Aside0.mk (ho); clear HO536 ho hb hg hat) | ((with_reducible refine gate_dst (N := 10) rfl ?_); refine Kd.R_lit k48 _ 48 rfl (N := 10) rfl (xs := ([] : List (S48))) (inner := []) (ok := fun _ => True) (okp := fun _ => True) gs_ ?hp (fun _ hk => hk) trivial (Below.refl _ _) (Nat.le_refl _) (by simp) ?_; (case hp => exact (Reps.none _ _)); intro v541 w44 ho45 hb hg_ hnew_; clear hg_ hnew_; (first | rw [← Ny540.out] at ho45 | (simp only [Int.reduceToNat] at ho45; rw [← Ny540.out] at ho45)); have HO542 := Aside0.mk (Kd.R_lower (rn_ ho45 HO539.out) bz_); replace HO539 := Aside0.mk (Kd.R_elder' (kr_ HO539.out) (Kd.R_base ho45) hb); replace BK533 := bb_ BK533 hb; replace HB := Aside0.mk (below_step bl_ hb); clear hb ho45) | ((with_reducible refine gate_builtin (b := .append) (xs := #[.tmp 10, .tmp 11]) rfl ?_); at_builtin; refine Kd.R_append_rows k48 (w0 := w) w.heap.size rfl (.tmp 10) (.tmp 11) 27 48 (.agg #[(.string ⟨#[]⟩), (.int .i64 0), (.int .i64 0)]) 32 rfl Try.underlying27 info48 rfl (by decide) (by omega) v541 y540 l1 _ _ _ (fun k_ => some k_ ≠ (v538 : Value).ownBlock) (fun _ => False) rfl rfl ?aO ?aR (fun _ _ h => h) (fun _ h => h.elim) ?aF ?aB ?aS ?aL ?_; (case aR => exact kc_ (Kd.C_below HR1.out HB.out)); (case aB => exact bl_); (case aF => exact (fun k_ hk => Kd.fresh' (Kd.R_lt (kr_ HO539.out)) k_ hk)); (case aO => exact (kp_ HO542.out)); (case aS => exact bz_); (case aL => have := LMc4.out; omega); intro v544 w46 ho hb hg hat; rw [← Ny543.out] at ho; replace BK533 := bgr_ BK533 hg HO542 BK533; replace HO539 := Aside0.mk (Kd.R_after (ok := (fun _ => True)) (kr_ HO539.out) hg hat); replace HB := Aside0.mk (hb); have HO545 := Aside0.mk (ho); clear HO542 ho hb hg hat; obtain ⟨Ao47, co47, eo47⟩ := Kd.R_slice HO545.out; subst eo47; obtain ⟨Ao48, co48, eo48⟩ := Kd.R_slice HO539.out; subst eo48) | ((with_reducible refine gate_dst (N := 6) rfl ?_); refine box_event rfl (N := 6) rfl (cs := #[.slice none 0 0, .slice none 0 0]) (t := 29) gs_ ?_; intro gb546 hg w49 hbox hb; replace HO539 := rb_ HO539 hb; replace HO545 := rb_ HO545 hb; have BK546 := Aside0.mk (hbox); have GW546 := Aside0.mk ((by rw [hg]; exact bz_ : w.heap.size ≤ gb546)); have GE546 := GW546; replace HB := Aside0.mk (below_step bl_ hb); have NB533_546 := nl_ hg BK533; have NB546_533 := nm_ hg BK533; replace BK533 := bb_ BK533 hb; clear hb hbox hg; have hnb50 := NB546_533.out; have hnc50 := NB533_546.out; have hcz51_0 : w49.cell? ⟨gb546, 0, none⟩ = some (.slice none 0 0) := bc_ BK546.out 0; have hcz51_1 : w49.cell? ⟨gb546, 1, none⟩ = some (.slice none 0 0) := bc_ BK546.out 1; have hfz51_0 := blk_frozen BK546.out 0; have hfz51_1 := blk_frozen BK546.out 1) | ((with_reducible refine gate_store (t := 29) (p := 6) rfl ?_); refine store_event (t := 29) (p := 6) (v := ?vo_w52) (w1 := ((w49.setCell ⟨gb546, 0, none⟩ (.slice Ao48 y537.length co48)).setCell ⟨gb546, 1, none⟩ (.slice Ao47 y543.length co47))) ?hg ?ho ?hn ?hr ?_; (case ho => rfl); (case hg => rfl); (case hn => rfl); (case hr => first | (go_simp; done) | (go_simp; rfl)); intro w52 hw; have n0_ : Aside0 (Kd.R k48 48 w52 w.heap.size (fun k_ => some k_ ≠ (.slice Ao47 y543.length co47 : Value).ownBlock) (.slice Ao48 y537.length co48) y537) := ⟨(by rw [hw]; exact (by exact kr_ (Kd.R_mono (Kd.R_far (p := ⟨gb546, 1, none⟩) (Kd.R_far (p := ⟨gb546, 0, none⟩) (Kd.R_types HO539.out BK546.out (by decide)) (fun _ hk => hk.2) (.slice Ao48 y537.length co48)) (fun _ hk => hk.2) (.slice Ao47 y543.length co47)) (fun _ hk => hk.1.2))))⟩; have n1_ : Aside0 (Kd.R k48 48 w52 w.heap.size (fun k_ => some k_ ≠ (.slice Ao48 y537.length co48 : Value).ownBlock) (.slice Ao47 y543.length co47) y543) := ⟨(by rw [hw]; exact (by exact kr_ (Kd.R_mono (Kd.R_far (p := ⟨gb546, 1, none⟩) (Kd.R_far (p := ⟨gb546, 0, none⟩) (Kd.R_types HO545.out BK546.out (by decide)) (fun _ hk => hk.2) (.slice Ao48 y537.length co48)) (fun _ hk => hk.2) (.slice Ao47 y543.length co47)) (fun _ hk => hk.1))))⟩; have n2_ : Aside0 (w52.heap[gb533]? = some (.cells #[.slice none 0 0, .slice none 0 0] 29 (0, 0))) := ⟨(by rw [hw]; exact kz_)⟩; have n3_ : Aside0 (w52.heap[gb546]? = some (.cells #[.slice Ao48 y537.length co48, .slice Ao47 y543.length co47] 29 (0, 0))) := ⟨(by rw [hw]; exact (by (with_reducible repeat (first | refine blk_drewN ?_ _ | refine blk_drew ?_ | refine blk_alloc ?_ _)); refine blk_put (cs := #[.slice Ao48 y537.length co48, .slice none 0 0]) ?_ 1 _ rfl; (with_reducible repeat (first | refine blk_drewN ?_ _ | refine blk_drew ?_ | refine blk_alloc ?_ _)); refine blk_put (cs := #[.slice none 0 0, .slice none 0 0]) ?_ 0 _ rfl; exact kb_ BK546.out))⟩; have n4_ : Aside0 (Below w.heap.size w w52) := ⟨(by rw [hw]; exact bl_)⟩; clear hw HO539 HO545 BK533 BK546 HB; have HO539 := n0_; have HO545 := n1_; have BK533 := n2_; have BK546 := n3_; have HB := n4_; clear n0_ n1_ n2_ n3_ n4_; have hcz53_0 : w52.cell? ⟨gb546, 0, none⟩ = some (.slice Ao48 y537.length co48) := bc_ BK546.out 0; have hcz53_1 : w52.cell? ⟨gb546, 1, none⟩ = some (.slice Ao47 y543.length co47) := bc_ BK546.out 1; have hfz53_0 := blk_frozen BK546.out 0; have hfz53_1 := blk_frozen BK546.out 1) | ((with_reducible refine gate_callee (f := 59) rfl ?_); refine goesL_ (some 16) rfl rfl Try.func59 (by kernel_rfl) rfl #[.slice Ao48 y537.length co48, .func (.func 40) #[] #[]] rfl nc_ ?_; (with_reducible refine (sortA.calls k (fun k_ => some k_ = (.slice Ao48 y537.length co48 : Value).ownBlock) (.slice Ao48 y537.length co48) y537 1 t547 t548 w _ ?side1 ?side2 A5.out).mono ?_); (case side1 => repeat (first | (with_reducible first | exact HB.out | apply below_alloc | apply pw_below_drewN | apply below_drew1 | refine below_set ?_ GE533.out | refine below_set ?_ GE546.out) | exact HB.out)); (case side2 => exact Kd.R_tight rfl HO539.out); rintro e w54 ⟨rfl, hy0, hb, hkp⟩; refine ⟨_, rfl, ?_⟩; replace BK533 := Aside0.mk (blk_kept (kb_ BK533.out) hkp (fun hs_ => (fun e_ => (Kd.R_ne HO539.out BK533.out (by decide)) e_) hs_)); replace HO545 := Aside0.mk (Kd.R_mono (ok' := fun k_ => some k_ ≠ (.slice Ao48 y537.length co48 : Value).ownBlock) (Kd.R_keptB (HO545.out) hkp (fun k_ hk_ hs_ => (hk_) hs_)) (fun k_ hk_ => hk_.1)); replace BK546 := Aside0.mk (blk_kept (kb_ BK546.out) hkp (fun hs_ => (fun e_ => (Kd.R_ne HO539.out BK546.out (by decide)) e_) hs_)); replace HO539 := Aside0.mk (Kd.R_reok rfl hy0 (fun k_ e_ => HO539.out.1 k_ e_)); replace HB := Aside0.mk (hb); clear hb; have hcz55_0 : w54.cell? ⟨gb546, 0, none⟩ = some (.slice Ao48 y537.length co48) := bc_ BK546.out 0; have hcz55_1 : w54.cell? ⟨gb546, 1, none⟩ = some (.slice Ao47 y543.length co47) := bc_ BK546.out 1; have hfz55_0 := blk_frozen BK546.out 0; have hfz55_1 := blk_frozen BK546.out 1) | ((with_reducible refine gate_callee (f := 59) rfl ?_); refine goesL_ (some 19) rfl rfl Try.func59 (by kernel_rfl) rfl #[.slice Ao47 y543.length co47, .func (.func 40) #[] #[]] rfl nc_ ?_; (with_reducible refine (sortA.calls k (fun k_ => some k_ = (.slice Ao47 y543.length co47 : Value).ownBlock) (.slice Ao47 y543.length co47) y543 1 t549 t550 w _ ?side1 ?side2 A6.out).mono ?_); (case side1 => repeat (first | (with_reducible first | exact HB.out | apply below_alloc | apply pw_below_drewN | apply below_drew1 | refine below_set ?_ GE533.out | refine below_set ?_ GE546.out) | exact HB.out)); (case side2 => exact Kd.R_tight rfl HO545.out); rintro e w56 ⟨rfl, hy0, hb, hkp⟩; refine ⟨_, rfl, ?_⟩; replace BK533 := Aside0.mk (blk_kept (kb_ BK533.out) hkp (fun hs_ => (fun e_ => (Kd.R_ne HO545.out BK533.out (by decide)) e_) hs_)); replace HO539 := Aside0.mk (Kd.R_mono (ok' := fun k_ => some k_ ≠ (.slice Ao47 y543.length co47 : Value).ownBlock) (Kd.R_keptB (HO539.out) hkp (fun k_ hk_ hs_ => (hk_) hs_)) (fun k_ hk_ => hk_.1)); replace BK546 := Aside0.mk (blk_kept (kb_ BK546.out) hkp (fun hs_ => (fun e_ => (Kd.R_ne HO545.out BK546.out (by decide)) e_) hs_)); replace HO545 := Aside0.mk (Kd.R_reok rfl hy0 (fun k_ e_ => HO545.out.1 k_ e_)); replace HB := Aside0.mk (hb); clear hb; have hcz57_0 : w56.cell? ⟨gb546, 0, none⟩ = some (.slice Ao48 y537.length co48) := bc_ BK546.out 0; have hcz57_1 : w56.cell? ⟨gb546, 1, none⟩ = some (.slice Ao47 y543.length co47) := bc_ BK546.out 1; have hfz57_0 := blk_frozen BK546.out 0; have hfz57_1 := blk_frozen BK546.out 1) | ((with_reducible refine gate_callee (f := 60) rfl ?_); refine goesL_ (some 22) rfl rfl Try.func60 (by kernel_rfl) rfl #[.slice Ao48 y537.length co48] rfl nc_ ?_; (with_reducible refine (impl_Add_60.calls k (fun k_ => some k_ = (.slice Ao48 y537.length co48 : Value).ownBlock) (.slice Ao48 y537.length co48) t548 t551 w _ ?side1 ?side2 A7.out).mono ?_); (case side1 => repeat (first | (with_reducible first | exact HB.out | apply below_alloc | apply pw_below_drewN | apply below_drew1 | refine below_set ?_ GE533.out | refine below_set ?_ GE546.out) | exact HB.out)); (case side2 => exact Kd.R_tight rfl HO539.out); rintro e w58 ⟨v552, rfl, ho0, hb, hkp⟩; refine ⟨_, rfl, ?_⟩; replace BK533 := Aside0.mk (blk_kept (kb_ BK533.out) hkp (fun hs_ => (fun e_ => (Kd.R_ne HO539.out BK533.out (by decide)) e_) hs_)); replace BK546 := Aside0.mk (blk_kept (kb_ BK546.out) hkp (fun hs_ => (fun e_ => (Kd.R_ne HO539.out BK546.out (by decide)) e_) hs_)); have HO553 := Aside0.mk (Kd.R_mono (ok' := fun k_ => some k_ ≠ (.slice Ao47 y543.length co47 : Value).ownBlock) ho0 (fun k_ hk_ => Or.elim hk_ (fun hs_ => fun e_ => (((HO545.out).1 k_ e_.symm)) hs_) (fun hn_ => (Kd.fresh' (Kd.R_lt (kr_ HO545.out)) k_ hn_)))); replace HO545 := Aside0.mk (Kd.R_mono (ok' := fun k_ => some k_ ≠ (v552 : Value).ownBlock) (Kd.R_keptB (HO545.out) hkp (fun k_ hk_ hs_ => (hk_) hs_)) (fun k_ hk_ => fun e_ => Or.elim (ho0.1 k_ e_.symm) (fun hs_ => hk_.2.1 hs_) (fun hn_ => Nat.not_le.2 hk_.2.2 hn_))); replace HB := Aside0.mk (hb); clear HO539 hb ho0; obtain ⟨Ao59, co59, eo59⟩ := Kd.R_slice HO553.out; subst eo59; have hcz60_0 : w58.cell? ⟨gb546, 0, none⟩ = some (.slice Ao48 y537.length co48) := bc_ BK546.out 0; have hcz60_1 : w58.cell? ⟨gb546, 1, none⟩ = some (.slice Ao47 y543.length co47) := bc_ BK546.out 1; have hfz60_0 := blk_frozen BK546.out 0; have hfz60_1 := blk_frozen BK546.out 1) | ((with_reducible refine gate_store (t := 27) (p := 23) rfl ?_); refine store_event (t := 27) (p := 23) (v := ?vo_w61) (w1 := (w58.setCell ⟨gb546, 0, none⟩ (.slice Ao59 t551.length co59))) ?hg ?ho ?hn ?hr ?_; (case ho => rfl); (case hg => rfl); (case hn => rfl); (case hr => first | (go_simp; done) | (go_simp; rfl)); intro w61 hw; have n0_ : Aside0 (Kd.R k48 48 w61 w.heap.size (fun k_ => some k_ ≠ (.slice Ao59 t551.length co59 : Value).ownBlock) (.slice Ao47 y543.length co47) t550) := ⟨(by rw [hw]; exact (by exact kr_ (Kd.R_mono (Kd.R_far (p := ⟨gb546, 0, none⟩) (Kd.R_types HO545.out BK546.out (by decide)) (fun _ hk => hk.2) (.slice Ao59 t551.length co59)) (fun _ hk => hk.1))))⟩; have n1_ : Aside0 (Kd.R k48 48 w61 w.heap.size (fun k_ => some k_ ≠ (.slice Ao47 y543.length co47 : Value).ownBlock) (.slice Ao59 t551.length co59) t551) := ⟨(by rw [hw]; exact (by exact kr_ (Kd.R_mono (Kd.R_far (p := ⟨gb546, 0, none⟩) (Kd.R_types HO553.out BK546.out (by decide)) (fun _ hk => hk.2) (.slice Ao59 t551.length co59)) (fun _ hk => hk.1))))⟩; have n2_ : Aside0 (w61.heap[gb533]? = some (.cells #[.slice none 0 0, .slice none 0 0] 29 (0, 0))) := ⟨(by rw [hw]; exact kz_)⟩; have n3_ : Aside0 (w61.heap[gb546]? = some (.cells #[.slice Ao59 t551.length co59, .slice Ao47 y543.length co47] 29 (0, 0))) := ⟨(by rw [hw]; exact (by (with_reducible repeat (first | refine blk_drewN ?_ _ | refine blk_drew ?_ | refine blk_alloc ?_ _)); refine blk_put (cs := #[.slice Ao48 y537.length co48, .slice Ao47 y543.length co47]) ?_ 0 _ rfl; exact kb_ BK546.out))⟩; have n4_ : Aside0 (Below w.heap.size w w61) := ⟨(by rw [hw]; exact bl_)⟩; clear hw HO545 HO553 BK533 BK546 HB; have HO545 := n0_; have HO553 := n1_; have BK533 := n2_; have BK546 := n3_; have HB := n4_; clear n0_ n1_ n2_ n3_ n4_; have hcz62_0 : w61.cell? ⟨gb546, 0, none⟩ = some (.slice Ao59 t551.length co59) := bc_ BK546.out 0; have hcz62_1 : w61.cell? ⟨gb546, 1, none⟩ = some (.slice Ao47 y543.length co47) := bc_ BK546.out 1; have hfz62_0 := blk_frozen BK546.out 0; have hfz62_1 := blk_frozen BK546.out 1) | ((with_reducible refine gate_callee (f := 60) rfl ?_); refine goesL_ (some 26) rfl rfl Try.func60 (by kernel_rfl) rfl #[.slice Ao47 y543.length co47] rfl nc_ ?_; (with_reducible refine (impl_Add_60.calls k (fun k_ => some k_ = (.slice Ao47 y543.length co47 : Value).ownBlock) (.slice Ao47 y543.length co47) t550 t554 w _ ?side1 ?side2 A8.out).mono ?_); (case side1 => repeat (first | (with_reducible first | exact HB.out | apply below_alloc | apply pw_below_drewN | apply below_drew1 | refine below_set ?_ GE533.out | refine below_set ?_ GE546.out) | exact HB.out)); (case side2 => exact Kd.R_tight rfl HO545.out); rintro e w63 ⟨v555, rfl, ho0, hb, hkp⟩; refine ⟨_, rfl, ?_⟩; replace BK533 := Aside0.mk (blk_kept (kb_ BK533.out) hkp (fun hs_ => (fun e_ => (Kd.R_ne HO545.out BK533.out (by decide)) e_) hs_)); replace BK546 := Aside0.mk (blk_kept (kb_ BK546.out) hkp (fun hs_ => (fun e_ => (Kd.R_ne HO545.out BK546.out (by decide)) e_) hs_)); have HO556 := Aside0.mk (Kd.R_mono (ok' := fun k_ => some k_ ≠ (.slice Ao59 t551.length co59 : Value).ownBlock) ho0 (fun k_ hk_ => Or.elim hk_ (fun hs_ => fun e_ => (((HO553.out).1 k_ e_.symm)) hs_) (fun hn_ => (Kd.fresh' (Kd.R_lt (kr_ HO553.out)) k_ hn_)))); replace HO553 := Aside0.mk (Kd.R_mono (ok' := fun k_ => some k_ ≠ (v555 : Value).ownBlock) (Kd.R_keptB (HO553.out) hkp (fun k_ hk_ hs_ => (hk_) hs_)) (fun k_ hk_ => fun e_ => Or.elim (ho0.1 k_ e_.symm) (fun hs_ => hk_.2.1 hs_) (fun hn_ => Nat.not_le.2 hk_.2.2 hn_))); replace HB := Aside0.mk (hb); clear HO545 hb ho0; obtain ⟨Ao64, co64, eo64⟩ := Kd.R_slice HO556.out; subst eo64; have hcz65_0 : w63.cell? ⟨gb546, 0, none⟩ = some (.slice Ao59 t551.length co59) := bc_ BK546.out 0; have hcz65_1 : w63.cell? ⟨gb546, 1, none⟩ = some (.slice Ao47 y543.length co47) := bc_ BK546.out 1; have hfz65_0 := blk_frozen BK546.out 0; have hfz65_1 := blk_frozen BK546.out 1) | ((with_reducible refine gate_callee (f := 30) rfl ?_); refine goesL_ (some 29) rfl rfl Try.func30 (by kernel_rfl) rfl #[.agg #[.slice Ao59 t551.length co59, .slice Ao64 t554.length co64]] rfl nc_ ?_; (with_reducible refine (impl_isBag.calls k _ _ t551 _ _ t554 false _ ?side1 ?side2 ?side3 ?side4 A9.out).mono ?_); (case side1 => refine (Kd.R_reads' (e := 48) (base := w.heap.size) (ok := fun k_ => some k_ ≠ (.slice Ao64 t554.length co64 : Value).ownBlock) (n := t551.length) (c := co59) ?_).2.2; exact (by exact kr_ ((Kd.R_mono (Kd.R_far (p := ⟨gb546, 1, none⟩) (Kd.R_types HO553.out BK546.out (by decide)) (fun _ hk => hk.2) (.slice Ao64 t554.length co64)) (fun _ h_ => h_.1))))); (case side2 => exact (Kd.R_reads' HO553.out).2.1); (case side3 => refine (Kd.R_reads' (e := 48) (base := w.heap.size) (ok := fun k_ => some k_ ≠ (.slice Ao59 t551.length co59 : Value).ownBlock) (n := t554.length) (c := co64) ?_).2.2; exact (by exact kr_ ((Kd.R_mono (Kd.R_far (p := ⟨gb546, 1, none⟩) (Kd.R_types HO556.out BK546.out (by decide)) (fun _ hk => hk.2) (.slice Ao64 t554.length co64)) (fun _ h_ => h_.1))))); (case side4 => exact (Kd.R_reads' HO556.out).2.1); rintro e w66 ⟨rfl, hb⟩; refine ⟨_, rfl, ?_⟩; replace HO553 := Aside0.mk (Kd.R_below (by exact kr_ ((Kd.R_mono (Kd.R_far (p := ⟨gb546, 1, none⟩) (Kd.R_types HO553.out BK546.out (by decide)) (fun _ hk => hk.2) (.slice Ao64 t554.length co64)) (fun _ h_ => h_.1)))) hb); replace HO556 := Aside0.mk (Kd.R_below (by exact kr_ ((Kd.R_mono (Kd.R_far (p := ⟨gb546, 1, none⟩) (Kd.R_types HO556.out BK546.out (by decide)) (fun _ hk => hk.2) (.slice Ao64 t554.length co64)) (fun _ h_ => h_.1)))) hb); replace BK533 := Aside0.mk (blk_below (g := gb533) (o := .cells #[.slice none 0 0, .slice none 0 0] 29 (0, 0)) kz_ hb); replace BK546 := Aside0.mk (blk_below (g := gb546) (o := .cells #[.slice Ao59 t551.length co59, .slice Ao64 t554.length co64] 29 (0, 0)) (by (with_reducible repeat (first | refine blk_drewN ?_ _ | refine blk_drew ?_ | refine blk_alloc ?_ _)); refine blk_put (cs := #[.slice Ao59 t551.length co59, .slice Ao47 y543.length co47]) ?_ 1 _ rfl; exact kb_ BK546.out) hb); replace HB := Aside0.mk (below_step bl_ hb); clear hb; have hcz67_0 : w66.cell? ⟨gb533, 0, none⟩ = some (.slice none 0 0) := bc_ BK533.out 0; have hcz67_1 : w66.cell? ⟨gb533, 1, none⟩ = some (.slice none 0 0) := bc_ BK533.out 1; have hfz67_0 := blk_frozen BK533.out 0; have hfz67_1 := blk_frozen BK533.out 1))
  refine bodyPost_ret (results_ct rfl _ _ gb533 29 #[.slice none 0 0, .slice none 0 0] (0, 0) _ rfl (by (with_reducible repeat (first | refine blk_drewN ?_ _ | refine blk_drew ?_ | refine blk_alloc ?_ _)); refine blk_put (cs := #[.slice none 0 0, .slice none 0 0]) ?_ 1 _ rfl; (with_reducible repeat (first | refine blk_drewN ?_ _ | refine blk_drew ?_ | refine blk_alloc ?_ _)); refine blk_put (cs := #[.slice none 0 0, .slice none 0 0]) ?_ 0 _ rfl; exact kb_ BK533.out) Try.underlying29 rfl (by kernel_rfl)) rfl ?_
  exact ⟨_, _, ng_, by first | exact Kd.R_nil _ _ _ _ _ | exact Kd.N_nil _ _ _ _ _ | exact Kd.V_nil _ _ _ _ _ | exact Kd.Q_nil _ _ _ _ _ | exact Kd.S_nil _ _ _ _ _, by first | exact Kd.R_nil _ _ _ _ _ | exact Kd.N_nil _ _ _ _ _ | exact Kd.V_nil _ _ _ _ _ | exact Kd.Q_nil _ _ _ _ _ | exact Kd.S_nil _ _ _ _ _, bl_⟩
 subst c10
 have H1 : (some (t551, t554, true)) = some (r1, r2, r3) := by rw [if_pos rfl] at H; exact H
 clear H
 have H := H1
 clear H1
 simp only [Option.some.injEq, Prod.mk.injEq] at H
 obtain ⟨rfl, rfl, rfl⟩ := H
 go_enter Try.func33, Try.ntmps33
 go_wp2_with (first | ((with_reducible refine gate_dst (N := 4) rfl ?_); refine box_event rfl (N := 4) rfl (cs := #[.slice none 0 0, .slice none 0 0]) (t := 29) gs_ ?_; intro gb533 hg w11 hbox hb; have BK533 := Aside0.mk (hbox); have GW533 := Aside0.mk ((by rw [hg]; exact bz_ : w.heap.size ≤ gb533)); have GE533 := GW533; replace HB := Aside0.mk (below_step bl_ hb); clear hb hbox hg) | ((with_reducible refine gate_dst (N := 7) rfl ?_); refine Kd.R_lit k48 _ 48 rfl (N := 7) rfl (xs := ([] : List (S48))) (inner := []) (ok := fun _ => True) (okp := fun _ => True) gs_ ?hp (fun _ hk => hk) trivial (Below.refl _ _) (Nat.le_refl _) (by simp) ?_; (case hp => exact (Reps.none _ _)); intro v535 w12 ho13 hb hg_ hnew_; clear hg_ hnew_; (first | rw [← Ny534.out] at ho13 | (simp only [Int.reduceToNat] at ho13; rw [← Ny534.out] at ho13)); have HO536 := Aside0.mk (Kd.R_lower ho13 bz_); replace BK533 := bb_ BK533 hb; replace HB := Aside0.mk (below_step bl_ hb); clear hb ho13) | ((with_reducible refine gate_builtin (b := .append) (xs := #[.tmp 7, .tmp 8]) rfl ?_); at_builtin; refine Kd.R_append_rows k48 (w0 := w) w.heap.size rfl (.tmp 7) (.tmp 8) 27 48 (.agg #[(.string ⟨#[]⟩), (.int .i64 0), (.int .i64 0)]) 32 rfl Try.underlying27 info48 rfl (by decide) (by omega) v535 y534 l0 _ _ _ (fun _ => True) (fun _ => False) rfl rfl ?aO ?aR (fun _ _ h => h) (fun _ h => h.elim) ?aF ?aB ?aS ?aL ?_; (case aR => exact kc_ (Kd.C_below HR0.out HB.out)); (case aB => exact bl_); (case aF => exact (fun _ _ => trivial)); (case aO => exact (kr_ HO536.out)); (case aS => exact bz_); (case aL => have := LMc3.out; omega); intro v538 w14 ho hb hg hat; rw [← Ny537.out] at ho; replace BK533 := bgr_ BK533 hg HO536 BK533; replace HB := Aside0.mk (hb); have HO539 := Aside0.mk (ho); clear HO536 ho hb hg hat) | ((with_reducible refine gate_dst (N := 10) rfl ?_); refine Kd.R_lit k48 _ 48 rfl (N := 10) rfl (xs := ([] : List (S48))) (inner := []) (ok := fun _ => True) (okp := fun _ => True) gs_ ?hp (fun _ hk => hk) trivial (Below.refl _ _) (Nat.le_refl _) (by simp) ?_; (case hp => exact (Reps.none _ _)); intro v541 w15 ho16 hb hg_ hnew_; clear hg_ hnew_; (first | rw [← Ny540.out] at ho16 | (simp only [Int.reduceToNat] at ho16; rw [← Ny540.out] at ho16)); have HO542 := Aside0.mk (Kd.R_lower (rn_ ho16 HO539.out) bz_); replace HO539 := Aside0.mk (Kd.R_elder' (kr_ HO539.out) (Kd.R_base ho16) hb); replace BK533 := bb_ BK533 hb; replace HB := Aside0.mk (below_step bl_ hb); clear hb ho16) | ((with_reducible refine gate_builtin (b := .append) (xs := #[.tmp 10, .tmp 11]) rfl ?_); at_builtin; refine Kd.R_append_rows k48 (w0 := w) w.heap.size rfl (.tmp 10) (.tmp 11) 27 48 (.agg #[(.string ⟨#[]⟩), (.int .i64 0), (.int .i64 0)]) 32 rfl Try.underlying27 info48 rfl (by decide) (by omega) v541 y540 l1 _ _ _ (fun k_ => some k_ ≠ (v538 : Value).ownBlock) (fun _ => False) rfl rfl ?aO ?aR (fun _ _ h => h) (fun _ h => h.elim) ?aF ?aB ?aS ?aL ?_; (case aR => exact kc_ (Kd.C_below HR1.out HB.out)); (case aB => exact bl_); (case aF => exact (fun k_ hk => Kd.fresh' (Kd.R_lt (kr_ HO539.out)) k_ hk)); (case aO => exact (kp_ HO542.out)); (case aS => exact bz_); (case aL => have := LMc4.out; omega); intro v544 w17 ho hb hg hat; rw [← Ny543.out] at ho; replace BK533 := bgr_ BK533 hg HO542 BK533; replace HO539 := Aside0.mk (Kd.R_after (ok := (fun _ => True)) (kr_ HO539.out) hg hat); replace HB := Aside0.mk (hb); have HO545 := Aside0.mk (ho); clear HO542 ho hb hg hat; obtain ⟨Ao18, co18, eo18⟩ := Kd.R_slice HO545.out; subst eo18; obtain ⟨Ao19, co19, eo19⟩ := Kd.R_slice HO539.out; subst eo19) | ((with_reducible refine gate_dst (N := 6) rfl ?_); refine box_event rfl (N := 6) rfl (cs := #[.slice none 0 0, .slice none 0 0]) (t := 29) gs_ ?_; intro gb546 hg w20 hbox hb; replace HO539 := rb_ HO539 hb; replace HO545 := rb_ HO545 hb; have BK546 := Aside0.mk (hbox); have GW546 := Aside0.mk ((by rw [hg]; exact bz_ : w.heap.size ≤ gb546)); have GE546 := GW546; replace HB := Aside0.mk (below_step bl_ hb); have NB533_546 := nl_ hg BK533; have NB546_533 := nm_ hg BK533; replace BK533 := bb_ BK533 hb; clear hb hbox hg; have hnb21 := NB546_533.out; have hnc21 := NB533_546.out; have hcz22_0 : w20.cell? ⟨gb546, 0, none⟩ = some (.slice none 0 0) := bc_ BK546.out 0; have hcz22_1 : w20.cell? ⟨gb546, 1, none⟩ = some (.slice none 0 0) := bc_ BK546.out 1; have hfz22_0 := blk_frozen BK546.out 0; have hfz22_1 := blk_frozen BK546.out 1) | ((with_reducible refine gate_store (t := 29) (p := 6) rfl ?_); refine store_event (t := 29) (p := 6) (v := ?vo_w23) (w1 := ((w20.setCell ⟨gb546, 0, none⟩ (.slice Ao19 y537.length co19)).setCell ⟨gb546, 1, none⟩ (.slice Ao18 y543.length co18))) ?hg ?ho ?hn ?hr ?_; (case ho => rfl); (case hg => rfl); (case hn => rfl); (case hr => first | (go_simp; done) | (go_simp; rfl)); intro w23 hw; have n0_ : Aside0 (Kd.R k48 48 w23 w.heap.size (fun k_ => some k_ ≠ (.slice Ao18 y543.length co18 : Value).ownBlock) (.slice Ao19 y537.length co19) y537) := ⟨(by rw [hw]; exact (by exact kr_ (Kd.R_mono (Kd.R_far (p := ⟨gb546, 1, none⟩) (Kd.R_far (p := ⟨gb546, 0, none⟩) (Kd.R_types HO539.out BK546.out (by decide)) (fun _ hk => hk.2) (.slice Ao19 y537.length co19)) (fun _ hk => hk.2) (.slice Ao18 y543.length co18)) (fun _ hk => hk.1.2))))⟩; have n1_ : Aside0 (Kd.R k48 48 w23 w.heap.size (fun k_ => some k_ ≠ (.slice Ao19 y537.length co19 : Value).ownBlock) (.slice Ao18 y543.length co18) y543) := ⟨(by rw [hw]; exact (by exact kr_ (Kd.R_mono (Kd.R_far (p := ⟨gb546, 1, none⟩) (Kd.R_far (p := ⟨gb546, 0, none⟩) (Kd.R_types HO545.out BK546.out (by decide)) (fun _ hk => hk.2) (.slice Ao19 y537.length co19)) (fun _ hk => hk.2) (.slice Ao18 y543.length co18)) (fun _ hk => hk.1))))⟩; have n2_ : Aside0 (w23.heap[gb533]? = some (.cells #[.slice none 0 0, .slice none 0 0] 29 (0, 0))) := ⟨(by rw [hw]; exact kz_)⟩; have n3_ : Aside0 (w23.heap[gb546]? = some (.cells #[.slice Ao19 y537.length co19, .slice Ao18 y543.length co18] 29 (0, 0))) := ⟨(by rw [hw]; exact (by (with_reducible repeat (first | refine blk_drewN ?_ _ | refine blk_drew ?_ | refine blk_alloc ?_ _)); refine blk_put (cs := #[.slice Ao19 y537.length co19, .slice none 0 0]) ?_ 1 _ rfl; (with_reducible repeat (first | refine blk_drewN ?_ _ | refine blk_drew ?_ | refine blk_alloc ?_ _)); refine blk_put (cs := #[.slice none 0 0, .slice none 0 0]) ?_ 0 _ rfl; exact kb_ BK546.out))⟩; have n4_ : Aside0 (Below w.heap.size w w23) := ⟨(by rw [hw]; exact bl_)⟩; clear hw HO539 HO545 BK533 BK546 HB; have HO539 := n0_; have HO545 := n1_; have BK533 := n2_; have BK546 := n3_; have HB := n4_; clear n0_ n1_ n2_ n3_ n4_; have hcz24_0 : w23.cell? ⟨gb546, 0, none⟩ = some (.slice Ao19 y537.length co19) := bc_ BK546.out 0; have hcz24_1 : w23.cell? ⟨gb546, 1, none⟩ = some (.slice Ao18 y543.length co18) := bc_ BK546.out 1; have hfz24_0 := blk_frozen BK546.out 0; have hfz24_1 := blk_frozen BK546.out 1) | ((with_reducible refine gate_callee (f := 59) rfl ?_); refine goesL_ (some 16) rfl rfl Try.func59 (by kernel_rfl) rfl #[.slice Ao19 y537.length co19, .func (.func 40) #[] #[]] rfl nc_ ?_; (with_reducible refine (sortA.calls k (fun k_ => some k_ = (.slice Ao19 y537.length co19 : Value).ownBlock) (.slice Ao19 y537.length co19) y537 1 t547 t548 w _ ?side1 ?side2 A5.out).mono ?_); (case side1 => repeat (first | (with_reducible first | exact HB.out | apply below_alloc | apply pw_below_drewN | apply below_drew1 | refine below_set ?_ GE533.out | refine below_set ?_ GE546.out) | exact HB.out)); (case side2 => exact Kd.R_tight rfl HO539.out); rintro e w25 ⟨rfl, hy0, hb, hkp⟩; refine ⟨_, rfl, ?_⟩; replace BK533 := Aside0.mk (blk_kept (kb_ BK533.out) hkp (fun hs_ => (fun e_ => (Kd.R_ne HO539.out BK533.out (by decide)) e_) hs_)); replace HO545 := Aside0.mk (Kd.R_mono (ok' := fun k_ => some k_ ≠ (.slice Ao19 y537.length co19 : Value).ownBlock) (Kd.R_keptB (HO545.out) hkp (fun k_ hk_ hs_ => (hk_) hs_)) (fun k_ hk_ => hk_.1)); replace BK546 := Aside0.mk (blk_kept (kb_ BK546.out) hkp (fun hs_ => (fun e_ => (Kd.R_ne HO539.out BK546.out (by decide)) e_) hs_)); replace HO539 := Aside0.mk (Kd.R_reok rfl hy0 (fun k_ e_ => HO539.out.1 k_ e_)); replace HB := Aside0.mk (hb); clear hb; have hcz26_0 : w25.cell? ⟨gb546, 0, none⟩ = some (.slice Ao19 y537.length co19) := bc_ BK546.out 0; have hcz26_1 : w25.cell? ⟨gb546, 1, none⟩ = some (.slice Ao18 y543.length co18) := bc_ BK546.out 1; have hfz26_0 := blk_frozen BK546.out 0; have hfz26_1 := blk_frozen BK546.out 1) | ((with_reducible refine gate_callee (f := 59) rfl ?_); refine goesL_ (some 19) rfl rfl Try.func59 (by kernel_rfl) rfl #[.slice Ao18 y543.length co18, .func (.func 40) #[] #[]] rfl nc_ ?_; (with_reducible refine (sortA.calls k (fun k_ => some k_ = (.slice Ao18 y543.length co18 : Value).ownBlock) (.slice Ao18 y543.length co18) y543 1 t549 t550 w _ ?side1 ?side2 A6.out).mono ?_); (case side1 => repeat (first | (with_reducible first | exact HB.out | apply below_alloc | apply pw_below_drewN | apply below_drew1 | refine below_set ?_ GE533.out | refine below_set ?_ GE546.out) | exact HB.out)); (case side2 => exact Kd.R_tight rfl HO545.out); rintro e w27 ⟨rfl, hy0, hb, hkp⟩; refine ⟨_, rfl, ?_⟩; replace BK533 := Aside0.mk (blk_kept (kb_ BK533.out) hkp (fun hs_ => (fun e_ => (Kd.R_ne HO545.out BK533.out (by decide)) e_) hs_)); replace HO539 := Aside0.mk (Kd.R_mono (ok' := fun k_ => some k_ ≠ (.slice Ao18 y543.length co18 : Value).ownBlock) (Kd.R_keptB (HO539.out) hkp (fun k_ hk_ hs_ => (hk_) hs_)) (fun k_ hk_ => hk_.1)); replace BK546 := Aside0.mk (blk_kept (kb_ BK546.out) hkp (fun hs_ => (fun e_ => (Kd.R_ne HO545.out BK546.out (by decide)) e_) hs_)); replace HO545 := Aside0.mk (Kd.R_reok rfl hy0 (fun k_ e_ => HO545.out.1 k_ e_)); replace HB := Aside0.mk (hb); clear hb; have hcz28_0 : w27.cell? ⟨gb546, 0, none⟩ = some (.slice Ao19 y537.length co19) := bc_ BK546.out 0; have hcz28_1 : w27.cell? ⟨gb546, 1, none⟩ = some (.slice Ao18 y543.length co18) := bc_ BK546.out 1; have hfz28_0 := blk_frozen BK546.out 0; have hfz28_1 := blk_frozen BK546.out 1) | ((with_reducible refine gate_callee (f := 60) rfl ?_); refine goesL_ (some 22) rfl rfl Try.func60 (by kernel_rfl) rfl #[.slice Ao19 y537.length co19] rfl nc_ ?_; (with_reducible refine (impl_Add_60.calls k (fun k_ => some k_ = (.slice Ao19 y537.length co19 : Value).ownBlock) (.slice Ao19 y537.length co19) t548 t551 w _ ?side1 ?side2 A7.out).mono ?_); (case side1 => repeat (first | (with_reducible first | exact HB.out | apply below_alloc | apply pw_below_drewN | apply below_drew1 | refine below_set ?_ GE533.out | refine below_set ?_ GE546.out) | exact HB.out)); (case side2 => exact Kd.R_tight rfl HO539.out); rintro e w29 ⟨v552, rfl, ho0, hb, hkp⟩; refine ⟨_, rfl, ?_⟩; replace BK533 := Aside0.mk (blk_kept (kb_ BK533.out) hkp (fun hs_ => (fun e_ => (Kd.R_ne HO539.out BK533.out (by decide)) e_) hs_)); replace BK546 := Aside0.mk (blk_kept (kb_ BK546.out) hkp (fun hs_ => (fun e_ => (Kd.R_ne HO539.out BK546.out (by decide)) e_) hs_)); have HO553 := Aside0.mk (Kd.R_mono (ok' := fun k_ => some k_ ≠ (.slice Ao18 y543.length co18 : Value).ownBlock) ho0 (fun k_ hk_ => Or.elim hk_ (fun hs_ => fun e_ => (((HO545.out).1 k_ e_.symm)) hs_) (fun hn_ => (Kd.fresh' (Kd.R_lt (kr_ HO545.out)) k_ hn_)))); replace HO545 := Aside0.mk (Kd.R_mono (ok' := fun k_ => some k_ ≠ (v552 : Value).ownBlock) (Kd.R_keptB (HO545.out) hkp (fun k_ hk_ hs_ => (hk_) hs_)) (fun k_ hk_ => fun e_ => Or.elim (ho0.1 k_ e_.symm) (fun hs_ => hk_.2.1 hs_) (fun hn_ => Nat.not_le.2 hk_.2.2 hn_))); replace HB := Aside0.mk (hb); clear HO539 hb ho0; obtain ⟨Ao30, co30, eo30⟩ := Kd.R_slice HO553.out; subst eo30; have hcz31_0 : w29.cell? ⟨gb546, 0, none⟩ = some (.slice Ao19 y537.length co19) := bc_ BK546.out 0; have hcz31_1 : w29.cell? ⟨gb546, 1, none⟩ = some (.slice Ao18 y543.length co18) := bc_ BK546.out 1; have hfz31_0 := blk_frozen BK546.out 0; have hfz31_1 := blk_frozen BK546.out 1) | ((with_reducible refine gate_store (t := 27) (p := 23) rfl ?_); refine store_event (t := 27) (p := 23) (v := ?vo_w32) (w1 := (w29.setCell ⟨gb546, 0, none⟩ (.slice Ao30 t551.length co30))) ?hg ?ho ?hn ?hr ?_; (case ho => rfl); (case hg => rfl); (case hn => rfl); (case hr => first | (go_simp; done) | (go_simp; rfl)); intro w32 hw; have n0_ : Aside0 (Kd.R k48 48 w32 w.heap.size (fun k_ => some k_ ≠ (.slice Ao30 t551.length co30 : Value).ownBlock) (.slice Ao18 y543.length co18) t550) := ⟨(by rw [hw]; exact (by exact kr_ (Kd.R_mono (Kd.R_far (p := ⟨gb546, 0, none⟩) (Kd.R_types HO545.out BK546.out (by decide)) (fun _ hk => hk.2) (.slice Ao30 t551.length co30)) (fun _ hk => hk.1))))⟩; have n1_ : Aside0 (Kd.R k48 48 w32 w.heap.size (fun k_ => some k_ ≠ (.slice Ao18 y543.length co18 : Value).ownBlock) (.slice Ao30 t551.length co30) t551) := ⟨(by rw [hw]; exact (by exact kr_ (Kd.R_mono (Kd.R_far (p := ⟨gb546, 0, none⟩) (Kd.R_types HO553.out BK546.out (by decide)) (fun _ hk => hk.2) (.slice Ao30 t551.length co30)) (fun _ hk => hk.1))))⟩; have n2_ : Aside0 (w32.heap[gb533]? = some (.cells #[.slice none 0 0, .slice none 0 0] 29 (0, 0))) := ⟨(by rw [hw]; exact kz_)⟩; have n3_ : Aside0 (w32.heap[gb546]? = some (.cells #[.slice Ao30 t551.length co30, .slice Ao18 y543.length co18] 29 (0, 0))) := ⟨(by rw [hw]; exact (by (with_reducible repeat (first | refine blk_drewN ?_ _ | refine blk_drew ?_ | refine blk_alloc ?_ _)); refine blk_put (cs := #[.slice Ao19 y537.length co19, .slice Ao18 y543.length co18]) ?_ 0 _ rfl; exact kb_ BK546.out))⟩; have n4_ : Aside0 (Below w.heap.size w w32) := ⟨(by rw [hw]; exact bl_)⟩; clear hw HO545 HO553 BK533 BK546 HB; have HO545 := n0_; have HO553 := n1_; have BK533 := n2_; have BK546 := n3_; have HB := n4_; clear n0_ n1_ n2_ n3_ n4_; have hcz33_0 : w32.cell? ⟨gb546, 0, none⟩ = some (.slice Ao30 t551.length co30) := bc_ BK546.out 0; have hcz33_1 : w32.cell? ⟨gb546, 1, none⟩ = some (.slice Ao18 y543.length co18) := bc_ BK546.out 1; have hfz33_0 := blk_frozen BK546.out 0; have hfz33_1 := blk_frozen BK546.out 1) | ((with_reducible refine gate_callee (f := 60) rfl ?_); refine goesL_ (some 26) rfl rfl Try.func60 (by kernel_rfl) rfl #[.slice Ao18 y543.length co18] rfl nc_ ?_; (with_reducible refine (impl_Add_60.calls k (fun k_ => some k_ = (.slice Ao18 y543.length co18 : Value).ownBlock) (.slice Ao18 y543.length co18) t550 t554 w _ ?side1 ?side2 A8.out).mono ?_); (case side1 => repeat (first | (with_reducible first | exact HB.out | apply below_alloc | apply pw_below_drewN | apply below_drew1 | refine below_set ?_ GE533.out | refine below_set ?_ GE546.out) | exact HB.out)); (case side2 => exact Kd.R_tight rfl HO545.out); rintro e w34 ⟨v555, rfl, ho0, hb, hkp⟩; refine ⟨_, rfl, ?_⟩; replace BK533 := Aside0.mk (blk_kept (kb_ BK533.out) hkp (fun hs_ => (fun e_ => (Kd.R_ne HO545.out BK533.out (by decide)) e_) hs_)); replace BK546 := Aside0.mk (blk_kept (kb_ BK546.out) hkp (fun hs_ => (fun e_ => (Kd.R_ne HO545.out BK546.out (by decide)) e_) hs_)); have HO556 := Aside0.mk (Kd.R_mono (ok' := fun k_ => some k_ ≠ (.slice Ao30 t551.length co30 : Value).ownBlock) ho0 (fun k_ hk_ => Or.elim hk_ (fun hs_ => fun e_ => (((HO553.out).1 k_ e_.symm)) hs_) (fun hn_ => (Kd.fresh' (Kd.R_lt (kr_ HO553.out)) k_ hn_)))); replace HO553 := Aside0.mk (Kd.R_mono (ok' := fun k_ => some k_ ≠ (v555 : Value).ownBlock) (Kd.R_keptB (HO553.out) hkp (fun k_ hk_ hs_ => (hk_) hs_)) (fun k_ hk_ => fun e_ => Or.elim (ho0.1 k_ e_.symm) (fun hs_ => hk_.2.1 hs_) (fun hn_ => Nat.not_le.2 hk_.2.2 hn_))); replace HB := Aside0.mk (hb); clear HO545 hb ho0; obtain ⟨Ao35, co35, eo35⟩ := Kd.R_slice HO556.out; subst eo35; have hcz36_0 : w34.cell? ⟨gb546, 0, none⟩ = some (.slice Ao30 t551.length co30) := bc_ BK546.out 0; have hcz36_1 : w34.cell? ⟨gb546, 1, none⟩ = some (.slice Ao18 y543.length co18) := bc_ BK546.out 1; have hfz36_0 := blk_frozen BK546.out 0; have hfz36_1 := blk_frozen BK546.out 1) | ((with_reducible refine gate_callee (f := 30) rfl ?_); refine goesL_ (some 29) rfl rfl Try.func30 (by kernel_rfl) rfl #[.agg #[.slice Ao30 t551.length co30, .slice Ao35 t554.length co35]] rfl nc_ ?_; (with_reducible refine (impl_isBag.calls k _ _ t551 _ _ t554 true _ ?side1 ?side2 ?side3 ?side4 A9.out).mono ?_); (case side1 => refine (Kd.R_reads' (e := 48) (base := w.heap.size) (ok := fun k_ => some k_ ≠ (.slice Ao35 t554.length co35 : Value).ownBlock) (n := t551.length) (c := co30) ?_).2.2; exact (by exact kr_ ((Kd.R_mono (Kd.R_far (p := ⟨gb546, 1, none⟩) (Kd.R_types HO553.out BK546.out (by decide)) (fun _ hk => hk.2) (.slice Ao35 t554.length co35)) (fun _ h_ => h_.1))))); (case side2 => exact (Kd.R_reads' HO553.out).2.1); (case side3 => refine (Kd.R_reads' (e := 48) (base := w.heap.size) (ok := fun k_ => some k_ ≠ (.slice Ao30 t551.length co30 : Value).ownBlock) (n := t554.length) (c := co35) ?_).2.2; exact (by exact kr_ ((Kd.R_mono (Kd.R_far (p := ⟨gb546, 1, none⟩) (Kd.R_types HO556.out BK546.out (by decide)) (fun _ hk => hk.2) (.slice Ao35 t554.length co35)) (fun _ h_ => h_.1))))); (case side4 => exact (Kd.R_reads' HO556.out).2.1); rintro e w37 ⟨rfl, hb⟩; refine ⟨_, rfl, ?_⟩; replace HO553 := Aside0.mk (Kd.R_below (by exact kr_ ((Kd.R_mono (Kd.R_far (p := ⟨gb546, 1, none⟩) (Kd.R_types HO553.out BK546.out (by decide)) (fun _ hk => hk.2) (.slice Ao35 t554.length co35)) (fun _ h_ => h_.1)))) hb); replace HO556 := Aside0.mk (Kd.R_below (by exact kr_ ((Kd.R_mono (Kd.R_far (p := ⟨gb546, 1, none⟩) (Kd.R_types HO556.out BK546.out (by decide)) (fun _ hk => hk.2) (.slice Ao35 t554.length co35)) (fun _ h_ => h_.1)))) hb); replace BK533 := Aside0.mk (blk_below (g := gb533) (o := .cells #[.slice none 0 0, .slice none 0 0] 29 (0, 0)) kz_ hb); replace BK546 := Aside0.mk (blk_below (g := gb546) (o := .cells #[.slice Ao30 t551.length co30, .slice Ao35 t554.length co35] 29 (0, 0)) (by (with_reducible repeat (first | refine blk_drewN ?_ _ | refine blk_drew ?_ | refine blk_alloc ?_ _)); refine blk_put (cs := #[.slice Ao30 t551.length co30, .slice Ao18 y543.length co18]) ?_ 1 _ rfl; exact kb_ BK546.out) hb); replace HB := Aside0.mk (below_step bl_ hb); clear hb; have hcz38_0 : w37.cell? ⟨gb546, 0, none⟩ = some (.slice Ao30 t551.length co30) := bc_ BK546.out 0; have hcz38_1 : w37.cell? ⟨gb546, 1, none⟩ = some (.slice Ao35 t554.length co35) := bc_ BK546.out 1; have hfz38_0 := blk_frozen BK546.out 0; have hfz38_1 := blk_frozen BK546.out 1; have hcz39_0 : w37.cell? ⟨gb533, 0, none⟩ = some (.slice none 0 0) := bc_ BK533.out 0; have hcz39_1 : w37.cell? ⟨gb533, 1, none⟩ = some (.slice none 0 0) := bc_ BK533.out 1; have hfz39_0 := blk_frozen BK533.out 0; have hfz39_1 := blk_frozen BK533.out 1))
 refine bodyPost_ret (results_ct rfl _ _ gb533 29 #[.slice Ao30 t551.length co30, .slice Ao35 t554.length co35] (0, 0) _ rfl (by (with_reducible repeat (first | refine blk_drewN ?_ _ | refine blk_drew ?_ | refine blk_alloc ?_ _)); refine blk_put (cs := #[.slice Ao30 t551.length co30, .slice none 0 0]) ?_ 1 _ rfl; (with_reducible repeat (first | refine blk_drewN ?_ _ | refine blk_drew ?_ | refine blk_alloc ?_ _)); refine blk_put (cs := #[.slice none 0 0, .slice none 0 0]) ?_ 0 _ rfl; exact kb_ BK533.out) Try.underlying29 rfl (by kernel_rfl)) rfl ?_
 exact ⟨_, _, ng_, by exact kr_ (Kd.R_mono (Kd.R_far (p := ⟨gb533, 1, none⟩) (Kd.R_far (p := ⟨gb533, 0, none⟩) (Kd.R_types HO553.out BK533.out (by decide)) (fun _ hk => hk.2) (.slice Ao30 t551.length co30)) (fun _ hk => hk.2) (.slice Ao35 t554.length co35)) (fun _ hk => hk.1)), by exact kr_ (Kd.R_mono (Kd.R_far (p := ⟨gb533, 1, none⟩) (Kd.R_far (p := ⟨gb533, 0, none⟩) (Kd.R_types HO556.out BK533.out (by decide)) (fun _ hk => hk.2) (.slice Ao30 t551.length co30)) (fun _ hk => hk.2) (.slice Ao35 t554.length co35)) (fun _ hk => hk.1)), bl_⟩

end Go.Proofs.Ytdnapgnnliibfaa.PRC
