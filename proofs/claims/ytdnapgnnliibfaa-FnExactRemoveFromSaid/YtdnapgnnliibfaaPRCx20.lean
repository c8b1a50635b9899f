/- What this text proves: the machine calls of these functions return what the plain functions say. Conditions: as each theorem says. Printed by a program of this session out of the translation. -/
import Derived.Test.YtdnapgnnliibfaaPRCx0
import Derived.Test.YtdnapgnnliibfaaPRCx3
import Derived.Test.YtdnapgnnliibfaaPRCx8
import Derived.Test.YtdnapgnnliibfaaPRCx19
namespace Go.Proofs.Ytdnapgnnliibfaa.PRC
open Go.RowKit Go.Proofs.YtdnapgnnliibfaaW.PrintWords Go.Proofs.YtdnapgnnliibfaaW.PrintLast Go.Proofs.YtdnapgnnliibfaaW.PrintMore
attribute [local go_sem] max2_int min2_int max_two min_two max_three min_three max_four min_four   -- for this text's walks alone
set_option linter.unusedVariables false
set_option linter.unusedSimpArgs false

/-! ### impl_RemoveFrom: function 14 -/
def impl_RemoveFrom.l0 : Nat → ByteArray → List (S48) → List (S48) → List (S48) → Int → Int → Option ((List (S48)) × (List (S48)) × Bool)
 | 0, _, _, _, _, _, _ => none
 | k + 1, x1, x6, x7, x20, x21, x22 => if x22 < x21 then (if 0 ≤ x22 then (if x22 < (x20.length : Int) then (if ((rd_T48 x20 x22).f0).toList = x1.toList then (if x7.length < 4398046511104 then (impl_RemoveFrom.l0 k x1 x6 (x7 ++ [(⟨(rd_T48 x20 x22).f0, (rd_T48 x20 x22).f1, (rd_T48 x20 x22).f2⟩ : S48)]) x20 x21 (wrap64 (x22 + 1))) else (none)) else (if x6.length < 4398046511104 then (impl_RemoveFrom.l0 k x1 (x6 ++ [(⟨(rd_T48 x20 x22).f0, (rd_T48 x20 x22).f1, (rd_T48 x20 x22).f2⟩ : S48)]) x7 x20 x21 (wrap64 (x22 + 1))) else (none))) else (none)) else (none)) else ((impl_goodBag.f k x6 x7).bind fun bt578 => (some (bt578.1, bt578.2.1, bt578.2.2)))
def impl_RemoveFrom.f (k : Nat) (l0_0 : List (S48)) (l0_1 : List (S48)) (a1 : ByteArray) : Option ((List (S48)) × (List (S48)) × Bool) := (impl_isBag.f k l0_0 l0_1).bind fun t560 => (if t560 = true then ((some (([] : List (S48)) : List (S48))).bind fun y564 => (if y564.length + l0_1.length < 4398046511104 then (impl_RemoveFrom.l0 k a1 (([] : List (S48))) (y564 ++ l0_1) l0_0 (l0_0.length : Int) 0) else (none))) else (some (([] : List (S48)), ([] : List (S48)), false)))
theorem impl_RemoveFrom.mono_l : ∀ k, (∀ y0 y1 y2 y3 y4 y5, LeO (impl_RemoveFrom.l0 k y0 y1 y2 y3 y4 y5) (impl_RemoveFrom.l0 (k + 1) y0 y1 y2 y3 y4 y5))
 | 0 => fun _ _ _ _ _ _ r h => by simp [impl_RemoveFrom.l0] at h
 | k + 1 => by
  have ih0 := impl_RemoveFrom.mono_l k
  ·intro y0 y1 y2 y3 y4 y5
   unfold impl_RemoveFrom.l0
   repeat' first
   | (with_reducible exact ih0 _ _ _ _ _ _)
   | (with_reducible exact impl_goodBag.mono _ _ _)
   | (with_reducible exact impl_isBag.mono _ _ _)
   | (with_reducible exact LeO.refl _)
   | (with_reducible exact LeO.none _)
   | (with_reducible refine LeO.ite ?_ ?_)
   | (with_reducible refine LeO.bind ?_ (fun _ => ?_))
   | exact ih0 _ _ _ _ _ _
   | exact impl_goodBag.mono _ _ _
   | exact impl_isBag.mono _ _ _
   | exact LeO.none _
   | refine LeO.ite ?_ ?_
   | refine LeO.bind ?_ (fun _ => ?_)
theorem impl_RemoveFrom.mono : ∀ a0 a1 a2 k, LeO (impl_RemoveFrom.f k a0 a1 a2) (impl_RemoveFrom.f (k + 1) a0 a1 a2) := by
 intro a0 a1 a2 k
 have ih0 := impl_RemoveFrom.mono_l k
 unfold impl_RemoveFrom.f
 repeat' first
   | (with_reducible exact ih0 _ _ _ _ _ _)
   | (with_reducible exact impl_goodBag.mono _ _ _)
   | (with_reducible exact impl_isBag.mono _ _ _)
   | (with_reducible exact LeO.refl _)
   | (with_reducible exact LeO.none _)
   | (with_reducible refine LeO.ite ?_ ?_)
   | (with_reducible refine LeO.bind ?_ (fun _ => ?_))
   | exact ih0 _ _ _ _ _ _
   | exact impl_goodBag.mono _ _ _
   | exact impl_isBag.mono _ _ _
   | exact LeO.none _
   | refine LeO.ite ?_ ?_
   | refine LeO.bind ?_ (fun _ => ?_)
set_option maxHeartbeats 8000000 in
set_option maxRecDepth 100000 in
theorem impl_RemoveFrom.calls (k : Nat) (A0_0 : Option Addr) (c0_0 : Nat) (l0_0 : List (S48)) (A0_1 : Option Addr) (c0_1 : Nat) (l0_1 : List (S48)) (a1 : ByteArray) (r1 : List (S48)) (r2 : List (S48)) (r3 : Bool) (w : World) (hr0_0 : Kd.C k48 w A0_0 l0_0.length l0_0) (hc0_0 : l0_0.length ≤ c0_0) (hr0_1 : Kd.C k48 w A0_1 l0_1.length l0_1) (hc0_1 : l0_1.length ≤ c0_1) (h : impl_RemoveFrom.f k l0_0 l0_1 a1 = some (r1, r2, r3)) :
  Calls Try.prog 14 #[.agg #[.slice A0_0 l0_0.length c0_0, .slice A0_1 l0_1.length c0_1], .string a1] w fun e w' => ∃ v0_ v1_ : Value, e = .returned (.tuple #[.agg #[v0_, v1_], .bool r3]) ∧ Kd.R k48 48 w' w.heap.size (fun k_ => some k_ ≠ (v1_ : Value).ownBlock) v0_ r1 ∧ Kd.R k48 48 w' w.heap.size (fun k_ => some k_ ≠ (v0_ : Value).ownBlock) v1_ r2 ∧ Below w.heap.size w w' := by
 have hu29 := Try.underlying29
 have hu48 := Try.underlying48
 have HR0_0 := Aside0.mk hr0_0
 have HC0_0 := Aside0.mk hc0_0
 clear hr0_0 hc0_0
 have HR0_1 := Aside0.mk hr0_1
 have HC0_1 := Aside0.mk hc0_1
 clear hr0_1 hc0_1
 have HB := Aside0.mk (Below.refl w.heap.size w)
 have H : ((impl_isBag.f k l0_0 l0_1).bind fun t560 => (if t560 = true then ((some (([] : List (S48)) : List (S48))).bind fun y564 => (if y564.length + l0_1.length < 4398046511104 then (impl_RemoveFrom.l0 k a1 (([] : List (S48))) (y564 ++ l0_1) l0_0 (l0_0.length : Int) 0) else (none))) else (some (([] : List (S48)), ([] : List (S48)), false)))) = some (r1, r2, r3) := h
 clear h
 replace H := Option.bind_eq_some_iff.mp H
 obtain ⟨t560, A30, H⟩ := H
 replace H : (if t560 = true then ((some (([] : List (S48)) : List (S48))).bind fun y564 => (if y564.length + l0_1.length < 4398046511104 then (impl_RemoveFrom.l0 k a1 (([] : List (S48))) (y564 ++ l0_1) l0_0 (l0_0.length : Int) 0) else (none))) else (some (([] : List (S48)), ([] : List (S48)), false))) = some (r1, r2, r3) := H
 have A3 := Aside0.mk A30
 clear A30
 by_cases c4 : t560 = true
 rotate_left
 ·replace c4 := Bool.eq_false_iff.mpr c4
  subst c4
  have H1 : (some (([] : List (S48)), ([] : List (S48)), false)) = some (r1, r2, r3) := by rw [if_neg (show ¬ (false = true) by decide)] at H; exact H
  clear H
  have H := H1
  clear H1
  simp only [Option.some.injEq, Prod.mk.injEq] at H
  obtain ⟨rfl, rfl, rfl⟩ := H
  go_enter Try.func14, Try.ntmps14
  go_wp2_with (first | ((with_reducible refine gate_dst (N := 2) rfl ?_); refine box_event rfl (N := 2) rfl (cs := #[.slice A0_0 l0_0.length c0_0, .slice A0_1 l0_1.length c0_1]) (t := 29) gs_ ?_; intro gb558 hg w42 hbox hb; have BK558 := Aside0.mk (hbox); have GW558 := Aside0.mk ((by rw [hg]; exact bz_ : w.heap.size ≤ gb558)); have GE558 := GW558; replace HB := Aside0.mk (below_step bl_ hb); clear hb hbox hg) | ((with_reducible refine gate_dst (N := 4) rfl ?_); refine box_event rfl (N := 4) rfl (cs := #[.slice none 0 0, .slice none 0 0]) (t := 29) gs_ ?_; intro gb559 hg w43 hbox hb; have BK559 := Aside0.mk (hbox); have GW559 := Aside0.mk ((by rw [hg]; exact bz_ : w.heap.size ≤ gb559)); have GE559 := GW559; replace HB := Aside0.mk (below_step bl_ hb); have NB558_559 := nl_ hg BK558; have NB559_558 := nm_ hg BK558; replace BK558 := bb_ BK558 hb; clear hb hbox hg; have hnb44 := NB558_559.out; have hnc44 := NB559_558.out; have hcz45_0 : w43.cell? ⟨gb558, 0, none⟩ = some (.slice A0_0 l0_0.length c0_0) := bc_ BK558.out 0; have hcz45_1 : w43.cell? ⟨gb558, 1, none⟩ = some (.slice A0_1 l0_1.length c0_1) := bc_ BK558.out 1; have hfz45_0 := blk_frozen BK558.out 0; have hfz45_1 := blk_frozen BK558.out 1) | ((with_reducible refine gate_callee (f := 30) rfl ?_); refine goesL_ (some 11) rfl rfl Try.func30 (by kernel_rfl) rfl #[.agg #[.slice A0_0 l0_0.length c0_0, .slice A0_1 l0_1.length c0_1]] rfl nc_ ?_; (with_reducible refine (impl_isBag.calls k _ _ l0_0 _ _ l0_1 false _ ?side1 ?side2 ?side3 ?side4 A3.out).mono ?_); (case side1 => exact kc_ (Kd.C_below HR0_0.out HB.out)); (case side2 => exact HC0_0.out); (case side3 => exact kc_ (Kd.C_below HR0_1.out HB.out)); (case side4 => exact HC0_1.out); rintro e w46 ⟨rfl, hb⟩; refine ⟨_, rfl, ?_⟩; replace BK558 := bb_ BK558 hb; replace BK559 := bb_ BK559 hb; replace HB := Aside0.mk (below_step bl_ hb); clear hb; have hcz47_0 : w46.cell? ⟨gb559, 0, none⟩ = some (.slice none 0 0) := bc_ BK559.out 0; have hcz47_1 : w46.cell? ⟨gb559, 1, none⟩ = some (.slice none 0 0) := bc_ BK559.out 1; have hfz47_0 := blk_frozen BK559.out 0; have hfz47_1 := blk_frozen BK559.out 1))
  refine bodyPost_ret (results_ct rfl _ _ gb559 29 #[.slice none 0 0, .slice none 0 0] (0, 0) _ rfl (by (with_reducible repeat (first | refine blk_drewN ?_ _ | refine blk_drew ?_ | refine blk_alloc ?_ _)); refine blk_put (cs := #[.slice none 0 0, .slice none 0 0]) ?_ 1 _ rfl; (with_reducible repeat (first | refine blk_drewN ?_ _ | refine blk_drew ?_ | refine blk_alloc ?_ _)); refine blk_put (cs := #[.slice none 0 0, .slice none 0 0]) ?_ 0 _ rfl; exact kb_ BK559.out) Try.underlying29 rfl (by kernel_rfl)) rfl ?_
  exact ⟨_, _, ng_, by first | exact Kd.R_nil _ _ _ _ _ | exact Kd.N_nil _ _ _ _ _ | exact Kd.V_nil _ _ _ _ _ | exact Kd.Q_nil _ _ _ _ _ | exact Kd.S_nil _ _ _ _ _, by first | exact Kd.R_nil _ _ _ _ _ | exact Kd.N_nil _ _ _ _ _ | exact Kd.V_nil _ _ _ _ _ | exact Kd.Q_nil _ _ _ _ _ | exact Kd.S_nil _ _ _ _ _, bl_⟩
 subst c4
 have H1 : ((some (([] : List (S48)) : List (S48))).bind fun y564 => (if y564.length + l0_1.length < 4398046511104 then (impl_RemoveFrom.l0 k a1 (([] : List (S48))) (y564 ++ l0_1) l0_0 (l0_0.length : Int) 0) else (none))) = some (r1, r2, r3) := by rw [if_pos rfl] at H; exact H
 clear H
 have H := H1
 clear H1
 obtain ⟨y561, hy561⟩ : ∃ y_ : List (S48), y_ = (([] : List (S48))) := ⟨_, rfl⟩
 replace H : ((some (([] : List (S48)) : List (S48))).bind fun y564 => (if y564.length + l0_1.length < 4398046511104 then (impl_RemoveFrom.l0 k a1 y561 (y564 ++ l0_1) l0_0 (l0_0.length : Int) 0) else (none))) = some (r1, r2, r3) := by first | (rw [hy561]; with_reducible exact H) | (have H2_ := (Option.bind_some _ _).symm.trans H; rw [hy561]; with_reducible exact H2_) | (have H2_ := (Option.bind_some _ _).symm.trans H; with_reducible exact H2_) | with_reducible exact H | (rw [hy561]; exact H) | exact H
 have Ny561 := Aside0.mk hy561
 clear hy561
 obtain ⟨y564, hy564⟩ : ∃ y_ : List (S48), y_ = (([] : List (S48))) := ⟨_, rfl⟩
 replace H : (if y564.length + l0_1.length < 4398046511104 then (impl_RemoveFrom.l0 k a1 y561 (y564 ++ l0_1) l0_0 (l0_0.length : Int) 0) else (none)) = some (r1, r2, r3) := by first | (rw [hy564]; with_reducible exact H) | (have H2_ := (Option.bind_some _ _).symm.trans H; rw [hy564]; with_reducible exact H2_) | (have H2_ := (Option.bind_some _ _).symm.trans H; with_reducible exact H2_) | with_reducible exact H | (rw [hy564]; exact H) | exact H
 have Ny564 := Aside0.mk hy564
 clear hy564
 by_cases c5 : y564.length + l0_1.length < 4398046511104
 rotate_left
 ·rw [if_neg c5] at H
  exact absurd H (by simp)
 rw [if_pos c5] at H
 have LMc5 := Aside0.mk c5
 clear c5
 obtain ⟨y567, hy567⟩ : ∃ y_ : List (S48), y_ = (y564 ++ l0_1) := ⟨_, rfl⟩
 replace H : (impl_RemoveFrom.l0 k a1 y561 y567 l0_0 (l0_0.length : Int) 0) = some (r1, r2, r3) := by first | (rw [hy567]; with_reducible exact H) | (have H2_ := (Option.bind_some _ _).symm.trans H; rw [hy567]; with_reducible exact H2_) | (have H2_ := (Option.bind_some _ _).symm.trans H; with_reducible exact H2_) | with_reducible exact H | (rw [hy567]; exact H) | exact H
 have Ny567 := Aside0.mk hy567
 clear hy567
 have H' := Aside0.mk H
 clear H
 go_enter Try.func14, Try.ntmps14
 go_wp2_with (first | ((with_reducible refine gate_dst (N := 2) rfl ?_); refine box_event rfl (N := 2) rfl (cs := #[.slice A0_0 l0_0.length c0_0, .slice A0_1 l0_1.length c0_1]) (t := 29) gs_ ?_; intro gb558 hg w6 hbox hb; have BK558 := Aside0.mk (hbox); have GW558 := Aside0.mk ((by rw [hg]; exact bz_ : w.heap.size ≤ gb558)); have GE558 := GW558; replace HB := Aside0.mk (below_step bl_ hb); clear hb hbox hg) | ((with_reducible refine gate_dst (N := 4) rfl ?_); refine box_event rfl (N := 4) rfl (cs := #[.slice none 0 0, .slice none 0 0]) (t := 29) gs_ ?_; intro gb559 hg w7 hbox hb; have BK559 := Aside0.mk (hbox); have GW559 := Aside0.mk ((by rw [hg]; exact bz_ : w.heap.size ≤ gb559)); have GE559 := GW559; replace HB := Aside0.mk (below_step bl_ hb); have NB558_559 := nl_ hg BK558; have NB559_558 := nm_ hg BK558; replace BK558 := bb_ BK558 hb; clear hb hbox hg; have hnb8 := NB558_559.out; have hnc8 := NB559_558.out; have hcz9_0 : w7.cell? ⟨gb558, 0, none⟩ = some (.slice A0_0 l0_0.length c0_0) := bc_ BK558.out 0; have hcz9_1 : w7.cell? ⟨gb558, 1, none⟩ = some (.slice A0_1 l0_1.length c0_1) := bc_ BK558.out 1; have hfz9_0 := blk_frozen BK558.out 0; have hfz9_1 := blk_frozen BK558.out 1) | ((with_reducible refine gate_callee (f := 30) rfl ?_); refine goesL_ (some 11) rfl rfl Try.func30 (by kernel_rfl) rfl #[.agg #[.slice A0_0 l0_0.length c0_0, .slice A0_1 l0_1.length c0_1]] rfl nc_ ?_; (with_reducible refine (impl_isBag.calls k _ _ l0_0 _ _ l0_1 true _ ?side1 ?side2 ?side3 ?side4 A3.out).mono ?_); (case side1 => exact kc_ (Kd.C_below HR0_0.out HB.out)); (case side2 => exact HC0_0.out); (case side3 => exact kc_ (Kd.C_below HR0_1.out HB.out)); (case side4 => exact HC0_1.out); rintro e w10 ⟨rfl, hb⟩; refine ⟨_, rfl, ?_⟩; replace BK558 := bb_ BK558 hb; replace BK559 := bb_ BK559 hb; replace HB := Aside0.mk (below_step bl_ hb); clear hb) | ((with_reducible refine gate_dst (N := 14) rfl ?_); refine Kd.R_lit k48 _ 48 rfl (N := 14) rfl (xs := ([] : List (S48))) (inner := []) (ok := fun _ => True) (okp := fun _ => True) gs_ ?hp (fun _ hk => hk) trivial (Below.refl _ _) (Nat.le_refl _) (by simp) ?_; (case hp => exact (Reps.none _ _)); intro v562 w11 ho12 hb hg_ hnew_; clear hg_ hnew_; (first | rw [← Ny561.out] at ho12 | (simp only [Int.reduceToNat] at ho12; rw [← Ny561.out] at ho12)); have HO563 := Aside0.mk (Kd.R_lower ho12 bz_); replace BK558 := bb_ BK558 hb; replace BK559 := bb_ BK559 hb; replace HB := Aside0.mk (below_step bl_ hb); clear hb ho12) | ((with_reducible refine gate_dst (N := 15) rfl ?_); refine Kd.R_lit k48 _ 48 rfl (N := 15) rfl (xs := ([] : List (S48))) (inner := []) (ok := fun _ => True) (okp := fun _ => True) gs_ ?hp (fun _ hk => hk) trivial (Below.refl _ _) (Nat.le_refl _) (by simp) ?_; (case hp => exact (Reps.none _ _)); intro v565 w13 ho14 hb hg_ hnew_; clear hg_ hnew_; (first | rw [← Ny564.out] at ho14 | (simp only [Int.reduceToNat] at ho14; rw [← Ny564.out] at ho14)); have HO566 := Aside0.mk (Kd.R_lower (rn_ ho14 HO563.out) bz_); replace HO563 := Aside0.mk (Kd.R_elder' (kr_ HO563.out) (Kd.R_base ho14) hb); replace BK558 := bb_ BK558 hb; replace BK559 := bb_ BK559 hb; replace HB := Aside0.mk (below_step bl_ hb); clear hb ho14; have hcz15_0 : w13.cell? ⟨gb558, 0, none⟩ = some (.slice A0_0 l0_0.length c0_0) := bc_ BK558.out 0; have hcz15_1 : w13.cell? ⟨gb558, 1, none⟩ = some (.slice A0_1 l0_1.length c0_1) := bc_ BK558.out 1; have hfz15_0 := blk_frozen BK558.out 0; have hfz15_1 := blk_frozen BK558.out 1) | ((with_reducible refine gate_builtin (b := .append) (xs := #[.tmp 15, .tmp 17]) rfl ?_); at_builtin; refine Kd.R_append_rows k48 (w0 := w) w.heap.size rfl (.tmp 15) (.tmp 17) 27 48 (.agg #[(.string ⟨#[]⟩), (.int .i64 0), (.int .i64 0)]) 32 rfl Try.underlying27 info48 rfl (by decide) (by omega) v565 y564 l0_1 _ _ _ (fun k_ => some k_ ≠ (v562 : Value).ownBlock) (fun _ => False) rfl rfl ?aO ?aR (fun _ _ h => h) (fun _ h => h.elim) ?aF ?aB ?aS ?aL ?_; (case aR => exact kc_ (Kd.C_below HR0_1.out HB.out)); (case aB => exact bl_); (case aF => exact (fun k_ hk => Kd.fresh' (Kd.R_lt (kr_ HO563.out)) k_ hk)); (case aO => exact (kp_ HO566.out)); (case aS => exact bz_); (case aL => have := LMc5.out; omega); intro v568 w16 ho hb hg hat; rw [← Ny567.out] at ho; replace BK558 := bgr_ BK558 hg HO566 BK558; replace BK559 := bgr_ BK559 hg HO566 BK559; replace HO563 := Aside0.mk (Kd.R_after (ok := (fun _ => True)) (kr_ HO563.out) hg hat); replace HB := Aside0.mk (hb); have HO569 := Aside0.mk (ho); clear HO566 ho hb hg hat; have hcz17_0 : w16.cell? ⟨gb558, 0, none⟩ = some (.slice A0_0 l0_0.length c0_0) := bc_ BK558.out 0; have hcz17_1 : w16.cell? ⟨gb558, 1, none⟩ = some (.slice A0_1 l0_1.length c0_1) := bc_ BK558.out 1; have hfz17_0 := blk_frozen BK558.out 0; have hfz17_1 := blk_frozen BK558.out 1))
 go_loopg [6, 7, 22] k (fun kq v6 v7 v22 w' => ∃ (x6_1 : List (S48)) (x7_1 : List (S48)) (x22_1 : Int), v22 = .int .i64 x22_1 ∧ Aside0 (impl_RemoveFrom.l0 kq a1 x6_1 x7_1 l0_0 (l0_0.length : Int) x22_1 = some (r1, r2, r3)) ∧ Aside0 (kq ≤ k) ∧ Aside0 (Kd.R k48 48 w' w.heap.size (fun k_ => some k_ ≠ (v7 : Value).ownBlock) v6 x6_1) ∧ Aside0 (Kd.R k48 48 w' w.heap.size (fun k_ => some k_ ≠ (v6 : Value).ownBlock) v7 x7_1) ∧ Aside0 (w'.heap[gb558]? = some (.cells #[(.slice A0_0 l0_0.length c0_0), (.slice A0_1 l0_1.length c0_1)] 29 (0, 0))) ∧ Aside0 (w'.heap[gb559]? = some (.cells #[(.slice none 0 0), (.slice none 0 0)] 29 (0, 0))) ∧ Aside0 (Below w.heap.size w w'))
 case atStart => exact ⟨(y561), (y567), (0), (by first | rfl | (simp; done) | (simp [*]; done)), H', ⟨Nat.le_refl _⟩, ⟨kp_ HO563.out⟩, ⟨by exact kr_ HO569.out⟩, ⟨by exact kb_ BK558.out⟩, ⟨by exact kb_ BK559.out⟩, ⟨bl_⟩⟩
 clear H'
 try clear c1
 try clear p2
 try clear c3
 try clear c4
 try clear c5
 try clear c8
 try clear c14
 try clear hcz15_0
 try clear hcz15_1
 try clear hcz17_0
 try clear hcz17_1
 try clear hcz9_0
 try clear hcz9_1
 try clear hfz15_0
 try clear hfz15_1
 try clear hfz17_0
 try clear hfz17_1
 try clear hfz9_0
 try clear hfz9_1
 obtain ⟨x6_1, x7_1, x22_1, rfl, HA, HK1, HO_6, HO_7, BK558, BK559, HB⟩ := hrel
 cases gk with
 | zero => exact absurd HA.out (by simp [impl_RemoveFrom.l0])
 | succ k1 => ?_
 have H := HA.out
 clear HA
 simp only [impl_RemoveFrom.l0] at H
 by_cases c18 : x22_1 < (l0_0.length : Int)
 rotate_left
 ·rw [if_neg c18] at H
  have c18b0 : decide (x22_1 < (l0_0.length : Int)) = false := decide_eq_false c18
  clear c18
  replace H := Option.bind_eq_some_iff.mp H
  obtain ⟨⟨t578, t581, t584⟩, A340, H⟩ := H
  replace H : (some (t578, t581, t584)) = some (r1, r2, r3) := H
  have A34 := Aside0.mk A340
  clear A340
  simp only [Option.some.injEq, Prod.mk.injEq] at H
  obtain ⟨rfl, rfl, rfl⟩ := H
  obtain ⟨Ao35, co35, eo35⟩ := Kd.R_slice HO_6.out
  subst eo35
  obtain ⟨Ao36, co36, eo36⟩ := Kd.R_slice HO_7.out
  subst eo36
  go_wp2_with (first | ((with_reducible refine gate_callee (f := 33) rfl ?_); refine goesL_ (some 41) rfl rfl Try.func33 (by kernel_rfl) rfl #[.slice Ao35 x6_1.length co35, .slice Ao36 x7_1.length co36] rfl nc_ ?_; (with_reducible refine (impl_goodBag.calls k1 _ _ x6_1 _ _ x7_1 t578 t581 t584 _ ?side1 ?side2 ?side3 ?side4 A34.out).mono ?_); (case side1 => exact kc_ (Kd.R_reads' HO_6.out).2.2); (case side2 => exact (Kd.R_reads' HO_6.out).2.1); (case side3 => exact kc_ (Kd.R_reads' HO_7.out).2.2); (case side4 => exact (Kd.R_reads' HO_7.out).2.1); rintro e w37 ⟨v579, v582, rfl, ho0, ho1, hb⟩; refine ⟨_, rfl, ?_⟩; have HO580 := Aside0.mk (Kd.R_lower (rn_ (rn_ ho0 HO_6.out) HO_7.out) bz_); have HO583 := Aside0.mk (Kd.R_lower (rn_ (rn_ ho1 HO_6.out) HO_7.out) bz_); replace HO_6 := rp2_ HO_6 hb ho0 ho1; replace HO_7 := rp2_ HO_7 hb ho0 ho1; replace BK558 := bb_ BK558 hb; replace BK559 := bb_ BK559 hb; replace HB := Aside0.mk (below_step bl_ hb); clear hb ho0 ho1; obtain ⟨Ao38, co38, eo38⟩ := Kd.R_slice HO580.out; subst eo38; have hnb39 := NB559_558.out; have hnc39 := NB558_559.out; have hcz40_0 : w37.cell? ⟨gb559, 0, none⟩ = some (.slice none 0 0) := bc_ BK559.out 0; have hcz40_1 : w37.cell? ⟨gb559, 1, none⟩ = some (.slice none 0 0) := bc_ BK559.out 1; have hfz40_0 := blk_frozen BK559.out 0; have hfz40_1 := blk_frozen BK559.out 1; obtain ⟨Ao41, co41, eo41⟩ := Kd.R_slice HO583.out; subst eo41))
  refine bodyPost_ret (results_ct rfl _ _ gb559 29 #[.slice Ao38 t578.length co38, .slice Ao41 t581.length co41] (0, 0) _ rfl (by (with_reducible repeat (first | refine blk_drewN ?_ _ | refine blk_drew ?_ | refine blk_alloc ?_ _)); refine blk_put (cs := #[.slice Ao38 t578.length co38, .slice none 0 0]) ?_ 1 _ rfl; (with_reducible repeat (first | refine blk_drewN ?_ _ | refine blk_drew ?_ | refine blk_alloc ?_ _)); refine blk_put (cs := #[.slice none 0 0, .slice none 0 0]) ?_ 0 _ rfl; exact kb_ BK559.out) Try.underlying29 rfl (by kernel_rfl)) rfl ?_
  exact ⟨_, _, ng_, by exact kr_ (Kd.R_mono (Kd.R_far (p := ⟨gb559, 1, none⟩) (Kd.R_far (p := ⟨gb559, 0, none⟩) (Kd.R_types HO580.out BK559.out (by decide)) (fun _ hk => hk.2) (.slice Ao38 t578.length co38)) (fun _ hk => hk.2) (.slice Ao41 t581.length co41)) (fun _ hk => hk.1.1.1)), by exact kr_ (Kd.R_mono (Kd.R_far (p := ⟨gb559, 1, none⟩) (Kd.R_far (p := ⟨gb559, 0, none⟩) (Kd.R_types HO583.out BK559.out (by decide)) (fun _ hk => hk.2) (.slice Ao38 t578.length co38)) (fun _ hk => hk.2) (.slice Ao41 t581.length co41)) (fun _ hk => hk.1.1.1)), bl_⟩
 rw [if_pos c18] at H
 have c18b0 : decide (x22_1 < (l0_0.length : Int)) = true := decide_eq_true c18
 clear c18
 by_cases c19 : 0 ≤ x22_1
 rotate_left
 ·rw [if_neg c19] at H
  exact absurd H (by simp)
 rw [if_pos c19] at H
 have c19b0 : decide (0 ≤ x22_1) = true := decide_eq_true c19
 clear c19
 by_cases c20 : x22_1 < (l0_0.length : Int)
 rotate_left
 ·rw [if_neg c20] at H
  exact absurd H (by simp)
 rw [if_pos c20] at H
 have c20b0 : decide (x22_1 < (l0_0.length : Int)) = true := decide_eq_true c20
 clear c20
 by_cases c21 : ((rd_T48 l0_0 x22_1).f0).toList = a1.toList
 rotate_left
 ·rw [if_neg c21] at H
  have c21b0 : (((rd_T48 l0_0 x22_1).f0).toList == a1.toList) = false := beq_eq_false_iff_ne.mpr c21
  have c21b1 : (((rd_T48 l0_0 x22_1).f0).toList != a1.toList) = true := bne_iff_ne.mpr c21
  by_cases c28 : x6_1.length < 4398046511104
  rotate_left
  ·rw [if_neg c28] at H
   exact absurd H (by simp)
  rw [if_pos c28] at H
  have LMc28 := Aside0.mk c28
  clear c28
  obtain ⟨y575, hy575⟩ : ∃ y_ : List (S48), y_ = (x6_1 ++ [(⟨(rd_T48 l0_0 x22_1).f0, (rd_T48 l0_0 x22_1).f1, (rd_T48 l0_0 x22_1).f2⟩ : S48)]) := ⟨_, rfl⟩
  replace H : (impl_RemoveFrom.l0 k1 a1 y575 x7_1 l0_0 (l0_0.length : Int) (wrap64 (x22_1 + 1))) = some (r1, r2, r3) := by first | (rw [hy575]; with_reducible exact H) | (have H2_ := (Option.bind_some _ _).symm.trans H; rw [hy575]; with_reducible exact H2_) | (have H2_ := (Option.bind_some _ _).symm.trans H; with_reducible exact H2_) | with_reducible exact H | (rw [hy575]; exact H) | exact H
  have Ny575 := Aside0.mk hy575
  clear hy575
  have H' := Aside0.mk H
  clear H
  have p570 : 0 ≤ (x22_1 : Int) := of_decide_eq_true (by first | (with_reducible assumption) | assumption)
  have q570 : x22_1 < (l0_0.length : Int) := of_decide_eq_true (by first | (with_reducible assumption) | assumption)
  obtain ⟨ad570, e570, hx570_0, hx570_1, hx570_2⟩ := at_T48 HR0_0.out x22_1 p570 q570
  cases e570
  replace hx570_0 := (HB.out.cell (World.block_lt_of_cell? w _ hx570_0)).trans hx570_0
  replace hx570_1 := (HB.out.cell (World.block_lt_of_cell? w _ hx570_1)).trans hx570_1
  replace hx570_2 := (HB.out.cell (World.block_lt_of_cell? w _ hx570_2)).trans hx570_2
  replace p570 := eq_true p570
  replace q570 := eq_true q570
  go_wp2_with (first | ((with_reducible refine gate_dst (N := 9) rfl ?_); refine box_event rfl (N := 9) rfl (cs := #[.string (⟨#[]⟩ : ByteArray), .int .i64 0, .int .i64 0]) (t := 48) gs_ ?_; intro gb571 hg w29 hbox hb; replace HO_6 := Aside0.mk (Kd.R_below (Kd.R_elderB (kr_ HO_6.out) gb571 (Nat.le_of_eq hg.symm)) hb); replace HO_7 := Aside0.mk (Kd.R_below (Kd.R_elderB (kr_ HO_7.out) gb571 (Nat.le_of_eq hg.symm)) hb); have BK571 := Aside0.mk (hbox); have GW571 := Aside0.mk ((by rw [hg]; exact bz_ : w.heap.size ≤ gb571)); have GE571 := GW571; replace HB := Aside0.mk (below_step bl_ hb); have NB558_571 := nl_ hg BK558; have NB571_558 := nm_ hg BK558; replace BK558 := bb_ BK558 hb; have NB559_571 := nl_ hg BK559; have NB571_559 := nm_ hg BK559; replace BK559 := bb_ BK559 hb; clear hb hbox hg; have hnb30 := NB571_558.out; have hnc30 := NB558_571.out; have hnb31 := NB571_559.out; have hnc31 := NB559_571.out; have hcz32_0 : w29.cell? ⟨gb571, 0, none⟩ = some (.string (⟨#[]⟩ : ByteArray)) := bc_ BK571.out 0; have hcz32_1 : w29.cell? ⟨gb571, 1, none⟩ = some (.int .i64 0) := bc_ BK571.out 1; have hcz32_2 : w29.cell? ⟨gb571, 2, none⟩ = some (.int .i64 0) := bc_ BK571.out 2; have hfz32_0 := blk_frozen BK571.out 0; have hfz32_1 := blk_frozen BK571.out 1; have hfz32_2 := blk_frozen BK571.out 2) | ((with_reducible refine gate_builtin (b := .append) (xs := #[.tmp 34, .tmp 36]) rfl ?_); at_builtin; refine Kd.R_append k48 (w0 := w) w.heap.size rfl (.tmp 34) (.tmp 36) 27 48 (.agg #[(.string ⟨#[]⟩), (.int .i64 0), (.int .i64 0)]) 32 rfl Try.underlying27 info48 rfl (by decide) (by omega) u6 x6_1 (⟨(rd_T48 l0_0 x22_1).f0, (rd_T48 l0_0 x22_1).f1, (rd_T48 l0_0 x22_1).f2⟩ : S48) [.string ((rd_T48 l0_0 x22_1).f0), .int .i64 ((rd_T48 l0_0 x22_1).f1), .int .i64 ((rd_T48 l0_0 x22_1).f2)] (fun k_ => some k_ ≠ (u7 : Value).ownBlock ∧ k_ ≠ gb571) (fun _ => False) rfl (by first | (go_simp; done) | (go_simp; rfl)) ?aP (fun _ hk => hk.elim) ?aF ?aO ?aB ?aS ?aL ?_; (case aP => exact k48_mkM _ _ _ (⟨(rd_T48 l0_0 x22_1).f0, (rd_T48 l0_0 x22_1).f1, (rd_T48 l0_0 x22_1).f2⟩ : S48)); (case aB => exact bl_); (case aF => exact (fun k_ hk => ⟨Kd.fresh' (Kd.R_lt (by exact kr_ ((Kd.R_mono (Kd.R_far (p := ⟨gb571, 2, none⟩) (Kd.R_far (p := ⟨gb571, 1, none⟩) (Kd.R_far (p := ⟨gb571, 0, none⟩) (Kd.R_mono HO_7.out (fun k_ hk => (⟨hk, hk.2⟩ : _ ∧ k_ ≠ gb571))) (fun _ hk => hk.2) (.string ((rd_T48 l0_0 x22_1).f0))) (fun _ hk => hk.2) (.int .i64 ((rd_T48 l0_0 x22_1).f1))) (fun _ hk => hk.2) (.int .i64 ((rd_T48 l0_0 x22_1).f2))) (fun _ h_ => h_.1))))) k_ hk, Kd.freshB (g := gb571) (o := .cells #[.string ((rd_T48 l0_0 x22_1).f0), .int .i64 ((rd_T48 l0_0 x22_1).f1), .int .i64 ((rd_T48 l0_0 x22_1).f2)] 48 (0, 0)) (by (with_reducible repeat (first | refine blk_drewN ?_ _ | refine blk_drew ?_ | refine blk_alloc ?_ _)); refine blk_put (cs := #[.string ((rd_T48 l0_0 x22_1).f0), .int .i64 ((rd_T48 l0_0 x22_1).f1), .int .i64 0]) ?_ 2 _ rfl; (with_reducible repeat (first | refine blk_drewN ?_ _ | refine blk_drew ?_ | refine blk_alloc ?_ _)); refine blk_put (cs := #[.string ((rd_T48 l0_0 x22_1).f0), .int .i64 0, .int .i64 0]) ?_ 1 _ rfl; (with_reducible repeat (first | refine blk_drewN ?_ _ | refine blk_drew ?_ | refine blk_alloc ?_ _)); refine blk_put (cs := #[.string (⟨#[]⟩ : ByteArray), .int .i64 0, .int .i64 0]) ?_ 0 _ rfl; exact kb_ BK571.out) k_ hk⟩)); (case aO => exact (by exact kr_ (Kd.R_mono (Kd.R_far (p := ⟨gb571, 2, none⟩) (Kd.R_far (p := ⟨gb571, 1, none⟩) (Kd.R_far (p := ⟨gb571, 0, none⟩) (Kd.R_mono HO_6.out (fun k_ hk => (⟨hk, hk.2⟩ : _ ∧ k_ ≠ gb571))) (fun _ hk => hk.2) (.string ((rd_T48 l0_0 x22_1).f0))) (fun _ hk => hk.2) (.int .i64 ((rd_T48 l0_0 x22_1).f1))) (fun _ hk => hk.2) (.int .i64 ((rd_T48 l0_0 x22_1).f2))) (fun _ hk => ⟨hk.1.1, hk.1.2⟩)))); (case aS => exact bz_); (case aL => have := LMc28.out; omega); intro v576 w33 ho hb hg hat; rw [← Ny575.out] at ho; replace HO_7 := Aside0.mk (Kd.R_after (ok := (fun k_ => k_ ≠ gb571)) (by exact kr_ (Kd.R_mono (Kd.R_far (p := ⟨gb571, 2, none⟩) (Kd.R_far (p := ⟨gb571, 1, none⟩) (Kd.R_far (p := ⟨gb571, 0, none⟩) (Kd.R_mono HO_7.out (fun k_ hk => (⟨hk, hk.2⟩ : _ ∧ k_ ≠ gb571))) (fun _ hk => hk.2) (.string ((rd_T48 l0_0 x22_1).f0))) (fun _ hk => hk.2) (.int .i64 ((rd_T48 l0_0 x22_1).f1))) (fun _ hk => hk.2) (.int .i64 ((rd_T48 l0_0 x22_1).f2))) (fun _ hk => ⟨hk.1.2, hk.1.1⟩))) hg hat); replace BK558 := Aside0.mk (blk_grown (g := gb558) (o := .cells #[.slice (some ad570) l0_0.length c0_0, .slice A0_1 l0_1.length c0_1] 29 (0, 0)) kz_ hg (Kd.R_ne HO_6.out BK558.out (by decide))); replace BK559 := Aside0.mk (blk_grown (g := gb559) (o := .cells #[.slice none 0 0, .slice none 0 0] 29 (0, 0)) kz_ hg (Kd.R_ne HO_6.out BK559.out (by decide))); replace BK571 := Aside0.mk (blk_grown (g := gb571) (o := .cells #[.string ((rd_T48 l0_0 x22_1).f0), .int .i64 ((rd_T48 l0_0 x22_1).f1), .int .i64 ((rd_T48 l0_0 x22_1).f2)] 48 (0, 0)) (by (with_reducible repeat (first | refine blk_drewN ?_ _ | refine blk_drew ?_ | refine blk_alloc ?_ _)); refine blk_put (cs := #[.string ((rd_T48 l0_0 x22_1).f0), .int .i64 ((rd_T48 l0_0 x22_1).f1), .int .i64 0]) ?_ 2 _ rfl; (with_reducible repeat (first | refine blk_drewN ?_ _ | refine blk_drew ?_ | refine blk_alloc ?_ _)); refine blk_put (cs := #[.string ((rd_T48 l0_0 x22_1).f0), .int .i64 0, .int .i64 0]) ?_ 1 _ rfl; (with_reducible repeat (first | refine blk_drewN ?_ _ | refine blk_drew ?_ | refine blk_alloc ?_ _)); refine blk_put (cs := #[.string (⟨#[]⟩ : ByteArray), .int .i64 0, .int .i64 0]) ?_ 0 _ rfl; exact kb_ BK571.out) hg (Kd.R_away HO_6.out (fun _ hk => hk.2))); replace HB := Aside0.mk (hb); have HO577 := Aside0.mk (ho); clear HO_6 ho hb hg hat))
  go_roundg k1
  case measure => have := HK1.out; omega
  case rel => exact ⟨(y575), (x7_1), (wrap64 (x22_1 + 1)), (by first | rfl | (simp; done) | (simp [*]; done)), H', ⟨by have := HK1.out; omega⟩, ⟨kp_ HO577.out⟩, ⟨kp_ HO_7.out⟩, ⟨by exact kb_ BK558.out⟩, ⟨by exact kb_ BK559.out⟩, ⟨bl_⟩⟩
 rw [if_pos c21] at H
 have c21b0 : (((rd_T48 l0_0 x22_1).f0).toList == a1.toList) = true := beq_iff_eq.mpr c21
 have c21b1 : (((rd_T48 l0_0 x22_1).f0).toList != a1.toList) = false := bne_eq_false_iff_eq.mpr c21
 clear c21
 by_cases c22 : x7_1.length < 4398046511104
 rotate_left
 ·rw [if_neg c22] at H
  exact absurd H (by simp)
 rw [if_pos c22] at H
 have LMc22 := Aside0.mk c22
 clear c22
 obtain ⟨y572, hy572⟩ : ∃ y_ : List (S48), y_ = (x7_1 ++ [(⟨(rd_T48 l0_0 x22_1).f0, (rd_T48 l0_0 x22_1).f1, (rd_T48 l0_0 x22_1).f2⟩ : S48)]) := ⟨_, rfl⟩
 replace H : (impl_RemoveFrom.l0 k1 a1 x6_1 y572 l0_0 (l0_0.length : Int) (wrap64 (x22_1 + 1))) = some (r1, r2, r3) := by first | (rw [hy572]; with_reducible exact H) | (have H2_ := (Option.bind_some _ _).symm.trans H; rw [hy572]; with_reducible exact H2_) | (have H2_ := (Option.bind_some _ _).symm.trans H; with_reducible exact H2_) | with_reducible exact H | (rw [hy572]; exact H) | exact H
 have Ny572 := Aside0.mk hy572
 clear hy572
 have H' := Aside0.mk H
 clear H
 have p570 : 0 ≤ (x22_1 : Int) := of_decide_eq_true (by first | (with_reducible assumption) | assumption)
 have q570 : x22_1 < (l0_0.length : Int) := of_decide_eq_true (by first | (with_reducible assumption) | assumption)
 obtain ⟨ad570, e570, hx570_0, hx570_1, hx570_2⟩ := at_T48 HR0_0.out x22_1 p570 q570
 cases e570
 replace hx570_0 := (HB.out.cell (World.block_lt_of_cell? w _ hx570_0)).trans hx570_0
 replace hx570_1 := (HB.out.cell (World.block_lt_of_cell? w _ hx570_1)).trans hx570_1
 replace hx570_2 := (HB.out.cell (World.block_lt_of_cell? w _ hx570_2)).trans hx570_2
 replace p570 := eq_true p570
 replace q570 := eq_true q570
 go_wp2_with (first | ((with_reducible refine gate_dst (N := 9) rfl ?_); refine box_event rfl (N := 9) rfl (cs := #[.string (⟨#[]⟩ : ByteArray), .int .i64 0, .int .i64 0]) (t := 48) gs_ ?_; intro gb571 hg w23 hbox hb; replace HO_6 := Aside0.mk (Kd.R_below (Kd.R_elderB (kr_ HO_6.out) gb571 (Nat.le_of_eq hg.symm)) hb); replace HO_7 := Aside0.mk (Kd.R_below (Kd.R_elderB (kr_ HO_7.out) gb571 (Nat.le_of_eq hg.symm)) hb); have BK571 := Aside0.mk (hbox); have GW571 := Aside0.mk ((by rw [hg]; exact bz_ : w.heap.size ≤ gb571)); have GE571 := GW571; replace HB := Aside0.mk (below_step bl_ hb); have NB558_571 := nl_ hg BK558; have NB571_558 := nm_ hg BK558; replace BK558 := bb_ BK558 hb; have NB559_571 := nl_ hg BK559; have NB571_559 := nm_ hg BK559; replace BK559 := bb_ BK559 hb; clear hb hbox hg; have hnb24 := NB571_558.out; have hnc24 := NB558_571.out; have hnb25 := NB571_559.out; have hnc25 := NB559_571.out; have hcz26_0 : w23.cell? ⟨gb571, 0, none⟩ = some (.string (⟨#[]⟩ : ByteArray)) := bc_ BK571.out 0; have hcz26_1 : w23.cell? ⟨gb571, 1, none⟩ = some (.int .i64 0) := bc_ BK571.out 1; have hcz26_2 : w23.cell? ⟨gb571, 2, none⟩ = some (.int .i64 0) := bc_ BK571.out 2; have hfz26_0 := blk_frozen BK571.out 0; have hfz26_1 := blk_frozen BK571.out 1; have hfz26_2 := blk_frozen BK571.out 2) | ((with_reducible refine gate_builtin (b := .append) (xs := #[.tmp 30, .tmp 32]) rfl ?_); at_builtin; refine Kd.R_append k48 (w0 := w) w.heap.size rfl (.tmp 30) (.tmp 32) 27 48 (.agg #[(.string ⟨#[]⟩), (.int .i64 0), (.int .i64 0)]) 32 rfl Try.underlying27 info48 rfl (by decide) (by omega) u7 x7_1 (⟨(rd_T48 l0_0 x22_1).f0, (rd_T48 l0_0 x22_1).f1, (rd_T48 l0_0 x22_1).f2⟩ : S48) [.string ((rd_T48 l0_0 x22_1).f0), .int .i64 ((rd_T48 l0_0 x22_1).f1), .int .i64 ((rd_T48 l0_0 x22_1).f2)] (fun k_ => some k_ ≠ (u6 : Value).ownBlock ∧ k_ ≠ gb571) (fun _ => False) rfl (by first | (go_simp; done) | (go_simp; rfl)) ?aP (fun _ hk => hk.elim) ?aF ?aO ?aB ?aS ?aL ?_; (case aP => exact k48_mkM _ _ _ (⟨(rd_T48 l0_0 x22_1).f0, (rd_T48 l0_0 x22_1).f1, (rd_T48 l0_0 x22_1).f2⟩ : S48)); (case aB => exact bl_); (case aF => exact (fun k_ hk => ⟨Kd.fresh' (Kd.R_lt (by exact kr_ ((Kd.R_mono (Kd.R_far (p := ⟨gb571, 2, none⟩) (Kd.R_far (p := ⟨gb571, 1, none⟩) (Kd.R_far (p := ⟨gb571, 0, none⟩) (Kd.R_mono HO_6.out (fun k_ hk => (⟨hk, hk.2⟩ : _ ∧ k_ ≠ gb571))) (fun _ hk => hk.2) (.string ((rd_T48 l0_0 x22_1).f0))) (fun _ hk => hk.2) (.int .i64 ((rd_T48 l0_0 x22_1).f1))) (fun _ hk => hk.2) (.int .i64 ((rd_T48 l0_0 x22_1).f2))) (fun _ h_ => h_.1))))) k_ hk, Kd.freshB (g := gb571) (o := .cells #[.string ((rd_T48 l0_0 x22_1).f0), .int .i64 ((rd_T48 l0_0 x22_1).f1), .int .i64 ((rd_T48 l0_0 x22_1).f2)] 48 (0, 0)) (by (with_reducible repeat (first | refine blk_drewN ?_ _ | refine blk_drew ?_ | refine blk_alloc ?_ _)); refine blk_put (cs := #[.string ((rd_T48 l0_0 x22_1).f0), .int .i64 ((rd_T48 l0_0 x22_1).f1), .int .i64 0]) ?_ 2 _ rfl; (with_reducible repeat (first | refine blk_drewN ?_ _ | refine blk_drew ?_ | refine blk_alloc ?_ _)); refine blk_put (cs := #[.string ((rd_T48 l0_0 x22_1).f0), .int .i64 0, .int .i64 0]) ?_ 1 _ rfl; (with_reducible repeat (first | refine blk_drewN ?_ _ | refine blk_drew ?_ | refine blk_alloc ?_ _)); refine blk_put (cs := #[.string (⟨#[]⟩ : ByteArray), .int .i64 0, .int .i64 0]) ?_ 0 _ rfl; exact kb_ BK571.out) k_ hk⟩)); (case aO => exact (by exact kr_ (Kd.R_mono (Kd.R_far (p := ⟨gb571, 2, none⟩) (Kd.R_far (p := ⟨gb571, 1, none⟩) (Kd.R_far (p := ⟨gb571, 0, none⟩) (Kd.R_mono HO_7.out (fun k_ hk => (⟨hk, hk.2⟩ : _ ∧ k_ ≠ gb571))) (fun _ hk => hk.2) (.string ((rd_T48 l0_0 x22_1).f0))) (fun _ hk => hk.2) (.int .i64 ((rd_T48 l0_0 x22_1).f1))) (fun _ hk => hk.2) (.int .i64 ((rd_T48 l0_0 x22_1).f2))) (fun _ hk => ⟨hk.1.1, hk.1.2⟩)))); (case aS => exact bz_); (case aL => have := LMc22.out; omega); intro v573 w27 ho hb hg hat; rw [← Ny572.out] at ho; replace HO_6 := Aside0.mk (Kd.R_after (ok := (fun k_ => k_ ≠ gb571)) (by exact kr_ (Kd.R_mono (Kd.R_far (p := ⟨gb571, 2, none⟩) (Kd.R_far (p := ⟨gb571, 1, none⟩) (Kd.R_far (p := ⟨gb571, 0, none⟩) (Kd.R_mono HO_6.out (fun k_ hk => (⟨hk, hk.2⟩ : _ ∧ k_ ≠ gb571))) (fun _ hk => hk.2) (.string ((rd_T48 l0_0 x22_1).f0))) (fun _ hk => hk.2) (.int .i64 ((rd_T48 l0_0 x22_1).f1))) (fun _ hk => hk.2) (.int .i64 ((rd_T48 l0_0 x22_1).f2))) (fun _ hk => ⟨hk.1.2, hk.1.1⟩))) hg hat); replace BK558 := Aside0.mk (blk_grown (g := gb558) (o := .cells #[.slice (some ad570) l0_0.length c0_0, .slice A0_1 l0_1.length c0_1] 29 (0, 0)) kz_ hg (Kd.R_ne HO_7.out BK558.out (by decide))); replace BK559 := Aside0.mk (blk_grown (g := gb559) (o := .cells #[.slice none 0 0, .slice none 0 0] 29 (0, 0)) kz_ hg (Kd.R_ne HO_7.out BK559.out (by decide))); replace BK571 := Aside0.mk (blk_grown (g := gb571) (o := .cells #[.string ((rd_T48 l0_0 x22_1).f0), .int .i64 ((rd_T48 l0_0 x22_1).f1), .int .i64 ((rd_T48 l0_0 x22_1).f2)] 48 (0, 0)) (by (with_reducible repeat (first | refine blk_drewN ?_ _ | refine blk_drew ?_ | refine blk_alloc ?_ _)); refine blk_put (cs := #[.string ((rd_T48 l0_0 x22_1).f0), .int .i64 ((rd_T48 l0_0 x22_1).f1), .int .i64 0]) ?_ 2 _ rfl; (with_reducible repeat (first | refine blk_drewN ?_ _ | refine blk_drew ?_ | refine blk_alloc ?_ _)); refine blk_put (cs := #[.string ((rd_T48 l0_0 x22_1).f0), .int .i64 0, .int .i64 0]) ?_ 1 _ rfl; (with_reducible repeat (first | refine blk_drewN ?_ _ | refine blk_drew ?_ | refine blk_alloc ?_ _)); refine blk_put (cs := #[.string (⟨#[]⟩ : ByteArray), .int .i64 0, .int .i64 0]) ?_ 0 _ rfl; exact kb_ BK571.out) hg (Kd.R_away HO_7.out (fun _ hk => hk.2))); replace HB := Aside0.mk (hb); have HO574 := Aside0.mk (ho); clear HO_7 ho hb hg hat))
 go_roundg k1
 case measure => have := HK1.out; omega
 case rel => exact ⟨(x6_1), (y572), (wrap64 (x22_1 + 1)), (by first | rfl | (simp; done) | (simp [*]; done)), H', ⟨by have := HK1.out; omega⟩, ⟨kp_ HO_6.out⟩, ⟨kp_ HO574.out⟩, ⟨by exact kb_ BK558.out⟩, ⟨by exact kb_ BK559.out⟩, ⟨bl_⟩⟩

/-! ### laws_heldAddS: function 35 -/
def laws_heldAddS.l0 : Nat → List (S48) → Int → Int → Option (Int)
 | 0, _, _, _ => none
 | k + 1, x0, x1, x5 => if x5 < (x0.length : Int) then (if 0 ≤ x5 then ((laws_markText.f k x1).bind fun t586 => (if ((rd_T48 x0 x5).f0).toList = t586.toList then (if ((rd_T48 x0 x5).f1) = (wrap64 (x1 + 1)) then (if ((rd_T48 x0 x5).f2) = (wrap64 ((wrap64 (x1 + 1)) + 1)) then (laws_heldAddS.l0 k x0 (wrap64 ((wrap64 ((wrap64 (x1 + 1)) + 1)) + 1)) (wrap64 (x5 + 1))) else (some (-1))) else (some (-1))) else (some (-1)))) else (none)) else (some x1)
def laws_heldAddS.f (k : Nat) (l0 : List (S48)) (a1 : Int) : Option (Int) := laws_heldAddS.l0 k l0 a1 0
theorem laws_heldAddS.mono_l : ∀ k, (∀ y0 y1 y2, LeO (laws_heldAddS.l0 k y0 y1 y2) (laws_heldAddS.l0 (k + 1) y0 y1 y2))
 | 0 => fun _ _ _ r h => by simp [laws_heldAddS.l0] at h
 | k + 1 => by
  have ih0 := laws_heldAddS.mono_l k
  ·intro y0 y1 y2
   unfold laws_heldAddS.l0
   repeat' first
   | (with_reducible exact ih0 _ _ _)
   | (with_reducible exact laws_markText.mono _ _)
   | (with_reducible exact LeO.refl _)
   | (with_reducible exact LeO.none _)
   | (with_reducible refine LeO.ite ?_ ?_)
   | (with_reducible refine LeO.bind ?_ (fun _ => ?_))
   | exact ih0 _ _ _
   | exact laws_markText.mono _ _
   | exact LeO.none _
   | refine LeO.ite ?_ ?_
   | refine LeO.bind ?_ (fun _ => ?_)
theorem laws_heldAddS.mono : ∀ a0 a1 k, LeO (laws_heldAddS.f k a0 a1) (laws_heldAddS.f (k + 1) a0 a1) := by
 intro a0 a1 k
 have ih0 := laws_heldAddS.mono_l k
 unfold laws_heldAddS.f
 repeat' first
   | (with_reducible exact ih0 _ _ _)
   | (with_reducible exact laws_markText.mono _ _)
   | (with_reducible exact LeO.refl _)
   | (with_reducible exact LeO.none _)
   | (with_reducible refine LeO.ite ?_ ?_)
   | (with_reducible refine LeO.bind ?_ (fun _ => ?_))
   | exact ih0 _ _ _
   | exact laws_markText.mono _ _
   | exact LeO.none _
   | refine LeO.ite ?_ ?_
   | refine LeO.bind ?_ (fun _ => ?_)
def laws_heldAddS.T4 : Bool × List (List Nat × List Nat) := (true, [([], []), ([], []), ([0, 1], [0, 1]), ([2], [2]), ([3], [3]), ([], []), ([5], [5]), ([4, 6], [4, 6])])
def laws_heldAddS.B4 : List Nat := [0, 0, 3, 7, 15, 0, 32, 127]
theorem laws_heldAddS.tab4 : rtab .any (opsOf Try.f35 4) = laws_heldAddS.T4 := by kernel_rfl
theorem laws_heldAddS.bits4 : waitsOk laws_heldAddS.T4.2 laws_heldAddS.B4 = true := by kernel_rfl
set_option maxHeartbeats 8000000 in
set_option maxRecDepth 100000 in
theorem laws_heldAddS.calls (k : Nat) (A0 : Option Addr) (c0 : Nat) (l0 : List (S48)) (a1 : Int) (r : Int) (w : World) (hr0 : Kd.C k48 w A0 l0.length l0) (hc0 : l0.length ≤ c0) (h : laws_heldAddS.f k l0 a1 = some r) :
  Calls Try.prog 35 #[.slice A0 l0.length c0, .int .i64 a1] w fun e w' => e = .returned (.int .i64 r) ∧ Below w.heap.size w w' := by
 have HR0 := Aside0.mk hr0
 have HC0 := Aside0.mk hc0
 clear hr0 hc0
 have HB := Aside0.mk (Below.refl w.heap.size w)
 have H : (laws_heldAddS.l0 k l0 a1 0) = some r := h
 clear h
 have H' := Aside0.mk H
 clear H
 go_enter Try.func35, Try.ntmps35
 go_wp2
 go_loopg [1, 5] k (fun kq v1 v5 w' => ∃ (x1_1 : Int) (x5_1 : Int), v1 = .int .i64 x1_1 ∧ v5 = .int .i64 x5_1 ∧ Aside0 (laws_heldAddS.l0 kq l0 x1_1 x5_1 = some r) ∧ Aside0 (kq ≤ k) ∧ Aside0 (Below w.heap.size w w'))
 case atStart => exact ⟨(a1), (0), (by first | rfl | (simp; done) | (simp [*]; done)), (by first | rfl | (simp; done) | (simp [*]; done)), H', ⟨Nat.le_refl _⟩, ⟨bl_⟩⟩
 clear H'
 try clear p2
 obtain ⟨x1_1, x5_1, rfl, rfl, HA, HK1, HB⟩ := hrel
 cases gk with
 | zero => exact absurd HA.out (by simp [laws_heldAddS.l0])
 | succ k1 => ?_
 have H := HA.out
 clear HA
 simp only [laws_heldAddS.l0] at H
 by_cases c3 : x5_1 < (l0.length : Int)
 rotate_left
 ·rw [if_neg c3] at H
  have c3b0 : decide (x5_1 < (l0.length : Int)) = false := decide_eq_false c3
  clear c3
  obtain rfl := Option.some.inj H
  go_wp2
  go_ret
  exact ⟨ng_, bl_⟩
 rw [if_pos c3] at H
 have c3b0 : decide (x5_1 < (l0.length : Int)) = true := decide_eq_true c3
 clear c3
 by_cases c4 : 0 ≤ x5_1
 rotate_left
 ·rw [if_neg c4] at H
  exact absurd H (by simp)
 rw [if_pos c4] at H
 have c4b0 : decide (0 ≤ x5_1) = true := decide_eq_true c4
 clear c4
 replace H := Option.bind_eq_some_iff.mp H
 obtain ⟨t586, A50, H⟩ := H
 replace H : (if ((rd_T48 l0 x5_1).f0).toList = t586.toList then (if ((rd_T48 l0 x5_1).f1) = (wrap64 (x1_1 + 1)) then (if ((rd_T48 l0 x5_1).f2) = (wrap64 ((wrap64 (x1_1 + 1)) + 1)) then (laws_heldAddS.l0 k1 l0 (wrap64 ((wrap64 ((wrap64 (x1_1 + 1)) + 1)) + 1)) (wrap64 (x5_1 + 1))) else (some (-1))) else (some (-1))) else (some (-1))) = some r := H
 have A5 := Aside0.mk A50
 clear A50
 by_cases c6 : ((rd_T48 l0 x5_1).f0).toList = t586.toList
 rotate_left
 ·rw [if_neg c6] at H
  have c6b0 : (((rd_T48 l0 x5_1).f0).toList == t586.toList) = false := beq_eq_false_iff_ne.mpr c6
  have c6b1 : (((rd_T48 l0 x5_1).f0).toList != t586.toList) = true := bne_iff_ne.mpr c6
  obtain rfl := Option.some.inj H
  try go_wp2
  replace HB := Aside0.mk (below_drew1 HB.out)
  have p585 : 0 ≤ (x5_1 : Int) := of_decide_eq_true (by first | (with_reducible assumption) | assumption)
  have q585 : x5_1 < (l0.length : Int) := of_decide_eq_true (by first | (with_reducible assumption) | assumption)
  obtain ⟨ad585, e585, hx585_0, hx585_1, hx585_2⟩ := at_T48 HR0.out x5_1 p585 q585
  have hw585_2 := hx585_2
  have hw585_1 := hx585_1
  have hw585_0 := hx585_0
  cases e585
  replace hx585_0 := (HB.out.cell (World.block_lt_of_cell? w _ hx585_0)).trans hx585_0
  replace hx585_1 := (HB.out.cell (World.block_lt_of_cell? w _ hx585_1)).trans hx585_1
  replace hx585_2 := (HB.out.cell (World.block_lt_of_cell? w _ hx585_2)).trans hx585_2
  replace p585 := eq_true p585
  replace q585 := eq_true q585
  refine start_ (n := 8) (S := fun w' => w'.cell? (ad585.add ((x5_1).toNat * 3)) = some (.string ((rd_T48 l0 x5_1).f0)) ∧ w'.cell? ⟨(ad585.add ((x5_1).toNat * 3)).block, (ad585.add ((x5_1).toNat * 3)).off + 1, none⟩ = some (.int .i64 ((rd_T48 l0 x5_1).f1)) ∧ w'.cell? ⟨(ad585.add ((x5_1).toNat * 3)).block, (ad585.add ((x5_1).toNat * 3)).off + 2, none⟩ = some (.int .i64 ((rd_T48 l0 x5_1).f2))) (ds := []) #[false, false, false, false, false, false, false, false] (by kernel_rfl) rfl rfl ⟨((HB.out.cell (World.block_lt_of_cell? w _ hw585_0)).trans hw585_0), ((HB.out.cell (World.block_lt_of_cell? w _ hw585_1)).trans hw585_1), ((HB.out.cell (World.block_lt_of_cell? w _ hw585_2)).trans hw585_2)⟩ (fun hHeld => ?_); refine with_tabW laws_heldAddS.tab4 laws_heldAddS.bits4 (fun HT_ HW_ => ?_)
  generalize wr.drew = w15 at HB hx585_0 hx585_1 hx585_2 hHeld ⊢
  refine pu_ 0 (some 12) (h := ?_)
  refine pu_ 1 (some 13) (h := ?_)
  refine pu_ 2 (some 14) (h := ?_)
  refine pu_ 3 (some 15) (h := ?_)
  refine pu_ 5 (some 17) (h := ?_)
  refine tk3_ 4 (some 16) (h := ?_)
  refine on_ 6 (some 18) (h := fun K hK => ?_)
  refine goes_ Try.func47 (by kernel_rfl) rfl #[.int .i64 x1_1] (by rfl) rfl rfl nc_ ?_
  with_reducible refine (laws_markText.calls k1 x1_1 t586 _ A5.out).mono ?_
  rintro e w16 ⟨rfl, hb⟩
  refine ⟨_, rfl, ?_⟩
  replace HB := Aside0.mk (below_step bl_ hb)
  clear hb
  refine hK.out _ _ ⟨((HB.out.cell (World.block_lt_of_cell? w _ hw585_0)).trans hw585_0), ((HB.out.cell (World.block_lt_of_cell? w _ hw585_1)).trans hw585_1), ((HB.out.cell (World.block_lt_of_cell? w _ hw585_2)).trans hw585_2)⟩ (fun hHeld => ?_)
  clear hK K
  refine norm_ nn_ ?_
  refine pu_ 7 (some 19) (h := ?_)
  refine done_ (done_of HT_.out (by kernel_rfl)) ?_
  try go_wp2
  go_ret
  exact ⟨ng_, bl_⟩
 rw [if_pos c6] at H
 have c6b0 : (((rd_T48 l0 x5_1).f0).toList == t586.toList) = true := beq_iff_eq.mpr c6
 have c6b1 : (((rd_T48 l0 x5_1).f0).toList != t586.toList) = false := bne_eq_false_iff_eq.mpr c6
 clear c6
 by_cases c7 : ((rd_T48 l0 x5_1).f1) = (wrap64 (x1_1 + 1))
 rotate_left
 ·rw [if_neg c7] at H
  have c7b0 : (((rd_T48 l0 x5_1).f1) == (wrap64 (x1_1 + 1))) = false := beq_eq_false_iff_ne.mpr c7
  have c7b1 : (((rd_T48 l0 x5_1).f1) != (wrap64 (x1_1 + 1))) = true := bne_iff_ne.mpr c7
  obtain rfl := Option.some.inj H
  try go_wp2
  replace HB := Aside0.mk (below_drew1 HB.out)
  have p585 : 0 ≤ (x5_1 : Int) := of_decide_eq_true (by first | (with_reducible assumption) | assumption)
  have q585 : x5_1 < (l0.length : Int) := of_decide_eq_true (by first | (with_reducible assumption) | assumption)
  obtain ⟨ad585, e585, hx585_0, hx585_1, hx585_2⟩ := at_T48 HR0.out x5_1 p585 q585
  have hw585_2 := hx585_2
  have hw585_1 := hx585_1
  have hw585_0 := hx585_0
  cases e585
  replace hx585_0 := (HB.out.cell (World.block_lt_of_cell? w _ hx585_0)).trans hx585_0
  replace hx585_1 := (HB.out.cell (World.block_lt_of_cell? w _ hx585_1)).trans hx585_1
  replace hx585_2 := (HB.out.cell (World.block_lt_of_cell? w _ hx585_2)).trans hx585_2
  replace p585 := eq_true p585
  replace q585 := eq_true q585
  refine start_ (n := 8) (S := fun w' => w'.cell? (ad585.add ((x5_1).toNat * 3)) = some (.string ((rd_T48 l0 x5_1).f0)) ∧ w'.cell? ⟨(ad585.add ((x5_1).toNat * 3)).block, (ad585.add ((x5_1).toNat * 3)).off + 1, none⟩ = some (.int .i64 ((rd_T48 l0 x5_1).f1)) ∧ w'.cell? ⟨(ad585.add ((x5_1).toNat * 3)).block, (ad585.add ((x5_1).toNat * 3)).off + 2, none⟩ = some (.int .i64 ((rd_T48 l0 x5_1).f2))) (ds := []) #[false, false, false, false, false, false, false, false] (by kernel_rfl) rfl rfl ⟨((HB.out.cell (World.block_lt_of_cell? w _ hw585_0)).trans hw585_0), ((HB.out.cell (World.block_lt_of_cell? w _ hw585_1)).trans hw585_1), ((HB.out.cell (World.block_lt_of_cell? w _ hw585_2)).trans hw585_2)⟩ (fun hHeld => ?_); refine with_tabW laws_heldAddS.tab4 laws_heldAddS.bits4 (fun HT_ HW_ => ?_)
  generalize wr.drew = w13 at HB hx585_0 hx585_1 hx585_2 hHeld ⊢
  refine pu_ 0 (some 12) (h := ?_)
  refine pu_ 1 (some 13) (h := ?_)
  refine pu_ 2 (some 14) (h := ?_)
  refine pu_ 3 (some 15) (h := ?_)
  refine pu_ 5 (some 17) (h := ?_)
  refine tk3_ 4 (some 16) (h := ?_)
  refine on_ 6 (some 18) (h := fun K hK => ?_)
  refine goes_ Try.func47 (by kernel_rfl) rfl #[.int .i64 x1_1] (by rfl) rfl rfl nc_ ?_
  with_reducible refine (laws_markText.calls k1 x1_1 t586 _ A5.out).mono ?_
  rintro e w14 ⟨rfl, hb⟩
  refine ⟨_, rfl, ?_⟩
  replace HB := Aside0.mk (below_step bl_ hb)
  clear hb
  refine hK.out _ _ ⟨((HB.out.cell (World.block_lt_of_cell? w _ hw585_0)).trans hw585_0), ((HB.out.cell (World.block_lt_of_cell? w _ hw585_1)).trans hw585_1), ((HB.out.cell (World.block_lt_of_cell? w _ hw585_2)).trans hw585_2)⟩ (fun hHeld => ?_)
  clear hK K
  refine norm_ nn_ ?_
  refine pu_ 7 (some 19) (h := ?_)
  refine done_ (done_of HT_.out (by kernel_rfl)) ?_
  have p587 : 0 ≤ (x5_1 : Int) := of_decide_eq_true (by first | (with_reducible assumption) | assumption)
  have q587 : x5_1 < (l0.length : Int) := of_decide_eq_true (by first | (with_reducible assumption) | assumption)
  obtain ⟨ad587, e587, hx587_0, hx587_1, hx587_2⟩ := at_T48 HR0.out x5_1 p587 q587
  obtain rfl : ad585 = ad587 := (by injection e587)
  replace hx587_0 := (HB.out.cell (World.block_lt_of_cell? w _ hx587_0)).trans hx587_0
  replace hx587_1 := (HB.out.cell (World.block_lt_of_cell? w _ hx587_1)).trans hx587_1
  replace hx587_2 := (HB.out.cell (World.block_lt_of_cell? w _ hx587_2)).trans hx587_2
  replace p587 := eq_true p587
  replace q587 := eq_true q587
  try go_wp2
  go_ret
  exact ⟨ng_, bl_⟩
 rw [if_pos c7] at H
 have c7b0 : (((rd_T48 l0 x5_1).f1) == (wrap64 (x1_1 + 1))) = true := beq_iff_eq.mpr c7
 have c7b1 : (((rd_T48 l0 x5_1).f1) != (wrap64 (x1_1 + 1))) = false := bne_eq_false_iff_eq.mpr c7
 clear c7
 by_cases c8 : ((rd_T48 l0 x5_1).f2) = (wrap64 ((wrap64 (x1_1 + 1)) + 1))
 rotate_left
 ·rw [if_neg c8] at H
  have c8b0 : (((rd_T48 l0 x5_1).f2) == (wrap64 ((wrap64 (x1_1 + 1)) + 1))) = false := beq_eq_false_iff_ne.mpr c8
  have c8b1 : (((rd_T48 l0 x5_1).f2) != (wrap64 ((wrap64 (x1_1 + 1)) + 1))) = true := bne_iff_ne.mpr c8
  obtain rfl := Option.some.inj H
  try go_wp2
  replace HB := Aside0.mk (below_drew1 HB.out)
  have p585 : 0 ≤ (x5_1 : Int) := of_decide_eq_true (by first | (with_reducible assumption) | assumption)
  have q585 : x5_1 < (l0.length : Int) := of_decide_eq_true (by first | (with_reducible assumption) | assumption)
  obtain ⟨ad585, e585, hx585_0, hx585_1, hx585_2⟩ := at_T48 HR0.out x5_1 p585 q585
  have hw585_2 := hx585_2
  have hw585_1 := hx585_1
  have hw585_0 := hx585_0
  cases e585
  replace hx585_0 := (HB.out.cell (World.block_lt_of_cell? w _ hx585_0)).trans hx585_0
  replace hx585_1 := (HB.out.cell (World.block_lt_of_cell? w _ hx585_1)).trans hx585_1
  replace hx585_2 := (HB.out.cell (World.block_lt_of_cell? w _ hx585_2)).trans hx585_2
  replace p585 := eq_true p585
  replace q585 := eq_true q585
  refine start_ (n := 8) (S := fun w' => w'.cell? (ad585.add ((x5_1).toNat * 3)) = some (.string ((rd_T48 l0 x5_1).f0)) ∧ w'.cell? ⟨(ad585.add ((x5_1).toNat * 3)).block, (ad585.add ((x5_1).toNat * 3)).off + 1, none⟩ = some (.int .i64 ((rd_T48 l0 x5_1).f1)) ∧ w'.cell? ⟨(ad585.add ((x5_1).toNat * 3)).block, (ad585.add ((x5_1).toNat * 3)).off + 2, none⟩ = some (.int .i64 ((rd_T48 l0 x5_1).f2))) (ds := []) #[false, false, false, false, false, false, false, false] (by kernel_rfl) rfl rfl ⟨((HB.out.cell (World.block_lt_of_cell? w _ hw585_0)).trans hw585_0), ((HB.out.cell (World.block_lt_of_cell? w _ hw585_1)).trans hw585_1), ((HB.out.cell (World.block_lt_of_cell? w _ hw585_2)).trans hw585_2)⟩ (fun hHeld => ?_); refine with_tabW laws_heldAddS.tab4 laws_heldAddS.bits4 (fun HT_ HW_ => ?_)
  generalize wr.drew = w11 at HB hx585_0 hx585_1 hx585_2 hHeld ⊢
  refine pu_ 0 (some 12) (h := ?_)
  refine pu_ 1 (some 13) (h := ?_)
  refine pu_ 2 (some 14) (h := ?_)
  refine pu_ 3 (some 15) (h := ?_)
  refine pu_ 5 (some 17) (h := ?_)
  refine tk3_ 4 (some 16) (h := ?_)
  refine on_ 6 (some 18) (h := fun K hK => ?_)
  refine goes_ Try.func47 (by kernel_rfl) rfl #[.int .i64 x1_1] (by rfl) rfl rfl nc_ ?_
  with_reducible refine (laws_markText.calls k1 x1_1 t586 _ A5.out).mono ?_
  rintro e w12 ⟨rfl, hb⟩
  refine ⟨_, rfl, ?_⟩
  replace HB := Aside0.mk (below_step bl_ hb)
  clear hb
  refine hK.out _ _ ⟨((HB.out.cell (World.block_lt_of_cell? w _ hw585_0)).trans hw585_0), ((HB.out.cell (World.block_lt_of_cell? w _ hw585_1)).trans hw585_1), ((HB.out.cell (World.block_lt_of_cell? w _ hw585_2)).trans hw585_2)⟩ (fun hHeld => ?_)
  clear hK K
  refine norm_ nn_ ?_
  refine pu_ 7 (some 19) (h := ?_)
  refine done_ (done_of HT_.out (by kernel_rfl)) ?_
  have p587 : 0 ≤ (x5_1 : Int) := of_decide_eq_true (by first | (with_reducible assumption) | assumption)
  have q587 : x5_1 < (l0.length : Int) := of_decide_eq_true (by first | (with_reducible assumption) | assumption)
  obtain ⟨ad587, e587, hx587_0, hx587_1, hx587_2⟩ := at_T48 HR0.out x5_1 p587 q587
  obtain rfl : ad585 = ad587 := (by injection e587)
  replace hx587_0 := (HB.out.cell (World.block_lt_of_cell? w _ hx587_0)).trans hx587_0
  replace hx587_1 := (HB.out.cell (World.block_lt_of_cell? w _ hx587_1)).trans hx587_1
  replace hx587_2 := (HB.out.cell (World.block_lt_of_cell? w _ hx587_2)).trans hx587_2
  replace p587 := eq_true p587
  replace q587 := eq_true q587
  have p588 : 0 ≤ (x5_1 : Int) := of_decide_eq_true (by first | (with_reducible assumption) | assumption)
  have q588 : x5_1 < (l0.length : Int) := of_decide_eq_true (by first | (with_reducible assumption) | assumption)
  obtain ⟨ad588, e588, hx588_0, hx588_1, hx588_2⟩ := at_T48 HR0.out x5_1 p588 q588
  obtain rfl : ad585 = ad588 := (by injection e588)
  replace hx588_0 := (HB.out.cell (World.block_lt_of_cell? w _ hx588_0)).trans hx588_0
  replace hx588_1 := (HB.out.cell (World.block_lt_of_cell? w _ hx588_1)).trans hx588_1
  replace hx588_2 := (HB.out.cell (World.block_lt_of_cell? w _ hx588_2)).trans hx588_2
  replace p588 := eq_true p588
  replace q588 := eq_true q588
  try go_wp2
  go_ret
  exact ⟨ng_, bl_⟩
 rw [if_pos c8] at H
 have c8b0 : (((rd_T48 l0 x5_1).f2) == (wrap64 ((wrap64 (x1_1 + 1)) + 1))) = true := beq_iff_eq.mpr c8
 have c8b1 : (((rd_T48 l0 x5_1).f2) != (wrap64 ((wrap64 (x1_1 + 1)) + 1))) = false := bne_eq_false_iff_eq.mpr c8
 clear c8
 have H' := Aside0.mk H
 clear H
 try go_wp2
 replace HB := Aside0.mk (below_drew1 HB.out)
 have p585 : 0 ≤ (x5_1 : Int) := of_decide_eq_true (by first | (with_reducible assumption) | assumption)
 have q585 : x5_1 < (l0.length : Int) := of_decide_eq_true (by first | (with_reducible assumption) | assumption)
 obtain ⟨ad585, e585, hx585_0, hx585_1, hx585_2⟩ := at_T48 HR0.out x5_1 p585 q585
 have hw585_2 := hx585_2
 have hw585_1 := hx585_1
 have hw585_0 := hx585_0
 cases e585
 replace hx585_0 := (HB.out.cell (World.block_lt_of_cell? w _ hx585_0)).trans hx585_0
 replace hx585_1 := (HB.out.cell (World.block_lt_of_cell? w _ hx585_1)).trans hx585_1
 replace hx585_2 := (HB.out.cell (World.block_lt_of_cell? w _ hx585_2)).trans hx585_2
 replace p585 := eq_true p585
 replace q585 := eq_true q585
 refine start_ (n := 8) (S := fun w' => w'.cell? (ad585.add ((x5_1).toNat * 3)) = some (.string ((rd_T48 l0 x5_1).f0)) ∧ w'.cell? ⟨(ad585.add ((x5_1).toNat * 3)).block, (ad585.add ((x5_1).toNat * 3)).off + 1, none⟩ = some (.int .i64 ((rd_T48 l0 x5_1).f1)) ∧ w'.cell? ⟨(ad585.add ((x5_1).toNat * 3)).block, (ad585.add ((x5_1).toNat * 3)).off + 2, none⟩ = some (.int .i64 ((rd_T48 l0 x5_1).f2))) (ds := []) #[false, false, false, false, false, false, false, false] (by kernel_rfl) rfl rfl ⟨((HB.out.cell (World.block_lt_of_cell? w _ hw585_0)).trans hw585_0), ((HB.out.cell (World.block_lt_of_cell? w _ hw585_1)).trans hw585_1), ((HB.out.cell (World.block_lt_of_cell? w _ hw585_2)).trans hw585_2)⟩ (fun hHeld => ?_); refine with_tabW laws_heldAddS.tab4 laws_heldAddS.bits4 (fun HT_ HW_ => ?_)
 generalize wr.drew = w9 at HB hx585_0 hx585_1 hx585_2 hHeld ⊢
 refine pu_ 0 (some 12) (h := ?_)
 refine pu_ 1 (some 13) (h := ?_)
 refine pu_ 2 (some 14) (h := ?_)
 refine pu_ 3 (some 15) (h := ?_)
 refine pu_ 5 (some 17) (h := ?_)
 refine tk3_ 4 (some 16) (h := ?_)
 refine on_ 6 (some 18) (h := fun K hK => ?_)
 refine goes_ Try.func47 (by kernel_rfl) rfl #[.int .i64 x1_1] (by rfl) rfl rfl nc_ ?_
 with_reducible refine (laws_markText.calls k1 x1_1 t586 _ A5.out).mono ?_
 rintro e w10 ⟨rfl, hb⟩
 refine ⟨_, rfl, ?_⟩
 replace HB := Aside0.mk (below_step bl_ hb)
 clear hb
 refine hK.out _ _ ⟨((HB.out.cell (World.block_lt_of_cell? w _ hw585_0)).trans hw585_0), ((HB.out.cell (World.block_lt_of_cell? w _ hw585_1)).trans hw585_1), ((HB.out.cell (World.block_lt_of_cell? w _ hw585_2)).trans hw585_2)⟩ (fun hHeld => ?_)
 clear hK K
 refine norm_ nn_ ?_
 refine pu_ 7 (some 19) (h := ?_)
 refine done_ (done_of HT_.out (by kernel_rfl)) ?_
 have p587 : 0 ≤ (x5_1 : Int) := of_decide_eq_true (by first | (with_reducible assumption) | assumption)
 have q587 : x5_1 < (l0.length : Int) := of_decide_eq_true (by first | (with_reducible assumption) | assumption)
 obtain ⟨ad587, e587, hx587_0, hx587_1, hx587_2⟩ := at_T48 HR0.out x5_1 p587 q587
 obtain rfl : ad585 = ad587 := (by injection e587)
 replace hx587_0 := (HB.out.cell (World.block_lt_of_cell? w _ hx587_0)).trans hx587_0
 replace hx587_1 := (HB.out.cell (World.block_lt_of_cell? w _ hx587_1)).trans hx587_1
 replace hx587_2 := (HB.out.cell (World.block_lt_of_cell? w _ hx587_2)).trans hx587_2
 replace p587 := eq_true p587
 replace q587 := eq_true q587
 have p588 : 0 ≤ (x5_1 : Int) := of_decide_eq_true (by first | (with_reducible assumption) | assumption)
 have q588 : x5_1 < (l0.length : Int) := of_decide_eq_true (by first | (with_reducible assumption) | assumption)
 obtain ⟨ad588, e588, hx588_0, hx588_1, hx588_2⟩ := at_T48 HR0.out x5_1 p588 q588
 obtain rfl : ad585 = ad588 := (by injection e588)
 replace hx588_0 := (HB.out.cell (World.block_lt_of_cell? w _ hx588_0)).trans hx588_0
 replace hx588_1 := (HB.out.cell (World.block_lt_of_cell? w _ hx588_1)).trans hx588_1
 replace hx588_2 := (HB.out.cell (World.block_lt_of_cell? w _ hx588_2)).trans hx588_2
 replace p588 := eq_true p588
 replace q588 := eq_true q588
 try go_wp2
 go_roundg k1
 case measure => have := HK1.out; omega
 case rel => exact ⟨(wrap64 ((wrap64 ((wrap64 (x1_1 + 1)) + 1)) + 1)), (wrap64 (x5_1 + 1)), (by first | rfl | (simp; done) | (simp [*]; done)), (by first | rfl | (simp; done) | (simp [*]; done)), H', ⟨by have := HK1.out; omega⟩, ⟨bl_⟩⟩

/-! ### laws_heldBag: function 16 -/
def laws_heldBag.f (k : Nat) (l0_0 : List (S48)) (l0_1 : List (S48)) (a1 : Int) : Option (Int) := (laws_heldAddS.f k l0_0 a1).bind fun t590 => (if t590 < 0 then (some (-1)) else ((laws_heldAddS.f k l0_1 t590).bind fun t591 => (if t591 < 0 then (some (-1)) else (some t591))))
theorem laws_heldBag.mono : ∀ a0 a1 a2 k, LeO (laws_heldBag.f k a0 a1 a2) (laws_heldBag.f (k + 1) a0 a1 a2) := by
 intro a0 a1 a2 k
 unfold laws_heldBag.f
 repeat' first
   | (with_reducible exact laws_heldAddS.mono _ _ _)
   | (with_reducible exact LeO.refl _)
   | (with_reducible exact LeO.none _)
   | (with_reducible refine LeO.ite ?_ ?_)
   | (with_reducible refine LeO.bind ?_ (fun _ => ?_))
   | exact laws_heldAddS.mono _ _ _
   | exact LeO.none _
   | refine LeO.ite ?_ ?_
   | refine LeO.bind ?_ (fun _ => ?_)
set_option maxHeartbeats 8000000 in
set_option maxRecDepth 100000 in
theorem laws_heldBag.calls (k : Nat) (A0_0 : Option Addr) (c0_0 : Nat) (l0_0 : List (S48)) (A0_1 : Option Addr) (c0_1 : Nat) (l0_1 : List (S48)) (a1 : Int) (r : Int) (w : World) (hr0_0 : Kd.C k48 w A0_0 l0_0.length l0_0) (hc0_0 : l0_0.length ≤ c0_0) (hr0_1 : Kd.C k48 w A0_1 l0_1.length l0_1) (hc0_1 : l0_1.length ≤ c0_1) (h : laws_heldBag.f k l0_0 l0_1 a1 = some r) :
  Calls Try.prog 16 #[.agg #[.slice A0_0 l0_0.length c0_0, .slice A0_1 l0_1.length c0_1], .int .i64 a1] w fun e w' => e = .returned (.int .i64 r) ∧ Below w.heap.size w w' := by
 have hu29 := Try.underlying29
 have HR0_0 := Aside0.mk hr0_0
 have HC0_0 := Aside0.mk hc0_0
 clear hr0_0 hc0_0
 have HR0_1 := Aside0.mk hr0_1
 have HC0_1 := Aside0.mk hc0_1
 clear hr0_1 hc0_1
 have HB := Aside0.mk (Below.refl w.heap.size w)
 have H : ((laws_heldAddS.f k l0_0 a1).bind fun t590 => (if t590 < 0 then (some (-1)) else ((laws_heldAddS.f k l0_1 t590).bind fun t591 => (if t591 < 0 then (some (-1)) else (some t591))))) = some r := h
 clear h
 replace H := Option.bind_eq_some_iff.mp H
 obtain ⟨t590, A30, H⟩ := H
 replace H : (if t590 < 0 then (some (-1)) else ((laws_heldAddS.f k l0_1 t590).bind fun t591 => (if t591 < 0 then (some (-1)) else (some t591)))) = some r := H
 have A3 := Aside0.mk A30
 clear A30
 by_cases c4 : t590 < 0
 ·rw [if_pos c4] at H
  have c4b0 : decide (t590 < 0) = true := decide_eq_true c4
  clear c4
  obtain rfl := Option.some.inj H
  go_enter Try.func16, Try.ntmps16
  go_wp2_with (first | ((with_reducible refine gate_dst (N := 2) rfl ?_); refine box_event rfl (N := 2) rfl (cs := #[.slice A0_0 l0_0.length c0_0, .slice A0_1 l0_1.length c0_1]) (t := 29) gs_ ?_; intro gb589 hg w5 hbox hb; have BK589 := Aside0.mk (hbox); have GW589 := Aside0.mk ((by rw [hg]; exact bz_ : w.heap.size ≤ gb589)); have GE589 := GW589; replace HB := Aside0.mk (below_step bl_ hb); clear hb hbox hg; have hcz6_0 : w5.cell? ⟨gb589, 0, none⟩ = some (.slice A0_0 l0_0.length c0_0) := bc_ BK589.out 0; have hcz6_1 : w5.cell? ⟨gb589, 1, none⟩ = some (.slice A0_1 l0_1.length c0_1) := bc_ BK589.out 1; have hfz6_0 := blk_frozen BK589.out 0; have hfz6_1 := blk_frozen BK589.out 1) | ((with_reducible refine gate_callee (f := 35) rfl ?_); refine goesL_ (some 8) rfl rfl Try.func35 (by kernel_rfl) rfl #[.slice A0_0 l0_0.length c0_0, .int .i64 a1] rfl nc_ ?_; (with_reducible refine (laws_heldAddS.calls k _ _ l0_0 a1 t590 _ ?side1 ?side2 A3.out).mono ?_); (case side1 => exact kc_ (Kd.C_below HR0_0.out HB.out)); (case side2 => exact HC0_0.out); rintro e w7 ⟨rfl, hb⟩; refine ⟨_, rfl, ?_⟩; replace BK589 := bb_ BK589 hb; replace HB := Aside0.mk (below_step bl_ hb); clear hb))
  go_ret
  exact ⟨ng_, bl_⟩
 rw [if_neg c4] at H
 have c4b0 : decide (t590 < 0) = false := decide_eq_false c4
 clear c4
 replace H := Option.bind_eq_some_iff.mp H
 obtain ⟨t591, A80, H⟩ := H
 replace H : (if t591 < 0 then (some (-1)) else (some t591)) = some r := H
 have A8 := Aside0.mk A80
 clear A80
 by_cases c9 : t591 < 0
 ·rw [if_pos c9] at H
  have c9b0 : decide (t591 < 0) = true := decide_eq_true c9
  clear c9
  obtain rfl := Option.some.inj H
  go_enter Try.func16, Try.ntmps16
  go_wp2_with (first | ((with_reducible refine gate_dst (N := 2) rfl ?_); refine box_event rfl (N := 2) rfl (cs := #[.slice A0_0 l0_0.length c0_0, .slice A0_1 l0_1.length c0_1]) (t := 29) gs_ ?_; intro gb589 hg w10 hbox hb; have BK589 := Aside0.mk (hbox); have GW589 := Aside0.mk ((by rw [hg]; exact bz_ : w.heap.size ≤ gb589)); have GE589 := GW589; replace HB := Aside0.mk (below_step bl_ hb); clear hb hbox hg; have hcz11_0 : w10.cell? ⟨gb589, 0, none⟩ = some (.slice A0_0 l0_0.length c0_0) := bc_ BK589.out 0; have hcz11_1 : w10.cell? ⟨gb589, 1, none⟩ = some (.slice A0_1 l0_1.length c0_1) := bc_ BK589.out 1; have hfz11_0 := blk_frozen BK589.out 0; have hfz11_1 := blk_frozen BK589.out 1) | ((with_reducible refine gate_callee (f := 35) rfl ?_); refine goesL_ (some 8) rfl rfl Try.func35 (by kernel_rfl) rfl #[.slice A0_0 l0_0.length c0_0, .int .i64 a1] rfl nc_ ?_; (with_reducible refine (laws_heldAddS.calls k _ _ l0_0 a1 t590 _ ?side1 ?side2 A3.out).mono ?_); (case side1 => exact kc_ (Kd.C_below HR0_0.out HB.out)); (case side2 => exact HC0_0.out); rintro e w12 ⟨rfl, hb⟩; refine ⟨_, rfl, ?_⟩; replace BK589 := bb_ BK589 hb; replace HB := Aside0.mk (below_step bl_ hb); clear hb; have hcz13_0 : w12.cell? ⟨gb589, 0, none⟩ = some (.slice A0_0 l0_0.length c0_0) := bc_ BK589.out 0; have hcz13_1 : w12.cell? ⟨gb589, 1, none⟩ = some (.slice A0_1 l0_1.length c0_1) := bc_ BK589.out 1; have hfz13_0 := blk_frozen BK589.out 0; have hfz13_1 := blk_frozen BK589.out 1) | ((with_reducible refine gate_callee (f := 35) rfl ?_); refine goesL_ (some 14) rfl rfl Try.func35 (by kernel_rfl) rfl #[.slice A0_1 l0_1.length c0_1, .int .i64 t590] rfl nc_ ?_; (with_reducible refine (laws_heldAddS.calls k _ _ l0_1 t590 t591 _ ?side1 ?side2 A8.out).mono ?_); (case side1 => exact kc_ (Kd.C_below HR0_1.out HB.out)); (case side2 => exact HC0_1.out); rintro e w14 ⟨rfl, hb⟩; refine ⟨_, rfl, ?_⟩; replace BK589 := bb_ BK589 hb; replace HB := Aside0.mk (below_step bl_ hb); clear hb))
  go_ret
  exact ⟨ng_, bl_⟩
 rw [if_neg c9] at H
 have c9b0 : decide (t591 < 0) = false := decide_eq_false c9
 clear c9
 obtain rfl := Option.some.inj H
 go_enter Try.func16, Try.ntmps16
 go_wp2_with (first | ((with_reducible refine gate_dst (N := 2) rfl ?_); refine box_event rfl (N := 2) rfl (cs := #[.slice A0_0 l0_0.length c0_0, .slice A0_1 l0_1.length c0_1]) (t := 29) gs_ ?_; intro gb589 hg w15 hbox hb; have BK589 := Aside0.mk (hbox); have GW589 := Aside0.mk ((by rw [hg]; exact bz_ : w.heap.size ≤ gb589)); have GE589 := GW589; replace HB := Aside0.mk (below_step bl_ hb); clear hb hbox hg; have hcz16_0 : w15.cell? ⟨gb589, 0, none⟩ = some (.slice A0_0 l0_0.length c0_0) := bc_ BK589.out 0; have hcz16_1 : w15.cell? ⟨gb589, 1, none⟩ = some (.slice A0_1 l0_1.length c0_1) := bc_ BK589.out 1; have hfz16_0 := blk_frozen BK589.out 0; have hfz16_1 := blk_frozen BK589.out 1) | ((with_reducible refine gate_callee (f := 35) rfl ?_); refine goesL_ (some 8) rfl rfl Try.func35 (by kernel_rfl) rfl #[.slice A0_0 l0_0.length c0_0, .int .i64 a1] rfl nc_ ?_; (with_reducible refine (laws_heldAddS.calls k _ _ l0_0 a1 t590 _ ?side1 ?side2 A3.out).mono ?_); (case side1 => exact kc_ (Kd.C_below HR0_0.out HB.out)); (case side2 => exact HC0_0.out); rintro e w17 ⟨rfl, hb⟩; refine ⟨_, rfl, ?_⟩; replace BK589 := bb_ BK589 hb; replace HB := Aside0.mk (below_step bl_ hb); clear hb; have hcz18_0 : w17.cell? ⟨gb589, 0, none⟩ = some (.slice A0_0 l0_0.length c0_0) := bc_ BK589.out 0; have hcz18_1 : w17.cell? ⟨gb589, 1, none⟩ = some (.slice A0_1 l0_1.length c0_1) := bc_ BK589.out 1; have hfz18_0 := blk_frozen BK589.out 0; have hfz18_1 := blk_frozen BK589.out 1) | ((with_reducible refine gate_callee (f := 35) rfl ?_); refine goesL_ (some 14) rfl rfl Try.func35 (by kernel_rfl) rfl #[.slice A0_1 l0_1.length c0_1, .int .i64 t590] rfl nc_ ?_; (with_reducible refine (laws_heldAddS.calls k _ _ l0_1 t590 t591 _ ?side1 ?side2 A8.out).mono ?_); (case side1 => exact kc_ (Kd.C_below HR0_1.out HB.out)); (case side2 => exact HC0_1.out); rintro e w19 ⟨rfl, hb⟩; refine ⟨_, rfl, ?_⟩; replace BK589 := bb_ BK589 hb; replace HB := Aside0.mk (below_step bl_ hb); clear hb))
 go_ret
 exact ⟨ng_, bl_⟩

end Go.Proofs.Ytdnapgnnliibfaa.PRC
