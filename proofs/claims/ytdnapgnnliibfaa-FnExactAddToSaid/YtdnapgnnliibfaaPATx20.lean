/- What this text proves: the machine calls of these functions return what the plain functions say. Conditions: as each theorem says. Printed by a program of this session out of the translation. -/
import Derived.Test.YtdnapgnnliibfaaPATx0
import Derived.Test.YtdnapgnnliibfaaPATx3
import Derived.Test.YtdnapgnnliibfaaPATx5
import Derived.Test.YtdnapgnnliibfaaPATx19
namespace Go.Proofs.Ytdnapgnnliibfaa.PAT
open Go.RowKit Go.Proofs.YtdnapgnnliibfaaW.PrintWords Go.Proofs.YtdnapgnnliibfaaW.PrintLast Go.Proofs.YtdnapgnnliibfaaW.PrintMore
attribute [local go_sem] max2_int min2_int max_two min_two max_three min_three max_four min_four   -- for this text's walks alone
set_option linter.unusedVariables false
set_option linter.unusedSimpArgs false

theorem gr_of {w W : World} {g : Nat} (hg : g = W.heap.size) (h : Below w.heap.size w W) : w.heap.size ≤ g := hg ▸ h.size
theorem below_self_of {α : Type} {d : Kd α} {w : World} {A : Option Addr} {n : Nat} {xs : List α} (_h : d.C w A n xs) : Below w.heap.size w w := Below.refl _ _

/-! ### spec_AddTo: function 24 -/
mutual
def spec_AddTo.j0 : Nat → Int → ByteArray → Bool → List (S48) → List (S48) → Option ((List (S48)) × (List (S48)) × Bool)
 | 0, _, _, _, _, _ => none
 | k + 1, x1, x2, x21, x505000, x505001 => if x21 = true then (some (([] : List (S48)), ([] : List (S48)), false)) else ((some (([x505000, x505001] : List (List (S48))) : List (List (S48)))).bind fun y508 => (spec_AddTo.l0 k x1 x2 1 y508 (y508.length : Int) 0 x505000 x505001))
def spec_AddTo.l0 : Nat → Int → ByteArray → Int → List (List (S48)) → Int → Int → List (S48) → List (S48) → Option ((List (S48)) × (List (S48)) × Bool)
 | 0, _, _, _, _, _, _, _, _ => none
 | k + 1, x1, x2, x8, x27, x28, x29, x505000, x505001 => if x29 < x28 then (if 0 ≤ x29 then (if x29 < (x27.length : Int) then (spec_AddTo.l1 k x1 x2 x8 x27 x28 x29 (rd_L6 x27 x29) ((rd_L6 x27 x29).length : Int) 0 x505000 x505001) else (none)) else (none)) else ((spec_l14Put.f k x505000 x2 x1 x8).bind fun t514 => ((some (([] : List (S48)) : List (S48))).bind fun y517 => (if y517.length + x505001.length < 4398046511104 then ((some (y517 ++ x505001 : List (S48))).bind fun y520 => ((spec_GoodBag.f k t514 y520).bind fun t524 => (if t524 = true then (some (t514, y520, true)) else (some (([] : List (S48)), ([] : List (S48)), false))))) else (none))))
def spec_AddTo.l1 : Nat → Int → ByteArray → Int → List (List (S48)) → Int → Int → List (S48) → Int → Int → List (S48) → List (S48) → Option ((List (S48)) × (List (S48)) × Bool)
 | 0, _, _, _, _, _, _, _, _, _, _, _ => none
 | k + 1, x1, x2, x8, x27, x28, x29, x33, x34, x35, x505000, x505001 => if x35 < x34 then (if 0 ≤ x35 then (if x35 < (x33.length : Int) then (if ((rd_T48 x33 x35).f1) = x1 then (if ((rd_T48 x33 x35).f2) ≥ x8 then (spec_AddTo.l1 k x1 x2 (wrap64 (((rd_T48 x33 x35).f2) + 1)) x27 x28 x29 x33 x34 (wrap64 (x35 + 1)) x505000 x505001) else (spec_AddTo.l1 k x1 x2 x8 x27 x28 x29 x33 x34 (wrap64 (x35 + 1)) x505000 x505001)) else (spec_AddTo.l1 k x1 x2 x8 x27 x28 x29 x33 x34 (wrap64 (x35 + 1)) x505000 x505001)) else (none)) else (none)) else (spec_AddTo.l0 k x1 x2 x8 x27 x28 (wrap64 (x29 + 1)) x505000 x505001)
end
def spec_AddTo.f (k : Nat) (l0_0 : List (S48)) (l0_1 : List (S48)) (a1 : Int) (a2 : ByteArray) : Option ((List (S48)) × (List (S48)) × Bool) := (spec_GoodBag.f k l0_0 l0_1).bind fun t506 => (if t506 = true then ((spec_l1In.f a1 0 5).bind fun t507 => (spec_AddTo.j0 k a1 a2 (!t507) l0_0 l0_1)) else (spec_AddTo.j0 k a1 a2 true l0_0 l0_1))
theorem spec_AddTo.mono_l : ∀ k, (∀ y0 y1 y2 y3 y4, LeO (spec_AddTo.j0 k y0 y1 y2 y3 y4) (spec_AddTo.j0 (k + 1) y0 y1 y2 y3 y4)) ∧ (∀ y0 y1 y2 y3 y4 y5 y6 y7, LeO (spec_AddTo.l0 k y0 y1 y2 y3 y4 y5 y6 y7) (spec_AddTo.l0 (k + 1) y0 y1 y2 y3 y4 y5 y6 y7)) ∧ (∀ y0 y1 y2 y3 y4 y5 y6 y7 y8 y9 y10, LeO (spec_AddTo.l1 k y0 y1 y2 y3 y4 y5 y6 y7 y8 y9 y10) (spec_AddTo.l1 (k + 1) y0 y1 y2 y3 y4 y5 y6 y7 y8 y9 y10))
 | 0 => ⟨fun _ _ _ _ _ r h => by simp [spec_AddTo.j0] at h, fun _ _ _ _ _ _ _ _ r h => by simp [spec_AddTo.l0] at h, fun _ _ _ _ _ _ _ _ _ _ _ r h => by simp [spec_AddTo.l1] at h⟩
 | k + 1 => by
  obtain ⟨ih0, ih1, ih2⟩ := spec_AddTo.mono_l k
  refine ⟨?_, ?_, ?_⟩
  ·intro y0 y1 y2 y3 y4
   unfold spec_AddTo.j0
   repeat' first
   | (with_reducible exact ih0 _ _ _ _ _)
   | (with_reducible exact ih1 _ _ _ _ _ _ _ _)
   | (with_reducible exact ih2 _ _ _ _ _ _ _ _ _ _ _)
   | (with_reducible exact spec_GoodBag.mono _ _ _)
   | (with_reducible exact spec_l14Put.mono _ _ _ _ _)
   | (with_reducible exact LeO.refl _)
   | (with_reducible exact LeO.none _)
   | (with_reducible refine LeO.ite ?_ ?_)
   | (with_reducible refine LeO.bind ?_ (fun _ => ?_))
   | exact ih0 _ _ _ _ _
   | exact ih1 _ _ _ _ _ _ _ _
   | exact ih2 _ _ _ _ _ _ _ _ _ _ _
   | exact spec_GoodBag.mono _ _ _
   | exact spec_l14Put.mono _ _ _ _ _
   | exact LeO.none _
   | refine LeO.ite ?_ ?_
   | refine LeO.bind ?_ (fun _ => ?_)
  ·intro y0 y1 y2 y3 y4 y5 y6 y7
   unfold spec_AddTo.l0
   repeat' first
   | (with_reducible exact ih0 _ _ _ _ _)
   | (with_reducible exact ih1 _ _ _ _ _ _ _ _)
   | (with_reducible exact ih2 _ _ _ _ _ _ _ _ _ _ _)
   | (with_reducible exact spec_GoodBag.mono _ _ _)
   | (with_reducible exact spec_l14Put.mono _ _ _ _ _)
   | (with_reducible exact LeO.refl _)
   | (with_reducible exact LeO.none _)
   | (with_reducible refine LeO.ite ?_ ?_)
   | (with_reducible refine LeO.bind ?_ (fun _ => ?_))
   | exact ih0 _ _ _ _ _
   | exact ih1 _ _ _ _ _ _ _ _
   | exact ih2 _ _ _ _ _ _ _ _ _ _ _
   | exact spec_GoodBag.mono _ _ _
   | exact spec_l14Put.mono _ _ _ _ _
   | exact LeO.none _
   | refine LeO.ite ?_ ?_
   | refine LeO.bind ?_ (fun _ => ?_)
  ·intro y0 y1 y2 y3 y4 y5 y6 y7 y8 y9 y10
   unfold spec_AddTo.l1
   repeat' first
   | (with_reducible exact ih0 _ _ _ _ _)
   | (with_reducible exact ih1 _ _ _ _ _ _ _ _)
   | (with_reducible exact ih2 _ _ _ _ _ _ _ _ _ _ _)
   | (with_reducible exact spec_GoodBag.mono _ _ _)
   | (with_reducible exact spec_l14Put.mono _ _ _ _ _)
   | (with_reducible exact LeO.refl _)
   | (with_reducible exact LeO.none _)
   | (with_reducible refine LeO.ite ?_ ?_)
   | (with_reducible refine LeO.bind ?_ (fun _ => ?_))
   | exact ih0 _ _ _ _ _
   | exact ih1 _ _ _ _ _ _ _ _
   | exact ih2 _ _ _ _ _ _ _ _ _ _ _
   | exact spec_GoodBag.mono _ _ _
   | exact spec_l14Put.mono _ _ _ _ _
   | exact LeO.none _
   | refine LeO.ite ?_ ?_
   | refine LeO.bind ?_ (fun _ => ?_)
theorem spec_AddTo.mono : ∀ a0 a1 a2 a3 k, LeO (spec_AddTo.f k a0 a1 a2 a3) (spec_AddTo.f (k + 1) a0 a1 a2 a3) := by
 intro a0 a1 a2 a3 k
 obtain ⟨ih0, ih1, ih2⟩ := spec_AddTo.mono_l k
 unfold spec_AddTo.f
 repeat' first
   | (with_reducible exact ih0 _ _ _ _ _)
   | (with_reducible exact ih1 _ _ _ _ _ _ _ _)
   | (with_reducible exact ih2 _ _ _ _ _ _ _ _ _ _ _)
   | (with_reducible exact spec_GoodBag.mono _ _ _)
   | (with_reducible exact spec_l14Put.mono _ _ _ _ _)
   | (with_reducible exact LeO.refl _)
   | (with_reducible exact LeO.none _)
   | (with_reducible refine LeO.ite ?_ ?_)
   | (with_reducible refine LeO.bind ?_ (fun _ => ?_))
   | exact ih0 _ _ _ _ _
   | exact ih1 _ _ _ _ _ _ _ _
   | exact ih2 _ _ _ _ _ _ _ _ _ _ _
   | exact spec_GoodBag.mono _ _ _
   | exact spec_l14Put.mono _ _ _ _ _
   | exact LeO.none _
   | refine LeO.ite ?_ ?_
   | refine LeO.bind ?_ (fun _ => ?_)
def spec_AddTo.T14 : Bool × List (List Nat × List Nat) := (true, [([], []), ([0], [0]), ([], []), ([], []), ([], []), ([2, 3, 4], [2, 3, 4]), ([1, 5], [1, 5]), ([], []), ([], []), ([8], [8]), ([7, 9, 6], [7, 9]), ([6, 10], [6, 10]), ([], []), ([12, 11, 10, 0, 1, 2, 3, 4, 5, 6, 7, 8, 9, 10, 11, 12], [11, 12])])
def spec_AddTo.B14 : List Nat := [0, 1, 0, 0, 0, 28, 63, 0, 0, 256, 1023, 2047, 0, 8191]
theorem spec_AddTo.tab14 : rtab .any (opsOf Try.f24 14) = spec_AddTo.T14 := by kernel_rfl
theorem spec_AddTo.bits14 : waitsOk spec_AddTo.T14.2 spec_AddTo.B14 = true := by kernel_rfl
set_option maxHeartbeats 8000000 in
set_option maxRecDepth 100000 in
theorem spec_AddTo.calls (k : Nat) (P0_0_ : Nat → Prop) (A0_0 : Option Addr) (c0_0 : Nat) (l0_0 : List (S48)) (P0_1_ : Nat → Prop) (A0_1 : Option Addr) (c0_1 : Nat) (l0_1 : List (S48)) (a1 : Int) (a2 : ByteArray) (r1 : List (S48)) (r2 : List (S48)) (r3 : Bool) (w : World) (hs0_0 : Kd.V k48 48 w w.heap.size (fun k_ => P0_0_ k_) (.slice A0_0 l0_0.length c0_0) l0_0) (hs0_1 : Kd.V k48 48 w w.heap.size (fun k_ => P0_1_ k_) (.slice A0_1 l0_1.length c0_1) l0_1) (h : spec_AddTo.f k l0_0 l0_1 a1 a2 = some (r1, r2, r3)) :
  Calls Try.prog 24 #[.agg #[.slice A0_0 l0_0.length c0_0, .slice A0_1 l0_1.length c0_1], .int .i64 a1, .string a2] w fun e w' => ∃ v0_ v1_ : Value, e = .returned (.tuple #[.agg #[v0_, v1_], .bool r3]) ∧ Kd.R k48 48 w' w.heap.size (fun k_ => (w.heap.size ≤ k_) ∧ some k_ ≠ (v1_ : Value).ownBlock) v0_ r1 ∧ Kd.R k48 48 w' w.heap.size (fun k_ => (w.heap.size ≤ k_) ∧ some k_ ≠ (v0_ : Value).ownBlock) v1_ r2 ∧ Below w.heap.size w w' := by
 have hu29 := Try.underlying29
 have hu48 := Try.underlying48
 have HO0_0 := Aside0.mk (show Kd.V k48 48 w w.heap.size (fun k_ => ((P0_0_ k_ ∨ P0_1_ k_) ∨ w.heap.size ≤ k_)) (.slice A0_0 l0_0.length c0_0) l0_0 from Kd.V_mono hs0_0 (fun k_ hk => .inl (.inl hk)))
 have HO0_1 := Aside0.mk (show Kd.V k48 48 w w.heap.size (fun k_ => ((P0_0_ k_ ∨ P0_1_ k_) ∨ w.heap.size ≤ k_)) (.slice A0_1 l0_1.length c0_1) l0_1 from Kd.V_mono hs0_1 (fun k_ hk => .inl (.inr hk)))
 have HB := Aside0.mk (Below.refl w.heap.size w)
 have H : ((spec_GoodBag.f k l0_0 l0_1).bind fun t506 => (if t506 = true then ((spec_l1In.f a1 0 5).bind fun t507 => (spec_AddTo.j0 k a1 a2 (!t507) l0_0 l0_1)) else (spec_AddTo.j0 k a1 a2 true l0_0 l0_1))) = some (r1, r2, r3) := h
 clear h
 have HC4 := Aside0.mk H
 clear H
 go_enter Try.func24, Try.ntmps24
 go_upto_region 1 with (first | ((with_reducible refine gate_dst (N := 3) rfl ?_); refine box_event rfl (N := 3) rfl (cs := #[.slice A0_0 l0_0.length c0_0, .slice A0_1 l0_1.length c0_1]) (t := 29) gs_ ?_; intro gb504 hg w5 hbox hb; replace HO0_0 := Aside0.mk (Kd.V_below (Kd.V_elderB (by (with_reducible repeat (first | apply Kd.V_alloc | apply Kd.V_drewN | apply Kd.V_drew)); exact HO0_0.out) gb504 (Nat.le_of_eq hg.symm)) hb); replace HO0_1 := Aside0.mk (Kd.V_below (Kd.V_elderB (by (with_reducible repeat (first | apply Kd.V_alloc | apply Kd.V_drewN | apply Kd.V_drew)); exact HO0_1.out) gb504 (Nat.le_of_eq hg.symm)) hb); have BK504 := Aside0.mk (hbox); have GW504 := Aside0.mk ((by rw [hg]; exact bz_ : w.heap.size ≤ gb504)); have GE504 := GW504; replace HB := Aside0.mk (below_step bl_ hb); clear hb hbox hg) | ((with_reducible refine gate_dst (N := 6) rfl ?_); refine box_event rfl (N := 6) rfl (cs := #[.slice none 0 0, .slice none 0 0]) (t := 29) gs_ ?_; intro gb505 hg w6 hbox hb; replace HO0_0 := Aside0.mk (Kd.V_below (Kd.V_elderB (by (with_reducible repeat (first | apply Kd.V_alloc | apply Kd.V_drewN | apply Kd.V_drew)); exact HO0_0.out) gb505 (Nat.le_of_eq hg.symm)) hb); replace HO0_1 := Aside0.mk (Kd.V_below (Kd.V_elderB (by (with_reducible repeat (first | apply Kd.V_alloc | apply Kd.V_drewN | apply Kd.V_drew)); exact HO0_1.out) gb505 (Nat.le_of_eq hg.symm)) hb); have BK505 := Aside0.mk (hbox); have GW505 := Aside0.mk ((by rw [hg]; exact bz_ : w.heap.size ≤ gb505)); have GE505 := GW505; replace HB := Aside0.mk (below_step bl_ hb); have NB504_505 := nl_ hg BK504; have NB505_504 := nm_ hg BK504; replace BK504 := bb_ BK504 hb; clear hb hbox hg))
 (try simp only [Act.put, List.setIfInBounds_toArray, List.set_cons_zero, List.set_cons_succ])
 go_cut [21] (fun v21 wc => ∃ (kq : Nat) (x21_3 : Bool), v21 = .bool x21_3 ∧ Aside0 (spec_AddTo.j0 kq a1 a2 x21_3 l0_0 l0_1 = some (r1, r2, r3)) ∧ Aside0 (kq ≤ k) ∧ Aside0 (Kd.V k48 48 wc w.heap.size (fun k_ => ((P0_0_ k_ ∨ P0_1_ k_) ∨ w.heap.size ≤ k_) ∧ k_ ≠ gb504 ∧ k_ ≠ gb505) (.slice A0_0 l0_0.length c0_0) l0_0) ∧ Aside0 (Kd.V k48 48 wc w.heap.size (fun k_ => ((P0_0_ k_ ∨ P0_1_ k_) ∨ w.heap.size ≤ k_) ∧ k_ ≠ gb504 ∧ k_ ≠ gb505) (.slice A0_1 l0_1.length c0_1) l0_1) ∧ Aside0 (wc.heap[gb504]? = some (.cells #[(.slice A0_0 l0_0.length c0_0), (.slice A0_1 l0_1.length c0_1)] 29 (0, 0))) ∧ Aside0 (wc.heap[gb505]? = some (.cells #[(.slice none 0 0), (.slice none 0 0)] 29 (0, 0))) ∧ Aside0 (Below w.heap.size w wc))
 case first =>
  have H := HC4.out
  clear HC4
  replace H := Option.bind_eq_some_iff.mp H
  obtain ⟨t506, A70, H⟩ := H
  replace H : (if t506 = true then ((spec_l1In.f a1 0 5).bind fun t507 => (spec_AddTo.j0 k a1 a2 (!t507) l0_0 l0_1)) else (spec_AddTo.j0 k a1 a2 true l0_0 l0_1)) = some (r1, r2, r3) := H
  have A7 := Aside0.mk A70
  clear A70
  by_cases c8 : t506 = true
  rotate_left
  ·replace c8 := Bool.eq_false_iff.mpr c8
   subst c8
   have H1 : (spec_AddTo.j0 k a1 a2 true l0_0 l0_1) = some (r1, r2, r3) := by rw [if_neg (show ¬ (false = true) by decide)] at H; exact H
   clear H
   have H := H1
   clear H1
   have H' := Aside0.mk H
   clear H
   have hnb13 := NB504_505.out
   have hnc13 := NB505_504.out
   have hcz14_0 : w6.cell? ⟨gb504, 0, none⟩ = some (.slice A0_0 l0_0.length c0_0) := bc_ BK504.out 0
   have hcz14_1 : w6.cell? ⟨gb504, 1, none⟩ = some (.slice A0_1 l0_1.length c0_1) := bc_ BK504.out 1
   have hfz14_0 := blk_frozen BK504.out 0
   have hfz14_1 := blk_frozen BK504.out 1
   go_wp2_with (first | ((with_reducible refine gate_callee (f := 9) rfl ?_); refine goesL_ (some 15) rfl rfl Try.func9 (by kernel_rfl) rfl #[.agg #[.slice A0_0 l0_0.length c0_0, .slice A0_1 l0_1.length c0_1]] rfl nc_ ?_; (with_reducible refine (spec_GoodBag.calls k _ _ l0_0 _ _ l0_1 false _ ?side1 ?side2 ?side3 ?side4 A7.out).mono ?_); (case side1 => exact kc_ (Kd.V_reads' HO0_0.out).2.2); (case side2 => exact (Kd.V_reads' HO0_0.out).2.1); (case side3 => exact kc_ (Kd.V_reads' HO0_1.out).2.2); (case side4 => exact (Kd.V_reads' HO0_1.out).2.1); rintro e w15 ⟨rfl, hb⟩; refine ⟨_, rfl, ?_⟩; replace HO0_0 := Aside0.mk (Kd.V_below (by (with_reducible repeat (first | apply Kd.V_alloc | apply Kd.V_drewN | apply Kd.V_drew)); exact HO0_0.out) hb); replace HO0_1 := Aside0.mk (Kd.V_below (by (with_reducible repeat (first | apply Kd.V_alloc | apply Kd.V_drewN | apply Kd.V_drew)); exact HO0_1.out) hb); replace BK504 := bb_ BK504 hb; replace BK505 := bb_ BK505 hb; replace HB := Aside0.mk (below_step bl_ hb); clear hb))
   go_meet
   case rel => exact ⟨_, (true), (by first | rfl | (simp; done) | (simp [*]; done)), H', ⟨by first | omega | exact Nat.le_refl _⟩, ⟨by (with_reducible repeat (first | apply Kd.V_alloc | apply Kd.V_drewN | apply Kd.V_drew)); exact Kd.V_mono HO0_0.out (fun _ hk => ⟨hk.1.1, ⟨hk.1.2, hk.2⟩⟩)⟩, ⟨by (with_reducible repeat (first | apply Kd.V_alloc | apply Kd.V_drewN | apply Kd.V_drew)); exact Kd.V_mono HO0_1.out (fun _ hk => ⟨hk.1.1, ⟨hk.1.2, hk.2⟩⟩)⟩, ⟨by exact kb_ BK504.out⟩, ⟨by exact kb_ BK505.out⟩, ⟨bl_⟩⟩
  subst c8
  have H1 : ((spec_l1In.f a1 0 5).bind fun t507 => (spec_AddTo.j0 k a1 a2 (!t507) l0_0 l0_1)) = some (r1, r2, r3) := by rw [if_pos rfl] at H; exact H
  clear H
  have H := H1
  clear H1
  replace H := Option.bind_eq_some_iff.mp H
  obtain ⟨t507, A90, H⟩ := H
  replace H : (spec_AddTo.j0 k a1 a2 (!t507) l0_0 l0_1) = some (r1, r2, r3) := H
  have A9 := Aside0.mk A90
  clear A90
  have H' := Aside0.mk H
  clear H
  have hnb10 := NB504_505.out
  have hnc10 := NB505_504.out
  have hcz11_0 : w6.cell? ⟨gb504, 0, none⟩ = some (.slice A0_0 l0_0.length c0_0) := bc_ BK504.out 0
  have hcz11_1 : w6.cell? ⟨gb504, 1, none⟩ = some (.slice A0_1 l0_1.length c0_1) := bc_ BK504.out 1
  have hfz11_0 := blk_frozen BK504.out 0
  have hfz11_1 := blk_frozen BK504.out 1
  go_wp2_with (first | ((with_reducible refine gate_callee (f := 9) rfl ?_); refine goesL_ (some 15) rfl rfl Try.func9 (by kernel_rfl) rfl #[.agg #[.slice A0_0 l0_0.length c0_0, .slice A0_1 l0_1.length c0_1]] rfl nc_ ?_; (with_reducible refine (spec_GoodBag.calls k _ _ l0_0 _ _ l0_1 true _ ?side1 ?side2 ?side3 ?side4 A7.out).mono ?_); (case side1 => exact kc_ (Kd.V_reads' HO0_0.out).2.2); (case side2 => exact (Kd.V_reads' HO0_0.out).2.1); (case side3 => exact kc_ (Kd.V_reads' HO0_1.out).2.2); (case side4 => exact (Kd.V_reads' HO0_1.out).2.1); rintro e w12 ⟨rfl, hb⟩; refine ⟨_, rfl, ?_⟩; replace HO0_0 := Aside0.mk (Kd.V_below (by (with_reducible repeat (first | apply Kd.V_alloc | apply Kd.V_drewN | apply Kd.V_drew)); exact HO0_0.out) hb); replace HO0_1 := Aside0.mk (Kd.V_below (by (with_reducible repeat (first | apply Kd.V_alloc | apply Kd.V_drewN | apply Kd.V_drew)); exact HO0_1.out) hb); replace BK504 := bb_ BK504 hb; replace BK505 := bb_ BK505 hb; replace HB := Aside0.mk (below_step bl_ hb); clear hb) | (go_at_call 48; (with_reducible refine (spec_l1In.calls a1 0 5 t507 _ A9.out).mono ?_); rintro e w' ⟨rfl, ⟨nd, rfl⟩⟩))
  go_meet
  case rel => exact ⟨_, (!t507), (by first | rfl | (simp; done) | (simp [*]; done)), H', ⟨by first | omega | exact Nat.le_refl _⟩, ⟨by (with_reducible repeat (first | apply Kd.V_alloc | apply Kd.V_drewN | apply Kd.V_drew)); exact Kd.V_mono HO0_0.out (fun _ hk => ⟨hk.1.1, ⟨hk.1.2, hk.2⟩⟩)⟩, ⟨by (with_reducible repeat (first | apply Kd.V_alloc | apply Kd.V_drewN | apply Kd.V_drew)); exact Kd.V_mono HO0_1.out (fun _ hk => ⟨hk.1.1, ⟨hk.1.2, hk.2⟩⟩)⟩, ⟨by exact kb_ BK504.out⟩, ⟨by exact kb_ BK505.out⟩, ⟨bl_⟩⟩
 clear HC4
 try clear c1
 try clear c2
 try clear p2
 try clear c8
 try clear c9
 try clear c10
 try clear c13
 try clear hcz11_0
 try clear hcz11_1
 try clear hcz14_0
 try clear hcz14_1
 try clear hfz11_0
 try clear hfz11_1
 try clear hfz14_0
 try clear hfz14_1
 obtain ⟨kq, x21_3, rfl, HA, HJ3, HO_505000, HO_505001, BK504, BK505, HB⟩ := hcut
 cases kq with
 | zero => exact absurd HA.out (by simp [spec_AddTo.j0])
 | succ kj3 => ?_
 have H := HA.out
 clear HA
 simp only [spec_AddTo.j0] at H
 by_cases c16 : x21_3 = true
 ·subst c16
  have H1 : (some (([] : List (S48)), ([] : List (S48)), false)) = some (r1, r2, r3) := by rw [if_pos rfl] at H; exact H
  clear H
  have H := H1
  clear H1
  simp only [Option.some.injEq, Prod.mk.injEq] at H
  obtain ⟨rfl, rfl, rfl⟩ := H
  have hnb17 := NB505_504.out
  have hnc17 := NB504_505.out
  have hcz18_0 : wc.cell? ⟨gb505, 0, none⟩ = some (.slice none 0 0) := bc_ BK505.out 0
  have hcz18_1 : wc.cell? ⟨gb505, 1, none⟩ = some (.slice none 0 0) := bc_ BK505.out 1
  have hfz18_0 := blk_frozen BK505.out 0
  have hfz18_1 := blk_frozen BK505.out 1
  go_wp2
  refine bodyPost_ret (results_ct rfl _ _ gb505 29 #[.slice none 0 0, .slice none 0 0] (0, 0) _ rfl (by (with_reducible repeat (first | refine blk_drewN ?_ _ | refine blk_drew ?_ | refine blk_alloc ?_ _)); refine blk_put (cs := #[.slice none 0 0, .slice none 0 0]) ?_ 1 _ rfl; (with_reducible repeat (first | refine blk_drewN ?_ _ | refine blk_drew ?_ | refine blk_alloc ?_ _)); refine blk_put (cs := #[.slice none 0 0, .slice none 0 0]) ?_ 0 _ rfl; exact kb_ BK505.out) Try.underlying29 rfl (by kernel_rfl)) rfl ?_
  exact ⟨_, _, ng_, by first | exact Kd.R_nil _ _ _ _ _ | exact Kd.N_nil _ _ _ _ _ | exact Kd.V_nil _ _ _ _ _ | exact Kd.Q_nil _ _ _ _ _ | exact Kd.S_nil _ _ _ _ _, by first | exact Kd.R_nil _ _ _ _ _ | exact Kd.N_nil _ _ _ _ _ | exact Kd.V_nil _ _ _ _ _ | exact Kd.Q_nil _ _ _ _ _ | exact Kd.S_nil _ _ _ _ _, bl_⟩
 replace c16 := Bool.eq_false_iff.mpr c16
 subst c16
 have H1 : ((some (([l0_0, l0_1] : List (List (S48))) : List (List (S48)))).bind fun y508 => (spec_AddTo.l0 kj3 a1 a2 1 y508 (y508.length : Int) 0 l0_0 l0_1)) = some (r1, r2, r3) := by rw [if_neg (show ¬ (false = true) by decide)] at H; exact H
 clear H
 have H := H1
 clear H1
 obtain ⟨y508, hy508⟩ : ∃ y_ : List (List (S48)), y_ = (([l0_0, l0_1] : List (List (S48)))) := ⟨_, rfl⟩
 replace H : (spec_AddTo.l0 kj3 a1 a2 1 y508 (y508.length : Int) 0 l0_0 l0_1) = some (r1, r2, r3) := by first | (rw [hy508]; with_reducible exact H) | (have H2_ := (Option.bind_some _ _).symm.trans H; rw [hy508]; with_reducible exact H2_) | (have H2_ := (Option.bind_some _ _).symm.trans H; with_reducible exact H2_) | with_reducible exact H | (rw [hy508]; exact H) | exact H
 have Ny508 := Aside0.mk hy508
 clear hy508
 have H' := Aside0.mk H
 clear H
 have hnb19 := NB504_505.out
 have hnc19 := NB505_504.out
 have hcz20_0 : wc.cell? ⟨gb504, 0, none⟩ = some (.slice A0_0 l0_0.length c0_0) := bc_ BK504.out 0
 have hcz20_1 : wc.cell? ⟨gb504, 1, none⟩ = some (.slice A0_1 l0_1.length c0_1) := bc_ BK504.out 1
 have hfz20_0 := blk_frozen BK504.out 0
 have hfz20_1 := blk_frozen BK504.out 1
 go_wp2_with (first | ((with_reducible refine gate_dst (N := 27) rfl ?_); refine Kd.N_lit (Kd.slice 48 k48) _ 27 ?hg (N' := 27) ?hd (xs := ([l0_0, l0_1] : List (List (S48)))) (inner := [.slice A0_0 l0_0.length c0_0, .slice A0_1 l0_1.length c0_1]) (ok := (fun k_ => ((P0_0_ k_ ∨ P0_1_ k_) ∨ w.heap.size ≤ k_) ∧ k_ ≠ gb504 ∧ k_ ≠ gb505)) (okp := (fun k_ => ((P0_0_ k_ ∨ P0_1_ k_) ∨ w.heap.size ≤ k_) ∧ k_ ≠ gb504 ∧ k_ ≠ gb505)) ?hr ?hp (fun _ hk => hk) ((show ∀ k_, wc.heap.size ≤ k_ → (fun k_ => ((P0_0_ k_ ∨ P0_1_ k_) ∨ w.heap.size ≤ k_) ∧ k_ ≠ gb504 ∧ k_ ≠ gb505) k_ from fun k_ hk => ⟨(.inr (Nat.le_trans bz_ hk)), Kd.freshB (kb_ BK504.out) k_ hk, Kd.freshB (kb_ BK505.out) k_ hk⟩) _ (Nat.le_refl _)) (Below.refl _ _) (Nat.le_refl _) (by simp) ?_; (case hd => rfl); (case hg => rfl); (case hr => first | (go_simp; done) | (go_simp; rfl)); (case hp => exact (Reps.one (show Kd.FK (Kd.slice 48 k48) _ _ l0_0 [.slice A0_0 l0_0.length c0_0] from (Kd.FK_slice_mk (Kd.V_reads' (Kd.V_mono (ok' := (fun k_ => ((P0_0_ k_ ∨ P0_1_ k_) ∨ w.heap.size ≤ k_) ∧ k_ ≠ gb504 ∧ k_ ≠ gb505)) (HO_505000.out) (fun k_ hk => ⟨hk.1, ⟨hk.2.1, hk.2.2⟩⟩))).2.1 (Kd.V_F (Kd.V_mono (ok' := (fun k_ => ((P0_0_ k_ ∨ P0_1_ k_) ∨ w.heap.size ≤ k_) ∧ k_ ≠ gb504 ∧ k_ ≠ gb505)) (HO_505000.out) (fun k_ hk => ⟨hk.1, ⟨hk.2.1, hk.2.2⟩⟩))))) (Reps.one (show Kd.FK (Kd.slice 48 k48) _ _ l0_1 [.slice A0_1 l0_1.length c0_1] from (Kd.FK_slice_mk (Kd.V_reads' (Kd.V_mono (ok' := (fun k_ => ((P0_0_ k_ ∨ P0_1_ k_) ∨ w.heap.size ≤ k_) ∧ k_ ≠ gb504 ∧ k_ ≠ gb505)) (HO_505001.out) (fun k_ hk => ⟨hk.1, ⟨hk.2.1, hk.2.2⟩⟩))).2.1 (Kd.V_F (Kd.V_mono (ok' := (fun k_ => ((P0_0_ k_ ∨ P0_1_ k_) ∨ w.heap.size ≤ k_) ∧ k_ ≠ gb504 ∧ k_ ≠ gb505)) (HO_505001.out) (fun k_ hk => ⟨hk.1, ⟨hk.2.1, hk.2.2⟩⟩))))) (Reps.none _ _)))); intro v509 w21 ho22 hb hg_ hnew_; clear hg_ hnew_; (first | rw [← Ny508.out] at ho22 | (simp only [Int.reduceToNat] at ho22; rw [← Ny508.out] at ho22)); replace HO_505000 := Aside0.mk (Kd.V_elder' (by (with_reducible repeat (first | apply Kd.V_alloc | apply Kd.V_drewN | apply Kd.V_drew)); exact HO_505000.out) (Kd.N_base ho22) hb); replace HO_505001 := Aside0.mk (Kd.V_elder' (by (with_reducible repeat (first | apply Kd.V_alloc | apply Kd.V_drewN | apply Kd.V_drew)); exact HO_505001.out) (Kd.N_base ho22) hb); have HO510 := Aside0.mk (Kd.N_lower ho22 bz_); replace BK504 := bb_ BK504 hb; replace BK505 := bb_ BK505 hb; replace HB := Aside0.mk (below_step bl_ hb); clear hb ho22; obtain ⟨Ao23, co23, eo23⟩ := Kd.N_slice HO510.out; subst eo23))
 go_loopg [8, 29] kj3 (fun kq v8 v29 w' => ∃ (x8_2 : Int) (x29_2 : Int), v8 = .int .i64 x8_2 ∧ v29 = .int .i64 x29_2 ∧ Aside0 (spec_AddTo.l0 kq a1 a2 x8_2 y508 (y508.length : Int) x29_2 l0_0 l0_1 = some (r1, r2, r3)) ∧ Aside0 (kq ≤ kj3) ∧ Aside0 (Kd.N (Kd.slice 48 k48) 27 w' w.heap.size (fun k_ => ((P0_0_ k_ ∨ P0_1_ k_) ∨ w.heap.size ≤ k_) ∧ k_ ≠ gb504 ∧ k_ ≠ gb505) (.slice Ao23 y508.length co23) y508) ∧ Aside0 (Kd.V k48 48 w' w.heap.size (fun k_ => ((P0_0_ k_ ∨ P0_1_ k_) ∨ w.heap.size ≤ k_) ∧ some k_ ≠ ((.slice Ao23 y508.length co23) : Value).ownBlock ∧ k_ ≠ gb504 ∧ k_ ≠ gb505) (.slice A0_0 l0_0.length c0_0) l0_0) ∧ Aside0 (Kd.V k48 48 w' w.heap.size (fun k_ => ((P0_0_ k_ ∨ P0_1_ k_) ∨ w.heap.size ≤ k_) ∧ some k_ ≠ ((.slice Ao23 y508.length co23) : Value).ownBlock ∧ k_ ≠ gb504 ∧ k_ ≠ gb505) (.slice A0_1 l0_1.length c0_1) l0_1) ∧ Aside0 (w'.heap[gb504]? = some (.cells #[(.slice A0_0 l0_0.length c0_0), (.slice A0_1 l0_1.length c0_1)] 29 (0, 0))) ∧ Aside0 (w'.heap[gb505]? = some (.cells #[(.slice none 0 0), (.slice none 0 0)] 29 (0, 0))) ∧ Aside0 (Below w.heap.size w w'))
 case atStart => exact ⟨(1), (0), (by first | rfl | (simp; done) | (simp [*]; done)), (by first | rfl | (simp; done) | (simp [*]; done)), H', ⟨Nat.le_refl _⟩, ⟨by (with_reducible repeat (first | apply Kd.N_alloc | apply Kd.N_drewN | apply Kd.N_drew)); exact HO510.out⟩, ⟨by (with_reducible repeat (first | apply Kd.V_alloc | apply Kd.V_drewN | apply Kd.V_drew)); exact Kd.V_mono HO_505000.out (fun _ hk => ⟨hk.1.1, ⟨hk.2, ⟨hk.1.2.1, hk.1.2.2⟩⟩⟩)⟩, ⟨by (with_reducible repeat (first | apply Kd.V_alloc | apply Kd.V_drewN | apply Kd.V_drew)); exact Kd.V_mono HO_505001.out (fun _ hk => ⟨hk.1.1, ⟨hk.2, ⟨hk.1.2.1, hk.1.2.2⟩⟩⟩)⟩, ⟨by exact kb_ BK504.out⟩, ⟨by exact kb_ BK505.out⟩, ⟨bl_⟩⟩
 clear H'
 try clear c1
 try clear c2
 try clear p2
 try clear c8
 try clear c9
 try clear c10
 try clear c13
 try clear c16
 try clear c17
 try clear c19
 try clear hcz11_0
 try clear hcz11_1
 try clear hcz14_0
 try clear hcz14_1
 try clear hcz18_0
 try clear hcz18_1
 try clear hcz20_0
 try clear hcz20_1
 try clear hfz11_0
 try clear hfz11_1
 try clear hfz14_0
 try clear hfz14_1
 try clear hfz18_0
 try clear hfz18_1
 try clear hfz20_0
 try clear hfz20_1
 try clear p2
 obtain ⟨x8_2, x29_2, rfl, rfl, HA, HK2, HO_27, HO_505000, HO_505001, BK504, BK505, HB⟩ := hrel
 cases gk with
 | zero => exact absurd HA.out (by simp [spec_AddTo.l0])
 | succ k2 => ?_
 have H := HA.out
 clear HA
 simp only [spec_AddTo.l0] at H
 by_cases c24 : x29_2 < (y508.length : Int)
 ·rw [if_pos c24] at H
  have c24b0 : decide (x29_2 < (y508.length : Int)) = true := decide_eq_true c24
  clear c24
  by_cases c25 : 0 ≤ x29_2
  rotate_left
  ·rw [if_neg c25] at H
   exact absurd H (by simp)
  rw [if_pos c25] at H
  have c25b0 : decide (0 ≤ x29_2) = true := decide_eq_true c25
  clear c25
  by_cases c26 : x29_2 < (y508.length : Int)
  rotate_left
  ·rw [if_neg c26] at H
   exact absurd H (by simp)
  rw [if_pos c26] at H
  have c26b0 : decide (x29_2 < (y508.length : Int)) = true := decide_eq_true c26
  clear c26
  have H' := Aside0.mk H
  clear H
  have p511 : 0 ≤ (x29_2 : Int) := of_decide_eq_true (by first | (with_reducible assumption) | assumption)
  have q511 : x29_2 < (y508.length : Int) := of_decide_eq_true (by first | (with_reducible assumption) | assumption)
  obtain ⟨ad511, A511_0, c511_0, e511, hx511_0, hl511_0, hi511_0⟩ := at_L6 (Kd.N_reads' HO_27.out).2.2 x29_2 p511 q511
  cases e511
  obtain ⟨ce511, hce511, hMe511, hcc511⟩ := Kd.N_get HO_27.out [] x29_2 p511 (by first | exact q511 | exact of_decide_eq_true (by first | (with_reducible assumption) | assumption) | (have e_ := (Kd.N_reads' HO_27.out).1; omega))
  obtain ⟨ua511_0, uc511_0, rfl, ul511_0, ge511_0⟩ := Kd.FK_slice_open hMe511
  have hv511_0 := hcc511 0 _ rfl
  rw [Nat.add_zero, show ((Kd.slice 48 k48)).sz = 1 from rfl, Nat.mul_one] at hv511_0
  replace hv511_0 := Option.some.inj (hv511_0.symm.trans hx511_0)
  injection hv511_0 with hva_ hvn_ hvc_
  rw [hva_] at ge511_0
  rw [hvc_] at ul511_0
  have HL511_0 := Aside0.mk (show Kd.V k48 48 _ w.heap.size _ _ (rd_L6 y508 x29_2) from Kd.V_mk ul511_0 ge511_0)
  clear hva_ hvn_ hvc_ ge511_0 ul511_0 hcc511 hce511
  have HR511_0 := Aside0.mk hi511_0
  have HC511_0 := Aside0.mk hl511_0
  clear hi511_0 hl511_0
  replace p511 := eq_true p511
  replace q511 := eq_true q511
  go_wp2
  go_loopg [8, 35] k2 (fun kq v8 v35 w' => ∃ (x8_3 : Int) (x35_3 : Int), v8 = .int .i64 x8_3 ∧ v35 = .int .i64 x35_3 ∧ Aside0 (spec_AddTo.l1 kq a1 a2 x8_3 y508 (y508.length : Int) x29_2 (rd_L6 y508 x29_2) ((rd_L6 y508 x29_2).length : Int) x35_3 l0_0 l0_1 = some (r1, r2, r3)) ∧ Aside0 (kq ≤ k2) ∧ Aside0 (Kd.N (Kd.slice 48 k48) 27 w' w.heap.size (fun k_ => ((P0_0_ k_ ∨ P0_1_ k_) ∨ w.heap.size ≤ k_) ∧ k_ ≠ gb504 ∧ k_ ≠ gb505) (.slice (some ad511) y508.length co23) y508) ∧ Aside0 (Kd.V k48 48 w' w.heap.size (fun k_ => ((P0_0_ k_ ∨ P0_1_ k_) ∨ w.heap.size ≤ k_) ∧ some k_ ≠ ((.slice (some ad511) y508.length co23) : Value).ownBlock ∧ k_ ≠ gb504 ∧ k_ ≠ gb505) (.slice A0_0 l0_0.length c0_0) l0_0) ∧ Aside0 (Kd.V k48 48 w' w.heap.size (fun k_ => ((P0_0_ k_ ∨ P0_1_ k_) ∨ w.heap.size ≤ k_) ∧ some k_ ≠ ((.slice (some ad511) y508.length co23) : Value).ownBlock ∧ k_ ≠ gb504 ∧ k_ ≠ gb505) (.slice A0_1 l0_1.length c0_1) l0_1) ∧ Aside0 (w'.heap[gb504]? = some (.cells #[(.slice A0_0 l0_0.length c0_0), (.slice A0_1 l0_1.length c0_1)] 29 (0, 0))) ∧ Aside0 (w'.heap[gb505]? = some (.cells #[(.slice none 0 0), (.slice none 0 0)] 29 (0, 0))) ∧ Aside0 (Kd.C k48 w' A511_0 (rd_L6 y508 x29_2).length (rd_L6 y508 x29_2)) ∧ Aside0 (Below w.heap.size w w'))
  case atStart => exact ⟨(x8_2), (0), (by first | rfl | (simp; done) | (simp [*]; done)), (by first | rfl | (simp; done) | (simp [*]; done)), H', ⟨Nat.le_refl _⟩, ⟨by (with_reducible repeat (first | apply Kd.N_alloc | apply Kd.N_drewN | apply Kd.N_drew)); exact HO_27.out⟩, ⟨by (with_reducible repeat (first | apply Kd.V_alloc | apply Kd.V_drewN | apply Kd.V_drew)); exact HO_505000.out⟩, ⟨by (with_reducible repeat (first | apply Kd.V_alloc | apply Kd.V_drewN | apply Kd.V_drew)); exact HO_505001.out⟩, ⟨by exact kb_ BK504.out⟩, ⟨by exact kb_ BK505.out⟩, ⟨by repeat (first | (with_reducible exact HR511_0.out) | (with_reducible refine Kd.C_alloc ?_ _) | (with_reducible refine Kd.C_drewN ?_ _) | (with_reducible refine Kd.C_drew ?_) | exact HR511_0.out)⟩, ⟨bl_⟩⟩
  clear H'
  try clear c1
  try clear c2
  try clear p2
  try clear c5
  try clear p5
  try clear q5
  try clear hx5
  try clear c8
  try clear c9
  try clear c10
  try clear c13
  try clear c16
  try clear c17
  try clear c19
  try clear c24
  try clear c24b0
  try clear c25
  try clear c25b0
  try clear c26
  try clear c26b0
  try clear hcz11_0
  try clear hcz11_1
  try clear hcz14_0
  try clear hcz14_1
  try clear hcz18_0
  try clear hcz18_1
  try clear hcz20_0
  try clear hcz20_1
  try clear hfz11_0
  try clear hfz11_1
  try clear hfz14_0
  try clear hfz14_1
  try clear hfz18_0
  try clear hfz18_1
  try clear hfz20_0
  try clear hfz20_1
  try clear hx511_0
  try clear p2
  try clear p511
  try clear q511
  obtain ⟨x8_3, x35_3, rfl, rfl, HA, HK3, HO_27, HO_505000, HO_505001, BK504, BK505, HR511_0, HB⟩ := hrel
  have HRC_ := HR511_0
  have HBR_ := Aside0.mk (below_self_of HRC_.out)
  cases gk with
  | zero => exact absurd HA.out (by simp [spec_AddTo.l1])
  | succ k3 => ?_
  have H := HA.out
  clear HA
  simp only [spec_AddTo.l1] at H
  by_cases c27 : x35_3 < ((rd_L6 y508 x29_2).length : Int)
  rotate_left
  ·rw [if_neg c27] at H
   have c27b0 : decide (x35_3 < ((rd_L6 y508 x29_2).length : Int)) = false := decide_eq_false c27
   clear c27
   have H' := Aside0.mk H
   clear H
   go_wp2
   go_roundg k3
   case measure => have := HJ3.out; have := HK2.out; have := HK3.out; omega
   case rel => exact ⟨(x8_3), (wrap64 (x29_2 + 1)), (by first | rfl | (simp; done) | (simp [*]; done)), (by first | rfl | (simp; done) | (simp [*]; done)), H', ⟨by have := HJ3.out; have := HK2.out; have := HK3.out; omega⟩, ⟨by (with_reducible repeat (first | apply Kd.N_alloc | apply Kd.N_drewN | apply Kd.N_drew)); exact HO_27.out⟩, ⟨by (with_reducible repeat (first | apply Kd.V_alloc | apply Kd.V_drewN | apply Kd.V_drew)); exact HO_505000.out⟩, ⟨by (with_reducible repeat (first | apply Kd.V_alloc | apply Kd.V_drewN | apply Kd.V_drew)); exact HO_505001.out⟩, ⟨by exact kb_ BK504.out⟩, ⟨by exact kb_ BK505.out⟩, ⟨bl_⟩⟩
  rw [if_pos c27] at H
  have c27b0 : decide (x35_3 < ((rd_L6 y508 x29_2).length : Int)) = true := decide_eq_true c27
  clear c27
  by_cases c28 : 0 ≤ x35_3
  rotate_left
  ·rw [if_neg c28] at H
   exact absurd H (by simp)
  rw [if_pos c28] at H
  have c28b0 : decide (0 ≤ x35_3) = true := decide_eq_true c28
  clear c28
  by_cases c29 : x35_3 < ((rd_L6 y508 x29_2).length : Int)
  rotate_left
  ·rw [if_neg c29] at H
   exact absurd H (by simp)
  rw [if_pos c29] at H
  have c29b0 : decide (x35_3 < ((rd_L6 y508 x29_2).length : Int)) = true := decide_eq_true c29
  clear c29
  by_cases c30 : ((rd_T48 (rd_L6 y508 x29_2) x35_3).f1) = a1
  rotate_left
  ·rw [if_neg c30] at H
   have c30b0 : (((rd_T48 (rd_L6 y508 x29_2) x35_3).f1) == a1) = false := beq_eq_false_iff_ne.mpr c30
   have c30b1 : (((rd_T48 (rd_L6 y508 x29_2) x35_3).f1) != a1) = true := bne_iff_ne.mpr c30
   have H' := Aside0.mk H
   clear H
   have p512 : 0 ≤ (x35_3 : Int) := of_decide_eq_true (by first | (with_reducible assumption) | assumption)
   have q512 : x35_3 < ((rd_L6 y508 x29_2).length : Int) := of_decide_eq_true (by first | (with_reducible assumption) | assumption)
   obtain ⟨ad512, e512, hx512_0, hx512_1, hx512_2⟩ := at_T48 HR511_0.out x35_3 p512 q512
   cases e512
   replace p512 := eq_true p512
   replace q512 := eq_true q512
   go_wp2_with (first | ((with_reducible refine gate_dst (N := 12) rfl ?_); refine box_event rfl (N := 12) rfl (cs := #[.string (⟨#[]⟩ : ByteArray), .int .i64 0, .int .i64 0]) (t := 48) gs_ ?_; intro gb513 hg w40 hbox hb; have GR_ := Aside0.mk (gr_of hg (by repeat (first | exact HBR_.out | apply below_alloc | apply pw_below_drewN | apply below_drew1))); replace HBR_ := Aside0.mk (below_step (by repeat (first | exact HBR_.out | apply below_alloc | apply pw_below_drewN | apply below_drew1)) hb); replace HO_27 := Aside0.mk (Kd.N_below (Kd.N_elderB (by (with_reducible repeat (first | apply Kd.N_alloc | apply Kd.N_drewN | apply Kd.N_drew)); exact HO_27.out) gb513 (Nat.le_of_eq hg.symm)) hb); replace HO_505000 := Aside0.mk (Kd.V_below (Kd.V_elderB (by (with_reducible repeat (first | apply Kd.V_alloc | apply Kd.V_drewN | apply Kd.V_drew)); exact HO_505000.out) gb513 (Nat.le_of_eq hg.symm)) hb); replace HO_505001 := Aside0.mk (Kd.V_below (Kd.V_elderB (by (with_reducible repeat (first | apply Kd.V_alloc | apply Kd.V_drewN | apply Kd.V_drew)); exact HO_505001.out) gb513 (Nat.le_of_eq hg.symm)) hb); replace HR511_0 := Aside0.mk (Kd.C_below (by repeat (first | (with_reducible exact HR511_0.out) | (with_reducible refine Kd.C_alloc ?_ _) | (with_reducible refine Kd.C_drewN ?_ _) | (with_reducible refine Kd.C_drew ?_) | exact HR511_0.out)) hb); have BK513 := Aside0.mk (hbox); have GW513 := Aside0.mk ((by rw [hg]; exact bz_ : w.heap.size ≤ gb513)); have GE513 := GW513; replace HB := Aside0.mk (below_step bl_ hb); have NB504_513 := nl_ hg BK504; have NB513_504 := nm_ hg BK504; replace BK504 := bb_ BK504 hb; have NB505_513 := nl_ hg BK505; have NB513_505 := nm_ hg BK505; replace BK505 := bb_ BK505 hb; clear hb hbox hg; have hnb41 := NB513_504.out; have hnc41 := NB504_513.out; have hnb42 := NB513_505.out; have hnc42 := NB505_513.out; have hcz43_0 : w40.cell? ⟨gb513, 0, none⟩ = some (.string (⟨#[]⟩ : ByteArray)) := bc_ BK513.out 0; have hcz43_1 : w40.cell? ⟨gb513, 1, none⟩ = some (.int .i64 0) := bc_ BK513.out 1; have hcz43_2 : w40.cell? ⟨gb513, 2, none⟩ = some (.int .i64 0) := bc_ BK513.out 2; have hfz43_0 := blk_frozen BK513.out 0; have hfz43_1 := blk_frozen BK513.out 1; have hfz43_2 := blk_frozen BK513.out 2))
   go_roundg k3
   case measure => have := HJ3.out; have := HK2.out; have := HK3.out; omega
   case rel => exact ⟨(x8_3), (wrap64 (x35_3 + 1)), (by first | rfl | (simp; done) | (simp [*]; done)), (by first | rfl | (simp; done) | (simp [*]; done)), H', ⟨by have := HJ3.out; have := HK2.out; have := HK3.out; omega⟩, ⟨by (with_reducible repeat (first | apply Kd.N_alloc | apply Kd.N_drewN | apply Kd.N_drew)); exact Kd.N_mono (Kd.N_far (p := ⟨gb513, 2, none⟩) (Kd.N_far (p := ⟨gb513, 1, none⟩) (Kd.N_far (p := ⟨gb513, 0, none⟩) (Kd.N_mono HO_27.out (fun k_ hk => (⟨hk, hk.2⟩ : _ ∧ k_ ≠ gb513))) (fun _ hk => hk.2) (.string ((rd_T48 (rd_L6 y508 x29_2) x35_3).f0))) (fun _ hk => hk.2) (.int .i64 ((rd_T48 (rd_L6 y508 x29_2) x35_3).f1))) (fun _ hk => hk.2) (.int .i64 ((rd_T48 (rd_L6 y508 x29_2) x35_3).f2))) (fun _ hk => ⟨hk.1.1.1, ⟨hk.1.1.2.1, hk.1.1.2.2⟩⟩)⟩, ⟨by (with_reducible repeat (first | apply Kd.V_alloc | apply Kd.V_drewN | apply Kd.V_drew)); exact Kd.V_mono (Kd.V_far (p := ⟨gb513, 2, none⟩) (Kd.V_far (p := ⟨gb513, 1, none⟩) (Kd.V_far (p := ⟨gb513, 0, none⟩) (Kd.V_mono HO_505000.out (fun k_ hk => (⟨hk, hk.2⟩ : _ ∧ k_ ≠ gb513))) (fun _ hk => hk.2) (.string ((rd_T48 (rd_L6 y508 x29_2) x35_3).f0))) (fun _ hk => hk.2) (.int .i64 ((rd_T48 (rd_L6 y508 x29_2) x35_3).f1))) (fun _ hk => hk.2) (.int .i64 ((rd_T48 (rd_L6 y508 x29_2) x35_3).f2))) (fun _ hk => ⟨hk.1.1.1, ⟨hk.1.1.2.1, ⟨hk.1.1.2.2.1, hk.1.1.2.2.2⟩⟩⟩)⟩, ⟨by (with_reducible repeat (first | apply Kd.V_alloc | apply Kd.V_drewN | apply Kd.V_drew)); exact Kd.V_mono (Kd.V_far (p := ⟨gb513, 2, none⟩) (Kd.V_far (p := ⟨gb513, 1, none⟩) (Kd.V_far (p := ⟨gb513, 0, none⟩) (Kd.V_mono HO_505001.out (fun k_ hk => (⟨hk, hk.2⟩ : _ ∧ k_ ≠ gb513))) (fun _ hk => hk.2) (.string ((rd_T48 (rd_L6 y508 x29_2) x35_3).f0))) (fun _ hk => hk.2) (.int .i64 ((rd_T48 (rd_L6 y508 x29_2) x35_3).f1))) (fun _ hk => hk.2) (.int .i64 ((rd_T48 (rd_L6 y508 x29_2) x35_3).f2))) (fun _ hk => ⟨hk.1.1.1, ⟨hk.1.1.2.1, ⟨hk.1.1.2.2.1, hk.1.1.2.2.2⟩⟩⟩)⟩, ⟨kz_⟩, ⟨kz_⟩, ⟨(Kd.C_below HRC_.out (by repeat (first | (with_reducible first | exact HBR_.out | apply below_alloc | apply pw_below_drewN | apply below_drew1 | refine below_set ?_ GR_.out) | exact HBR_.out)))⟩, ⟨bl_⟩⟩
  rw [if_pos c30] at H
  have c30b0 : (((rd_T48 (rd_L6 y508 x29_2) x35_3).f1) == a1) = true := beq_iff_eq.mpr c30
  have c30b1 : (((rd_T48 (rd_L6 y508 x29_2) x35_3).f1) != a1) = false := bne_eq_false_iff_eq.mpr c30
  clear c30
  by_cases c31 : ((rd_T48 (rd_L6 y508 x29_2) x35_3).f2) ≥ x8_3
  rotate_left
  ·rw [if_neg c31] at H
   have c31b0 : decide (x8_3 ≤ ((rd_T48 (rd_L6 y508 x29_2) x35_3).f2)) = false := decide_eq_false c31
   clear c31
   have H' := Aside0.mk H
   clear H
   have p512 : 0 ≤ (x35_3 : Int) := of_decide_eq_true (by first | (with_reducible assumption) | assumption)
   have q512 : x35_3 < ((rd_L6 y508 x29_2).length : Int) := of_decide_eq_true (by first | (with_reducible assumption) | assumption)
   obtain ⟨ad512, e512, hx512_0, hx512_1, hx512_2⟩ := at_T48 HR511_0.out x35_3 p512 q512
   cases e512
   replace p512 := eq_true p512
   replace q512 := eq_true q512
   go_wp2_with (first | ((with_reducible refine gate_dst (N := 12) rfl ?_); refine box_event rfl (N := 12) rfl (cs := #[.string (⟨#[]⟩ : ByteArray), .int .i64 0, .int .i64 0]) (t := 48) gs_ ?_; intro gb513 hg w36 hbox hb; have GR_ := Aside0.mk (gr_of hg (by repeat (first | exact HBR_.out | apply below_alloc | apply pw_below_drewN | apply below_drew1))); replace HBR_ := Aside0.mk (below_step (by repeat (first | exact HBR_.out | apply below_alloc | apply pw_below_drewN | apply below_drew1)) hb); replace HO_27 := Aside0.mk (Kd.N_below (Kd.N_elderB (by (with_reducible repeat (first | apply Kd.N_alloc | apply Kd.N_drewN | apply Kd.N_drew)); exact HO_27.out) gb513 (Nat.le_of_eq hg.symm)) hb); replace HO_505000 := Aside0.mk (Kd.V_below (Kd.V_elderB (by (with_reducible repeat (first | apply Kd.V_alloc | apply Kd.V_drewN | apply Kd.V_drew)); exact HO_505000.out) gb513 (Nat.le_of_eq hg.symm)) hb); replace HO_505001 := Aside0.mk (Kd.V_below (Kd.V_elderB (by (with_reducible repeat (first | apply Kd.V_alloc | apply Kd.V_drewN | apply Kd.V_drew)); exact HO_505001.out) gb513 (Nat.le_of_eq hg.symm)) hb); replace HR511_0 := Aside0.mk (Kd.C_below (by repeat (first | (with_reducible exact HR511_0.out) | (with_reducible refine Kd.C_alloc ?_ _) | (with_reducible refine Kd.C_drewN ?_ _) | (with_reducible refine Kd.C_drew ?_) | exact HR511_0.out)) hb); have BK513 := Aside0.mk (hbox); have GW513 := Aside0.mk ((by rw [hg]; exact bz_ : w.heap.size ≤ gb513)); have GE513 := GW513; replace HB := Aside0.mk (below_step bl_ hb); have NB504_513 := nl_ hg BK504; have NB513_504 := nm_ hg BK504; replace BK504 := bb_ BK504 hb; have NB505_513 := nl_ hg BK505; have NB513_505 := nm_ hg BK505; replace BK505 := bb_ BK505 hb; clear hb hbox hg; have hnb37 := NB513_504.out; have hnc37 := NB504_513.out; have hnb38 := NB513_505.out; have hnc38 := NB505_513.out; have hcz39_0 : w36.cell? ⟨gb513, 0, none⟩ = some (.string (⟨#[]⟩ : ByteArray)) := bc_ BK513.out 0; have hcz39_1 : w36.cell? ⟨gb513, 1, none⟩ = some (.int .i64 0) := bc_ BK513.out 1; have hcz39_2 : w36.cell? ⟨gb513, 2, none⟩ = some (.int .i64 0) := bc_ BK513.out 2; have hfz39_0 := blk_frozen BK513.out 0; have hfz39_1 := blk_frozen BK513.out 1; have hfz39_2 := blk_frozen BK513.out 2))
   go_roundg k3
   case measure => have := HJ3.out; have := HK2.out; have := HK3.out; omega
   case rel => exact ⟨(x8_3), (wrap64 (x35_3 + 1)), (by first | rfl | (simp; done) | (simp [*]; done)), (by first | rfl | (simp; done) | (simp [*]; done)), H', ⟨by have := HJ3.out; have := HK2.out; have := HK3.out; omega⟩, ⟨by (with_reducible repeat (first | apply Kd.N_alloc | apply Kd.N_drewN | apply Kd.N_drew)); exact Kd.N_mono (Kd.N_far (p := ⟨gb513, 2, none⟩) (Kd.N_far (p := ⟨gb513, 1, none⟩) (Kd.N_far (p := ⟨gb513, 0, none⟩) (Kd.N_mono HO_27.out (fun k_ hk => (⟨hk, hk.2⟩ : _ ∧ k_ ≠ gb513))) (fun _ hk => hk.2) (.string ((rd_T48 (rd_L6 y508 x29_2) x35_3).f0))) (fun _ hk => hk.2) (.int .i64 ((rd_T48 (rd_L6 y508 x29_2) x35_3).f1))) (fun _ hk => hk.2) (.int .i64 ((rd_T48 (rd_L6 y508 x29_2) x35_3).f2))) (fun _ hk => ⟨hk.1.1.1, ⟨hk.1.1.2.1, hk.1.1.2.2⟩⟩)⟩, ⟨by (with_reducible repeat (first | apply Kd.V_alloc | apply Kd.V_drewN | apply Kd.V_drew)); exact Kd.V_mono (Kd.V_far (p := ⟨gb513, 2, none⟩) (Kd.V_far (p := ⟨gb513, 1, none⟩) (Kd.V_far (p := ⟨gb513, 0, none⟩) (Kd.V_mono HO_505000.out (fun k_ hk => (⟨hk, hk.2⟩ : _ ∧ k_ ≠ gb513))) (fun _ hk => hk.2) (.string ((rd_T48 (rd_L6 y508 x29_2) x35_3).f0))) (fun _ hk => hk.2) (.int .i64 ((rd_T48 (rd_L6 y508 x29_2) x35_3).f1))) (fun _ hk => hk.2) (.int .i64 ((rd_T48 (rd_L6 y508 x29_2) x35_3).f2))) (fun _ hk => ⟨hk.1.1.1, ⟨hk.1.1.2.1, ⟨hk.1.1.2.2.1, hk.1.1.2.2.2⟩⟩⟩)⟩, ⟨by (with_reducible repeat (first | apply Kd.V_alloc | apply Kd.V_drewN | apply Kd.V_drew)); exact Kd.V_mono (Kd.V_far (p := ⟨gb513, 2, none⟩) (Kd.V_far (p := ⟨gb513, 1, none⟩) (Kd.V_far (p := ⟨gb513, 0, none⟩) (Kd.V_mono HO_505001.out (fun k_ hk => (⟨hk, hk.2⟩ : _ ∧ k_ ≠ gb513))) (fun _ hk => hk.2) (.string ((rd_T48 (rd_L6 y508 x29_2) x35_3).f0))) (fun _ hk => hk.2) (.int .i64 ((rd_T48 (rd_L6 y508 x29_2) x35_3).f1))) (fun _ hk => hk.2) (.int .i64 ((rd_T48 (rd_L6 y508 x29_2) x35_3).f2))) (fun _ hk => ⟨hk.1.1.1, ⟨hk.1.1.2.1, ⟨hk.1.1.2.2.1, hk.1.1.2.2.2⟩⟩⟩)⟩, ⟨kz_⟩, ⟨kz_⟩, ⟨(Kd.C_below HRC_.out (by repeat (first | (with_reducible first | exact HBR_.out | apply below_alloc | apply pw_below_drewN | apply below_drew1 | refine below_set ?_ GR_.out) | exact HBR_.out)))⟩, ⟨bl_⟩⟩
  rw [if_pos c31] at H
  have c31b0 : decide (x8_3 ≤ ((rd_T48 (rd_L6 y508 x29_2) x35_3).f2)) = true := decide_eq_true c31
  clear c31
  have H' := Aside0.mk H
  clear H
  have p512 : 0 ≤ (x35_3 : Int) := of_decide_eq_true (by first | (with_reducible assumption) | assumption)
  have q512 : x35_3 < ((rd_L6 y508 x29_2).length : Int) := of_decide_eq_true (by first | (with_reducible assumption) | assumption)
  obtain ⟨ad512, e512, hx512_0, hx512_1, hx512_2⟩ := at_T48 HR511_0.out x35_3 p512 q512
  cases e512
  replace p512 := eq_true p512
  replace q512 := eq_true q512
  go_wp2_with (first | ((with_reducible refine gate_dst (N := 12) rfl ?_); refine box_event rfl (N := 12) rfl (cs := #[.string (⟨#[]⟩ : ByteArray), .int .i64 0, .int .i64 0]) (t := 48) gs_ ?_; intro gb513 hg w32 hbox hb; have GR_ := Aside0.mk (gr_of hg (by repeat (first | exact HBR_.out | apply below_alloc | apply pw_below_drewN | apply below_drew1))); replace HBR_ := Aside0.mk (below_step (by repeat (first | exact HBR_.out | apply below_alloc | apply pw_below_drewN | apply below_drew1)) hb); replace HO_27 := Aside0.mk (Kd.N_below (Kd.N_elderB (by (with_reducible repeat (first | apply Kd.N_alloc | apply Kd.N_drewN | apply Kd.N_drew)); exact HO_27.out) gb513 (Nat.le_of_eq hg.symm)) hb); replace HO_505000 := Aside0.mk (Kd.V_below (Kd.V_elderB (by (with_reducible repeat (first | apply Kd.V_alloc | apply Kd.V_drewN | apply Kd.V_drew)); exact HO_505000.out) gb513 (Nat.le_of_eq hg.symm)) hb); replace HO_505001 := Aside0.mk (Kd.V_below (Kd.V_elderB (by (with_reducible repeat (first | apply Kd.V_alloc | apply Kd.V_drewN | apply Kd.V_drew)); exact HO_505001.out) gb513 (Nat.le_of_eq hg.symm)) hb); replace HR511_0 := Aside0.mk (Kd.C_below (by repeat (first | (with_reducible exact HR511_0.out) | (with_reducible refine Kd.C_alloc ?_ _) | (with_reducible refine Kd.C_drewN ?_ _) | (with_reducible refine Kd.C_drew ?_) | exact HR511_0.out)) hb); have BK513 := Aside0.mk (hbox); have GW513 := Aside0.mk ((by rw [hg]; exact bz_ : w.heap.size ≤ gb513)); have GE513 := GW513; replace HB := Aside0.mk (below_step bl_ hb); have NB504_513 := nl_ hg BK504; have NB513_504 := nm_ hg BK504; replace BK504 := bb_ BK504 hb; have NB505_513 := nl_ hg BK505; have NB513_505 := nm_ hg BK505; replace BK505 := bb_ BK505 hb; clear hb hbox hg; have hnb33 := NB513_504.out; have hnc33 := NB504_513.out; have hnb34 := NB513_505.out; have hnc34 := NB505_513.out; have hcz35_0 : w32.cell? ⟨gb513, 0, none⟩ = some (.string (⟨#[]⟩ : ByteArray)) := bc_ BK513.out 0; have hcz35_1 : w32.cell? ⟨gb513, 1, none⟩ = some (.int .i64 0) := bc_ BK513.out 1; have hcz35_2 : w32.cell? ⟨gb513, 2, none⟩ = some (.int .i64 0) := bc_ BK513.out 2; have hfz35_0 := blk_frozen BK513.out 0; have hfz35_1 := blk_frozen BK513.out 1; have hfz35_2 := blk_frozen BK513.out 2))
  go_roundg k3
  case measure => have := HJ3.out; have := HK2.out; have := HK3.out; omega
  case rel => exact ⟨(wrap64 (((rd_T48 (rd_L6 y508 x29_2) x35_3).f2) + 1)), (wrap64 (x35_3 + 1)), (by first | rfl | (simp; done) | (simp [*]; done)), (by first | rfl | (simp; done) | (simp [*]; done)), H', ⟨by have := HJ3.out; have := HK2.out; have := HK3.out; omega⟩, ⟨by (with_reducible repeat (first | apply Kd.N_alloc | apply Kd.N_drewN | apply Kd.N_drew)); exact Kd.N_mono (Kd.N_far (p := ⟨gb513, 2, none⟩) (Kd.N_far (p := ⟨gb513, 1, none⟩) (Kd.N_far (p := ⟨gb513, 0, none⟩) (Kd.N_mono HO_27.out (fun k_ hk => (⟨hk, hk.2⟩ : _ ∧ k_ ≠ gb513))) (fun _ hk => hk.2) (.string ((rd_T48 (rd_L6 y508 x29_2) x35_3).f0))) (fun _ hk => hk.2) (.int .i64 ((rd_T48 (rd_L6 y508 x29_2) x35_3).f1))) (fun _ hk => hk.2) (.int .i64 ((rd_T48 (rd_L6 y508 x29_2) x35_3).f2))) (fun _ hk => ⟨hk.1.1.1, ⟨hk.1.1.2.1, hk.1.1.2.2⟩⟩)⟩, ⟨by (with_reducible repeat (first | apply Kd.V_alloc | apply Kd.V_drewN | apply Kd.V_drew)); exact Kd.V_mono (Kd.V_far (p := ⟨gb513, 2, none⟩) (Kd.V_far (p := ⟨gb513, 1, none⟩) (Kd.V_far (p := ⟨gb513, 0, none⟩) (Kd.V_mono HO_505000.out (fun k_ hk => (⟨hk, hk.2⟩ : _ ∧ k_ ≠ gb513))) (fun _ hk => hk.2) (.string ((rd_T48 (rd_L6 y508 x29_2) x35_3).f0))) (fun _ hk => hk.2) (.int .i64 ((rd_T48 (rd_L6 y508 x29_2) x35_3).f1))) (fun _ hk => hk.2) (.int .i64 ((rd_T48 (rd_L6 y508 x29_2) x35_3).f2))) (fun _ hk => ⟨hk.1.1.1, ⟨hk.1.1.2.1, ⟨hk.1.1.2.2.1, hk.1.1.2.2.2⟩⟩⟩)⟩, ⟨by (with_reducible repeat (first | apply Kd.V_alloc | apply Kd.V_drewN | apply Kd.V_drew)); exact Kd.V_mono (Kd.V_far (p := ⟨gb513, 2, none⟩) (Kd.V_far (p := ⟨gb513, 1, none⟩) (Kd.V_far (p := ⟨gb513, 0, none⟩) (Kd.V_mono HO_505001.out (fun k_ hk => (⟨hk, hk.2⟩ : _ ∧ k_ ≠ gb513))) (fun _ hk => hk.2) (.string ((rd_T48 (rd_L6 y508 x29_2) x35_3).f0))) (fun _ hk => hk.2) (.int .i64 ((rd_T48 (rd_L6 y508 x29_2) x35_3).f1))) (fun _ hk => hk.2) (.int .i64 ((rd_T48 (rd_L6 y508 x29_2) x35_3).f2))) (fun _ hk => ⟨hk.1.1.1, ⟨hk.1.1.2.1, ⟨hk.1.1.2.2.1, hk.1.1.2.2.2⟩⟩⟩)⟩, ⟨kz_⟩, ⟨kz_⟩, ⟨(Kd.C_below HRC_.out (by repeat (first | (with_reducible first | exact HBR_.out | apply below_alloc | apply pw_below_drewN | apply below_drew1 | refine below_set ?_ GR_.out) | exact HBR_.out)))⟩, ⟨bl_⟩⟩
 rw [if_neg c24] at H
 have c24b0 : decide (x29_2 < (y508.length : Int)) = false := decide_eq_false c24
 clear c24
 replace H := Option.bind_eq_some_iff.mp H
 obtain ⟨t514, A440, H⟩ := H
 replace H : ((some (([] : List (S48)) : List (S48))).bind fun y517 => (if y517.length + l0_1.length < 4398046511104 then ((some (y517 ++ l0_1 : List (S48))).bind fun y520 => ((spec_GoodBag.f k2 t514 y520).bind fun t524 => (if t524 = true then (some (t514, y520, true)) else (some (([] : List (S48)), ([] : List (S48)), false))))) else (none))) = some (r1, r2, r3) := H
 have A44 := Aside0.mk A440
 clear A440
 obtain ⟨y517, hy517⟩ : ∃ y_ : List (S48), y_ = (([] : List (S48))) := ⟨_, rfl⟩
 replace H : (if y517.length + l0_1.length < 4398046511104 then ((some (y517 ++ l0_1 : List (S48))).bind fun y520 => ((spec_GoodBag.f k2 t514 y520).bind fun t524 => (if t524 = true then (some (t514, y520, true)) else (some (([] : List (S48)), ([] : List (S48)), false))))) else (none)) = some (r1, r2, r3) := by first | (rw [hy517]; with_reducible exact H) | (have H2_ := (Option.bind_some _ _).symm.trans H; rw [hy517]; with_reducible exact H2_) | (have H2_ := (Option.bind_some _ _).symm.trans H; with_reducible exact H2_) | with_reducible exact H | (rw [hy517]; exact H) | exact H
 have Ny517 := Aside0.mk hy517
 clear hy517
 by_cases c45 : y517.length + l0_1.length < 4398046511104
 rotate_left
 ·rw [if_neg c45] at H
  exact absurd H (by simp)
 rw [if_pos c45] at H
 have LMc45 := Aside0.mk c45
 clear c45
 obtain ⟨y520, hy520⟩ : ∃ y_ : List (S48), y_ = (y517 ++ l0_1) := ⟨_, rfl⟩
 replace H : ((spec_GoodBag.f k2 t514 y520).bind fun t524 => (if t524 = true then (some (t514, y520, true)) else (some (([] : List (S48)), ([] : List (S48)), false)))) = some (r1, r2, r3) := by first | (rw [hy520]; with_reducible exact H) | (have H2_ := (Option.bind_some _ _).symm.trans H; rw [hy520]; with_reducible exact H2_) | (have H2_ := (Option.bind_some _ _).symm.trans H; with_reducible exact H2_) | with_reducible exact H | (rw [hy520]; exact H) | exact H
 have Ny520 := Aside0.mk hy520
 clear hy520
 replace H := Option.bind_eq_some_iff.mp H
 obtain ⟨t524, A460, H⟩ := H
 replace H : (if t524 = true then (some (t514, y520, true)) else (some (([] : List (S48)), ([] : List (S48)), false))) = some (r1, r2, r3) := H
 have A46 := Aside0.mk A460
 clear A460
 by_cases c47 : t524 = true
 rotate_left
 ·replace c47 := Bool.eq_false_iff.mpr c47
  subst c47
  have H1 : (some (([] : List (S48)), ([] : List (S48)), false)) = some (r1, r2, r3) := by rw [if_neg (show ¬ (false = true) by decide)] at H; exact H
  clear H
  have H := H1
  clear H1
  simp only [Option.some.injEq, Prod.mk.injEq] at H
  obtain ⟨rfl, rfl, rfl⟩ := H
  try go_wp2
  replace HO_27 := Aside0.mk (Kd.N_drew HO_27.out)
  replace HO_505000 := Aside0.mk (Kd.V_drew HO_505000.out)
  replace HO_505001 := Aside0.mk (Kd.V_drew HO_505001.out)
  replace BK504 := Aside0.mk (blk_drew BK504.out)
  replace BK505 := Aside0.mk (blk_drew BK505.out)
  replace HB := Aside0.mk (below_drew1 HB.out)
  refine start_ (n := 14) (S := fun w' => w'.cell? ⟨gb504, 0, none⟩ = some (.slice A0_0 l0_0.length c0_0) ∧ w'.cell? ⟨gb504, 1, none⟩ = some (.slice A0_1 l0_1.length c0_1)) (ds := []) #[false, false, false, false, false, false, false, false, false, false, false, false, false, false] (by kernel_rfl) rfl rfl ⟨bc_ BK504.out 0, bc_ BK504.out 1⟩ (fun hHeld => ?_); refine with_tabW spec_AddTo.tab14 spec_AddTo.bits14 (fun HT_ HW_ => ?_)
  generalize wr.drew = w68 at HO_27 HO_505000 HO_505001 BK504 BK505 HB hHeld ⊢
  refine pu_ 0 (some 54) (h := ?_)
  refine pu_ 2 (some 56) (h := ?_)
  refine pu_ 3 (some 57) (h := ?_)
  refine pu_ 4 (some 58) (h := ?_)
  refine pu_ 5 (some 59) (h := ?_)
  refine pu_ 8 (some 62) (h := ?_)
  refine tk2_ 1 (some 55) (h := ?_)
  refine tk2_ 9 (some 63) (h := ?_)
  refine join_ (σ := Value × Value × Value × Nat) 1 #[true, true, true, true, true, true, true, true, true, true, true, true, true, false] (fun s_ => [(60, s_.1), (61, s_.2.1), (64, s_.2.2.1), (13, .pointer (some ⟨s_.2.2.2, 0, none⟩)), (65, .agg #[s_.1, s_.2.2.1])]) (fun s_ w' => (w'.cell? ⟨gb504, 0, none⟩ = some (.slice A0_0 l0_0.length c0_0) ∧ w'.cell? ⟨gb504, 1, none⟩ = some (.slice A0_1 l0_1.length c0_1)) ∧ (Kd.R k48 48 w' w.heap.size (fun k_ => (w.heap.size ≤ k_) ∧ some k_ ≠ (s_.2.2.1 : Value).ownBlock) s_.1 t514) ∧ (Kd.R k48 48 w' w.heap.size (fun k_ => (w.heap.size ≤ k_) ∧ some k_ ≠ (s_.1 : Value).ownBlock) s_.2.2.1 y520) ∧ (Kd.N (Kd.slice 48 k48) 27 w' w.heap.size (fun k_ => ((P0_0_ k_ ∨ P0_1_ k_) ∨ w.heap.size ≤ k_) ∧ some k_ ≠ (s_.1 : Value).ownBlock ∧ some k_ ≠ (s_.2.2.1 : Value).ownBlock ∧ k_ ≠ gb504 ∧ k_ ≠ gb505 ∧ k_ ≠ s_.2.2.2) (.slice Ao23 y508.length co23) y508) ∧ (Kd.V k48 48 w' w.heap.size (fun k_ => ((P0_0_ k_ ∨ P0_1_ k_) ∨ w.heap.size ≤ k_) ∧ some k_ ≠ (s_.1 : Value).ownBlock ∧ some k_ ≠ (s_.2.2.1 : Value).ownBlock ∧ some k_ ≠ (.slice Ao23 y508.length co23 : Value).ownBlock ∧ k_ ≠ gb504 ∧ k_ ≠ gb505 ∧ k_ ≠ s_.2.2.2) (.slice A0_0 l0_0.length c0_0) l0_0) ∧ (Kd.V k48 48 w' w.heap.size (fun k_ => ((P0_0_ k_ ∨ P0_1_ k_) ∨ w.heap.size ≤ k_) ∧ some k_ ≠ (s_.1 : Value).ownBlock ∧ some k_ ≠ (s_.2.2.1 : Value).ownBlock ∧ some k_ ≠ (.slice Ao23 y508.length co23 : Value).ownBlock ∧ k_ ≠ gb504 ∧ k_ ≠ gb505 ∧ k_ ≠ s_.2.2.2) (.slice A0_1 l0_1.length c0_1) l0_1) ∧ (w'.heap[gb504]? = some (.cells #[.slice A0_0 l0_0.length c0_0, .slice A0_1 l0_1.length c0_1] 29 (0, 0))) ∧ (w'.heap[gb505]? = some (.cells #[.slice none 0 0, .slice none 0 0] 29 (0, 0))) ∧ (w'.heap[s_.2.2.2]? = some (.cells #[.slice none 0 0, .slice none 0 0] 29 (0, 0))) ∧ (w.heap.size ≤ s_.2.2.2) ∧ (w.heap.size ≤ s_.2.2.2) ∧ (gb504 ≠ s_.2.2.2) ∧ (s_.2.2.2 ≠ gb504) ∧ (gb505 ≠ s_.2.2.2) ∧ (s_.2.2.2 ≠ gb505) ∧ (Below w.heap.size w w')) ?_ ?_
  rotate_left
  ·intro hJ6_7_10_12
   refine join_ (σ := Value × Value × Value) 2 #[true, true, true, true, true, true, true, true, true, true, true, true, false, false] (fun s_ => [(60, s_.1), (61, s_.2.1), (64, s_.2.2), (65, .agg #[s_.1, s_.2.2])]) (fun s_ w' => (w'.cell? ⟨gb504, 0, none⟩ = some (.slice A0_0 l0_0.length c0_0) ∧ w'.cell? ⟨gb504, 1, none⟩ = some (.slice A0_1 l0_1.length c0_1)) ∧ (Kd.R k48 48 w' w.heap.size (fun k_ => (w.heap.size ≤ k_) ∧ some k_ ≠ (s_.2.2 : Value).ownBlock) s_.1 t514) ∧ (Kd.R k48 48 w' w.heap.size (fun k_ => (w.heap.size ≤ k_) ∧ some k_ ≠ (s_.1 : Value).ownBlock) s_.2.2 y520) ∧ (Kd.N (Kd.slice 48 k48) 27 w' w.heap.size (fun k_ => ((P0_0_ k_ ∨ P0_1_ k_) ∨ w.heap.size ≤ k_) ∧ some k_ ≠ (s_.1 : Value).ownBlock ∧ some k_ ≠ (s_.2.2 : Value).ownBlock ∧ k_ ≠ gb504 ∧ k_ ≠ gb505) (.slice Ao23 y508.length co23) y508) ∧ (Kd.V k48 48 w' w.heap.size (fun k_ => ((P0_0_ k_ ∨ P0_1_ k_) ∨ w.heap.size ≤ k_) ∧ some k_ ≠ (s_.1 : Value).ownBlock ∧ some k_ ≠ (s_.2.2 : Value).ownBlock ∧ some k_ ≠ (.slice Ao23 y508.length co23 : Value).ownBlock ∧ k_ ≠ gb504 ∧ k_ ≠ gb505) (.slice A0_0 l0_0.length c0_0) l0_0) ∧ (Kd.V k48 48 w' w.heap.size (fun k_ => ((P0_0_ k_ ∨ P0_1_ k_) ∨ w.heap.size ≤ k_) ∧ some k_ ≠ (s_.1 : Value).ownBlock ∧ some k_ ≠ (s_.2.2 : Value).ownBlock ∧ some k_ ≠ (.slice Ao23 y508.length co23 : Value).ownBlock ∧ k_ ≠ gb504 ∧ k_ ≠ gb505) (.slice A0_1 l0_1.length c0_1) l0_1) ∧ (w'.heap[gb504]? = some (.cells #[.slice A0_0 l0_0.length c0_0, .slice A0_1 l0_1.length c0_1] 29 (0, 0))) ∧ (w'.heap[gb505]? = some (.cells #[.slice none 0 0, .slice none 0 0] 29 (0, 0))) ∧ (Below w.heap.size w w')) ?_ ?_
   rotate_left
   ·intro hJ6_7_10
    refine join_ (σ := Value × Value × Nat) 3 #[true, true, true, true, true, true, true, true, true, true, false, false, true, false] (fun s_ => [(60, s_.1), (61, s_.2.1), (13, .pointer (some ⟨s_.2.2, 0, none⟩))]) (fun s_ w' => (w'.cell? ⟨gb504, 0, none⟩ = some (.slice A0_0 l0_0.length c0_0) ∧ w'.cell? ⟨gb504, 1, none⟩ = some (.slice A0_1 l0_1.length c0_1)) ∧ (Kd.R k48 48 w' w.heap.size (fun k_ => (w.heap.size ≤ k_) ∧ some k_ ≠ (s_.2.1 : Value).ownBlock) s_.1 t514) ∧ (Kd.R k48 48 w' w.heap.size (fun k_ => (w.heap.size ≤ k_) ∧ some k_ ≠ (s_.1 : Value).ownBlock) s_.2.1 y517) ∧ (Kd.N (Kd.slice 48 k48) 27 w' w.heap.size (fun k_ => ((P0_0_ k_ ∨ P0_1_ k_) ∨ w.heap.size ≤ k_) ∧ some k_ ≠ (s_.1 : Value).ownBlock ∧ some k_ ≠ (s_.2.1 : Value).ownBlock ∧ k_ ≠ gb504 ∧ k_ ≠ gb505 ∧ k_ ≠ s_.2.2) (.slice Ao23 y508.length co23) y508) ∧ (Kd.V k48 48 w' w.heap.size (fun k_ => ((P0_0_ k_ ∨ P0_1_ k_) ∨ w.heap.size ≤ k_) ∧ some k_ ≠ (s_.1 : Value).ownBlock ∧ some k_ ≠ (s_.2.1 : Value).ownBlock ∧ some k_ ≠ (.slice Ao23 y508.length co23 : Value).ownBlock ∧ k_ ≠ gb504 ∧ k_ ≠ gb505 ∧ k_ ≠ s_.2.2) (.slice A0_0 l0_0.length c0_0) l0_0) ∧ (Kd.V k48 48 w' w.heap.size (fun k_ => ((P0_0_ k_ ∨ P0_1_ k_) ∨ w.heap.size ≤ k_) ∧ some k_ ≠ (s_.1 : Value).ownBlock ∧ some k_ ≠ (s_.2.1 : Value).ownBlock ∧ some k_ ≠ (.slice Ao23 y508.length co23 : Value).ownBlock ∧ k_ ≠ gb504 ∧ k_ ≠ gb505 ∧ k_ ≠ s_.2.2) (.slice A0_1 l0_1.length c0_1) l0_1) ∧ (w'.heap[gb504]? = some (.cells #[.slice A0_0 l0_0.length c0_0, .slice A0_1 l0_1.length c0_1] 29 (0, 0))) ∧ (w'.heap[gb505]? = some (.cells #[.slice none 0 0, .slice none 0 0] 29 (0, 0))) ∧ (w'.heap[s_.2.2]? = some (.cells #[.slice none 0 0, .slice none 0 0] 29 (0, 0))) ∧ (w.heap.size ≤ s_.2.2) ∧ (w.heap.size ≤ s_.2.2) ∧ (gb504 ≠ s_.2.2) ∧ (s_.2.2 ≠ gb504) ∧ (gb505 ≠ s_.2.2) ∧ (s_.2.2 ≠ gb505) ∧ (Below w.heap.size w w')) ?_ ?_
    rotate_left
    ·intro hJ6_7_12
     refine join_ (σ := Value × Value) 4 #[true, true, true, true, true, true, true, true, true, true, false, false, false, false] (fun s_ => [(60, s_.1), (61, s_.2)]) (fun s_ w' => (w'.cell? ⟨gb504, 0, none⟩ = some (.slice A0_0 l0_0.length c0_0) ∧ w'.cell? ⟨gb504, 1, none⟩ = some (.slice A0_1 l0_1.length c0_1)) ∧ (Kd.R k48 48 w' w.heap.size (fun k_ => (w.heap.size ≤ k_) ∧ some k_ ≠ (s_.2 : Value).ownBlock) s_.1 t514) ∧ (Kd.R k48 48 w' w.heap.size (fun k_ => (w.heap.size ≤ k_) ∧ some k_ ≠ (s_.1 : Value).ownBlock) s_.2 y517) ∧ (Kd.N (Kd.slice 48 k48) 27 w' w.heap.size (fun k_ => ((P0_0_ k_ ∨ P0_1_ k_) ∨ w.heap.size ≤ k_) ∧ some k_ ≠ (s_.1 : Value).ownBlock ∧ some k_ ≠ (s_.2 : Value).ownBlock ∧ k_ ≠ gb504 ∧ k_ ≠ gb505) (.slice Ao23 y508.length co23) y508) ∧ (Kd.V k48 48 w' w.heap.size (fun k_ => ((P0_0_ k_ ∨ P0_1_ k_) ∨ w.heap.size ≤ k_) ∧ some k_ ≠ (s_.1 : Value).ownBlock ∧ some k_ ≠ (s_.2 : Value).ownBlock ∧ some k_ ≠ (.slice Ao23 y508.length co23 : Value).ownBlock ∧ k_ ≠ gb504 ∧ k_ ≠ gb505) (.slice A0_0 l0_0.length c0_0) l0_0) ∧ (Kd.V k48 48 w' w.heap.size (fun k_ => ((P0_0_ k_ ∨ P0_1_ k_) ∨ w.heap.size ≤ k_) ∧ some k_ ≠ (s_.1 : Value).ownBlock ∧ some k_ ≠ (s_.2 : Value).ownBlock ∧ some k_ ≠ (.slice Ao23 y508.length co23 : Value).ownBlock ∧ k_ ≠ gb504 ∧ k_ ≠ gb505) (.slice A0_1 l0_1.length c0_1) l0_1) ∧ (w'.heap[gb504]? = some (.cells #[.slice A0_0 l0_0.length c0_0, .slice A0_1 l0_1.length c0_1] 29 (0, 0))) ∧ (w'.heap[gb505]? = some (.cells #[.slice none 0 0, .slice none 0 0] 29 (0, 0))) ∧ (Below w.heap.size w w')) ?_ ?_
     rotate_left
     ·intro hJ6_7
      refine join_ (σ := Value × Nat) 4 #[true, true, true, true, true, true, true, false, true, true, false, false, true, false] (fun s_ => [(60, s_.1), (13, .pointer (some ⟨s_.2, 0, none⟩))]) (fun s_ w' => (w'.cell? ⟨gb504, 0, none⟩ = some (.slice A0_0 l0_0.length c0_0) ∧ w'.cell? ⟨gb504, 1, none⟩ = some (.slice A0_1 l0_1.length c0_1)) ∧ (Kd.R k48 48 w' w.heap.size (fun k_ => (w.heap.size ≤ k_)) s_.1 t514) ∧ (Kd.N (Kd.slice 48 k48) 27 w' w.heap.size (fun k_ => ((P0_0_ k_ ∨ P0_1_ k_) ∨ w.heap.size ≤ k_) ∧ some k_ ≠ (s_.1 : Value).ownBlock ∧ k_ ≠ gb504 ∧ k_ ≠ gb505 ∧ k_ ≠ s_.2) (.slice Ao23 y508.length co23) y508) ∧ (Kd.V k48 48 w' w.heap.size (fun k_ => ((P0_0_ k_ ∨ P0_1_ k_) ∨ w.heap.size ≤ k_) ∧ some k_ ≠ (s_.1 : Value).ownBlock ∧ some k_ ≠ (.slice Ao23 y508.length co23 : Value).ownBlock ∧ k_ ≠ gb504 ∧ k_ ≠ gb505 ∧ k_ ≠ s_.2) (.slice A0_0 l0_0.length c0_0) l0_0) ∧ (Kd.V k48 48 w' w.heap.size (fun k_ => ((P0_0_ k_ ∨ P0_1_ k_) ∨ w.heap.size ≤ k_) ∧ some k_ ≠ (s_.1 : Value).ownBlock ∧ some k_ ≠ (.slice Ao23 y508.length co23 : Value).ownBlock ∧ k_ ≠ gb504 ∧ k_ ≠ gb505 ∧ k_ ≠ s_.2) (.slice A0_1 l0_1.length c0_1) l0_1) ∧ (w'.heap[gb504]? = some (.cells #[.slice A0_0 l0_0.length c0_0, .slice A0_1 l0_1.length c0_1] 29 (0, 0))) ∧ (w'.heap[gb505]? = some (.cells #[.slice none 0 0, .slice none 0 0] 29 (0, 0))) ∧ (w'.heap[s_.2]? = some (.cells #[.slice none 0 0, .slice none 0 0] 29 (0, 0))) ∧ (w.heap.size ≤ s_.2) ∧ (w.heap.size ≤ s_.2) ∧ (gb504 ≠ s_.2) ∧ (s_.2 ≠ gb504) ∧ (gb505 ≠ s_.2) ∧ (s_.2 ≠ gb505) ∧ (Below w.heap.size w w')) ?_ ?_
      rotate_left
      ·intro hJ6_12
       refine join_ (σ := Value × Nat) 4 #[true, true, true, true, true, true, false, true, true, true, false, false, true, false] (fun s_ => [(61, s_.1), (13, .pointer (some ⟨s_.2, 0, none⟩))]) (fun s_ w' => (w'.cell? ⟨gb504, 0, none⟩ = some (.slice A0_0 l0_0.length c0_0) ∧ w'.cell? ⟨gb504, 1, none⟩ = some (.slice A0_1 l0_1.length c0_1)) ∧ (Kd.R k48 48 w' w.heap.size (fun k_ => (w.heap.size ≤ k_)) s_.1 y517) ∧ (Kd.N (Kd.slice 48 k48) 27 w' w.heap.size (fun k_ => ((P0_0_ k_ ∨ P0_1_ k_) ∨ w.heap.size ≤ k_) ∧ some k_ ≠ (s_.1 : Value).ownBlock ∧ k_ ≠ gb504 ∧ k_ ≠ gb505 ∧ k_ ≠ s_.2) (.slice Ao23 y508.length co23) y508) ∧ (Kd.V k48 48 w' w.heap.size (fun k_ => ((P0_0_ k_ ∨ P0_1_ k_) ∨ w.heap.size ≤ k_) ∧ some k_ ≠ (s_.1 : Value).ownBlock ∧ some k_ ≠ (.slice Ao23 y508.length co23 : Value).ownBlock ∧ k_ ≠ gb504 ∧ k_ ≠ gb505 ∧ k_ ≠ s_.2) (.slice A0_0 l0_0.length c0_0) l0_0) ∧ (Kd.V k48 48 w' w.heap.size (fun k_ => ((P0_0_ k_ ∨ P0_1_ k_) ∨ w.heap.size ≤ k_) ∧ some k_ ≠ (s_.1 : Value).ownBlock ∧ some k_ ≠ (.slice Ao23 y508.length co23 : Value).ownBlock ∧ k_ ≠ gb504 ∧ k_ ≠ gb505 ∧ k_ ≠ s_.2) (.slice A0_1 l0_1.length c0_1) l0_1) ∧ (w'.heap[gb504]? = some (.cells #[.slice A0_0 l0_0.length c0_0, .slice A0_1 l0_1.length c0_1] 29 (0, 0))) ∧ (w'.heap[gb505]? = some (.cells #[.slice none 0 0, .slice none 0 0] 29 (0, 0))) ∧ (w'.heap[s_.2]? = some (.cells #[.slice none 0 0, .slice none 0 0] 29 (0, 0))) ∧ (w.heap.size ≤ s_.2) ∧ (w.heap.size ≤ s_.2) ∧ (gb504 ≠ s_.2) ∧ (s_.2 ≠ gb504) ∧ (gb505 ≠ s_.2) ∧ (s_.2 ≠ gb505) ∧ (Below w.heap.size w w')) ?_ ?_
       rotate_left
       ·intro hJ7_12
        refine join_ (σ := Value) 5 #[true, true, true, true, true, true, true, false, true, true, false, false, false, false] (fun s_ => [(60, s_)]) (fun s_ w' => (w'.cell? ⟨gb504, 0, none⟩ = some (.slice A0_0 l0_0.length c0_0) ∧ w'.cell? ⟨gb504, 1, none⟩ = some (.slice A0_1 l0_1.length c0_1)) ∧ (Kd.R k48 48 w' w.heap.size (fun k_ => (w.heap.size ≤ k_)) s_ t514) ∧ (Kd.N (Kd.slice 48 k48) 27 w' w.heap.size (fun k_ => ((P0_0_ k_ ∨ P0_1_ k_) ∨ w.heap.size ≤ k_) ∧ some k_ ≠ (s_ : Value).ownBlock ∧ k_ ≠ gb504 ∧ k_ ≠ gb505) (.slice Ao23 y508.length co23) y508) ∧ (Kd.V k48 48 w' w.heap.size (fun k_ => ((P0_0_ k_ ∨ P0_1_ k_) ∨ w.heap.size ≤ k_) ∧ some k_ ≠ (s_ : Value).ownBlock ∧ some k_ ≠ (.slice Ao23 y508.length co23 : Value).ownBlock ∧ k_ ≠ gb504 ∧ k_ ≠ gb505) (.slice A0_0 l0_0.length c0_0) l0_0) ∧ (Kd.V k48 48 w' w.heap.size (fun k_ => ((P0_0_ k_ ∨ P0_1_ k_) ∨ w.heap.size ≤ k_) ∧ some k_ ≠ (s_ : Value).ownBlock ∧ some k_ ≠ (.slice Ao23 y508.length co23 : Value).ownBlock ∧ k_ ≠ gb504 ∧ k_ ≠ gb505) (.slice A0_1 l0_1.length c0_1) l0_1) ∧ (w'.heap[gb504]? = some (.cells #[.slice A0_0 l0_0.length c0_0, .slice A0_1 l0_1.length c0_1] 29 (0, 0))) ∧ (w'.heap[gb505]? = some (.cells #[.slice none 0 0, .slice none 0 0] 29 (0, 0))) ∧ (Below w.heap.size w w')) ?_ ?_
        rotate_left
        ·intro hJ6
         refine join_ (σ := Value) 5 #[true, true, true, true, true, true, false, true, true, true, false, false, false, false] (fun s_ => [(61, s_)]) (fun s_ w' => (w'.cell? ⟨gb504, 0, none⟩ = some (.slice A0_0 l0_0.length c0_0) ∧ w'.cell? ⟨gb504, 1, none⟩ = some (.slice A0_1 l0_1.length c0_1)) ∧ (Kd.R k48 48 w' w.heap.size (fun k_ => (w.heap.size ≤ k_)) s_ y517) ∧ (Kd.N (Kd.slice 48 k48) 27 w' w.heap.size (fun k_ => ((P0_0_ k_ ∨ P0_1_ k_) ∨ w.heap.size ≤ k_) ∧ some k_ ≠ (s_ : Value).ownBlock ∧ k_ ≠ gb504 ∧ k_ ≠ gb505) (.slice Ao23 y508.length co23) y508) ∧ (Kd.V k48 48 w' w.heap.size (fun k_ => ((P0_0_ k_ ∨ P0_1_ k_) ∨ w.heap.size ≤ k_) ∧ some k_ ≠ (s_ : Value).ownBlock ∧ some k_ ≠ (.slice Ao23 y508.length co23 : Value).ownBlock ∧ k_ ≠ gb504 ∧ k_ ≠ gb505) (.slice A0_0 l0_0.length c0_0) l0_0) ∧ (Kd.V k48 48 w' w.heap.size (fun k_ => ((P0_0_ k_ ∨ P0_1_ k_) ∨ w.heap.size ≤ k_) ∧ some k_ ≠ (s_ : Value).ownBlock ∧ some k_ ≠ (.slice Ao23 y508.length co23 : Value).ownBlock ∧ k_ ≠ gb504 ∧ k_ ≠ gb505) (.slice A0_1 l0_1.length c0_1) l0_1) ∧ (w'.heap[gb504]? = some (.cells #[.slice A0_0 l0_0.length c0_0, .slice A0_1 l0_1.length c0_1] 29 (0, 0))) ∧ (w'.heap[gb505]? = some (.cells #[.slice none 0 0, .slice none 0 0] 29 (0, 0))) ∧ (Below w.heap.size w w')) ?_ ?_
         rotate_left
         ·intro hJ7
          refine join_ (σ := Nat) 5 #[true, true, true, true, true, true, false, false, true, true, false, false, true, false] (fun s_ => [(13, .pointer (some ⟨s_, 0, none⟩))]) (fun s_ w' => (w'.cell? ⟨gb504, 0, none⟩ = some (.slice A0_0 l0_0.length c0_0) ∧ w'.cell? ⟨gb504, 1, none⟩ = some (.slice A0_1 l0_1.length c0_1)) ∧ (Kd.N (Kd.slice 48 k48) 27 w' w.heap.size (fun k_ => ((P0_0_ k_ ∨ P0_1_ k_) ∨ w.heap.size ≤ k_) ∧ k_ ≠ gb504 ∧ k_ ≠ gb505 ∧ k_ ≠ s_) (.slice Ao23 y508.length co23) y508) ∧ (Kd.V k48 48 w' w.heap.size (fun k_ => ((P0_0_ k_ ∨ P0_1_ k_) ∨ w.heap.size ≤ k_) ∧ some k_ ≠ (.slice Ao23 y508.length co23 : Value).ownBlock ∧ k_ ≠ gb504 ∧ k_ ≠ gb505 ∧ k_ ≠ s_) (.slice A0_0 l0_0.length c0_0) l0_0) ∧ (Kd.V k48 48 w' w.heap.size (fun k_ => ((P0_0_ k_ ∨ P0_1_ k_) ∨ w.heap.size ≤ k_) ∧ some k_ ≠ (.slice Ao23 y508.length co23 : Value).ownBlock ∧ k_ ≠ gb504 ∧ k_ ≠ gb505 ∧ k_ ≠ s_) (.slice A0_1 l0_1.length c0_1) l0_1) ∧ (w'.heap[gb504]? = some (.cells #[.slice A0_0 l0_0.length c0_0, .slice A0_1 l0_1.length c0_1] 29 (0, 0))) ∧ (w'.heap[gb505]? = some (.cells #[.slice none 0 0, .slice none 0 0] 29 (0, 0))) ∧ (w'.heap[s_]? = some (.cells #[.slice none 0 0, .slice none 0 0] 29 (0, 0))) ∧ (w.heap.size ≤ s_) ∧ (w.heap.size ≤ s_) ∧ (gb504 ≠ s_) ∧ (s_ ≠ gb504) ∧ (gb505 ≠ s_) ∧ (s_ ≠ gb505) ∧ (Below w.heap.size w w')) ?_ ?_
          rotate_left
          ·intro hJ12
           refine th_ 6 7 12 (some 60) (some 61) (some 13) (h1 := fun K hK => ?_) (h2 := fun K hK => ?_) (h3 := fun K hK => ?_)
           ·skip
            refine goes_ Try.func32 (by kernel_rfl) rfl #[.slice A0_0 l0_0.length c0_0, .agg #[.string a2, .int .i64 a1, .int .i64 x8_2]] (by rfl) rfl rfl nc_ ?_
            with_reducible refine (spec_l14Put.calls k2 _ _ l0_0 a2 a1 x8_2 t514 _ ?side1 ?side2 A44.out).mono ?_
            (case side1 => exact kc_ (Kd.V_reads' HO_505000.out).2.2)
            (case side2 => exact (Kd.V_reads' HO_505000.out).2.1)
            rintro e w69 ⟨v515, rfl, ho0, hb⟩
            refine ⟨_, rfl, ?_⟩
            replace HO_27 := Aside0.mk (Kd.N_elder' (by (with_reducible repeat (first | apply Kd.N_alloc | apply Kd.N_drewN | apply Kd.N_drew)); exact HO_27.out) (Kd.R_base ho0) hb)
            replace HO_505000 := Aside0.mk (Kd.V_elder' (by (with_reducible repeat (first | apply Kd.V_alloc | apply Kd.V_drewN | apply Kd.V_drew)); exact HO_505000.out) (Kd.R_base ho0) hb)
            replace HO_505001 := Aside0.mk (Kd.V_elder' (by (with_reducible repeat (first | apply Kd.V_alloc | apply Kd.V_drewN | apply Kd.V_drew)); exact HO_505001.out) (Kd.R_base ho0) hb)
            have HO516 := Aside0.mk (Kd.R_lower (Kd.R_newM (M := fun k_ => (w.heap.size ≤ k_)) ho0 bz_ (fun k_ h_ => h_)) bz_)
            replace BK504 := bb_ BK504 hb
            replace BK505 := bb_ BK505 hb
            replace HB := Aside0.mk (below_step bl_ hb)
            clear hb ho0
            refine hK.out _ _ ⟨bc_ BK504.out 0, bc_ BK504.out 1⟩ (fun hHeld => ?_)
            clear hK K
            refine norm_ nn_ ?_
            exact norm_ nq_ (hJ6 (v515) _ ⟨hHeld, kp_ HO516.out (hok := fun _ hk => by first | exact hk | exact hk.2 | exact hk.1 | exact hk.2.2 | exact hk.1.2 | (simp only [ne_eq] at hk ⊢; simp only [hk, not_false_eq_true, and_self])), (by (with_reducible repeat (first | apply Kd.N_alloc | apply Kd.N_drewN | apply Kd.N_drew)); exact Kd.N_mono HO_27.out (fun _ hk => ⟨hk.1.1, ⟨hk.2, ⟨hk.1.2.1, hk.1.2.2⟩⟩⟩)), (by (with_reducible repeat (first | apply Kd.V_alloc | apply Kd.V_drewN | apply Kd.V_drew)); exact Kd.V_mono HO_505000.out (fun _ hk => ⟨hk.1.1, ⟨hk.2, ⟨hk.1.2.1, ⟨hk.1.2.2.1, hk.1.2.2.2⟩⟩⟩⟩)), (by (with_reducible repeat (first | apply Kd.V_alloc | apply Kd.V_drewN | apply Kd.V_drew)); exact Kd.V_mono HO_505001.out (fun _ hk => ⟨hk.1.1, ⟨hk.2, ⟨hk.1.2.1, ⟨hk.1.2.2.1, hk.1.2.2.2⟩⟩⟩⟩)), kb_ BK504.out, kb_ BK505.out, bl_⟩)
           ·skip
            refine Kd.R_lit_step k48 _ 48 rfl (N := 61) rfl (xs := ([] : List (S48))) (inner := []) (ok := fun _ => True) (okp := fun _ => True) gs_ ?hp (fun _ hk => hk) trivial (Below.refl _ _) (Nat.le_refl _) (by simp) ?_; (case hp => exact (Reps.none _ _))
            intro v518 w69 ho70 hb hg_ hnew_
            clear hg_ hnew_
            (first | rw [← Ny517.out] at ho70 | (simp only [Int.reduceToNat] at ho70; rw [← Ny517.out] at ho70))
            replace HO_27 := Aside0.mk (Kd.N_elder' (by (with_reducible repeat (first | apply Kd.N_alloc | apply Kd.N_drewN | apply Kd.N_drew)); exact HO_27.out) (Kd.R_base ho70) hb)
            replace HO_505000 := Aside0.mk (Kd.V_elder' (by (with_reducible repeat (first | apply Kd.V_alloc | apply Kd.V_drewN | apply Kd.V_drew)); exact HO_505000.out) (Kd.R_base ho70) hb)
            replace HO_505001 := Aside0.mk (Kd.V_elder' (by (with_reducible repeat (first | apply Kd.V_alloc | apply Kd.V_drewN | apply Kd.V_drew)); exact HO_505001.out) (Kd.R_base ho70) hb)
            have HO519 := Aside0.mk (Kd.R_lower (Kd.R_newM (M := fun k_ => (w.heap.size ≤ k_)) ho70 bz_ (fun k_ h_ => h_)) bz_)
            replace BK504 := bb_ BK504 hb
            replace BK505 := bb_ BK505 hb
            replace HB := Aside0.mk (below_step bl_ hb)
            clear hb ho70
            refine hK.out _ _ ⟨bc_ BK504.out 0, bc_ BK504.out 1⟩ (fun hHeld => ?_)
            clear hK K
            refine norm_ nn_ ?_
            exact norm_ nq_ (hJ7 (v518) _ ⟨hHeld, kp_ HO519.out (hok := fun _ hk => by first | exact hk | exact hk.2 | exact hk.1 | exact hk.2.2 | exact hk.1.2 | (simp only [ne_eq] at hk ⊢; simp only [hk, not_false_eq_true, and_self])), (by (with_reducible repeat (first | apply Kd.N_alloc | apply Kd.N_drewN | apply Kd.N_drew)); exact Kd.N_mono HO_27.out (fun _ hk => ⟨hk.1.1, ⟨hk.2, ⟨hk.1.2.1, hk.1.2.2⟩⟩⟩)), (by (with_reducible repeat (first | apply Kd.V_alloc | apply Kd.V_drewN | apply Kd.V_drew)); exact Kd.V_mono HO_505000.out (fun _ hk => ⟨hk.1.1, ⟨hk.2, ⟨hk.1.2.1, ⟨hk.1.2.2.1, hk.1.2.2.2⟩⟩⟩⟩)), (by (with_reducible repeat (first | apply Kd.V_alloc | apply Kd.V_drewN | apply Kd.V_drew)); exact Kd.V_mono HO_505001.out (fun _ hk => ⟨hk.1.1, ⟨hk.2, ⟨hk.1.2.1, ⟨hk.1.2.2.1, hk.1.2.2.2⟩⟩⟩⟩)), kb_ BK504.out, kb_ BK505.out, bl_⟩)
           ·skip
            refine box_step rfl (N := 13) rfl (cs := #[.slice none 0 0, .slice none 0 0]) (t := 29) gs_ ?_
            intro gb523 hg w69 hbox hb
            replace HO_27 := Aside0.mk (Kd.N_below (Kd.N_elderB (by (with_reducible repeat (first | apply Kd.N_alloc | apply Kd.N_drewN | apply Kd.N_drew)); exact HO_27.out) gb523 (Nat.le_of_eq hg.symm)) hb)
            replace HO_505000 := Aside0.mk (Kd.V_below (Kd.V_elderB (by (with_reducible repeat (first | apply Kd.V_alloc | apply Kd.V_drewN | apply Kd.V_drew)); exact HO_505000.out) gb523 (Nat.le_of_eq hg.symm)) hb)
            replace HO_505001 := Aside0.mk (Kd.V_below (Kd.V_elderB (by (with_reducible repeat (first | apply Kd.V_alloc | apply Kd.V_drewN | apply Kd.V_drew)); exact HO_505001.out) gb523 (Nat.le_of_eq hg.symm)) hb)
            have BK523 := Aside0.mk (hbox)
            have GW523 := Aside0.mk ((by rw [hg]; exact bz_ : w.heap.size ≤ gb523))
            have GE523 := GW523
            replace HB := Aside0.mk (below_step bl_ hb)
            have NB504_523 := nl_ hg BK504
            have NB523_504 := nm_ hg BK504
            replace BK504 := bb_ BK504 hb
            have NB505_523 := nl_ hg BK505
            have NB523_505 := nm_ hg BK505
            replace BK505 := bb_ BK505 hb
            clear hb hbox hg
            refine hK.out _ _ ⟨bc_ BK504.out 0, bc_ BK504.out 1⟩ (fun hHeld => ?_)
            clear hK K
            refine norm_ nn_ ?_
            exact norm_ nq_ (hJ12 (gb523) _ ⟨hHeld, (by (with_reducible repeat (first | apply Kd.N_alloc | apply Kd.N_drewN | apply Kd.N_drew)); exact Kd.N_mono HO_27.out (fun _ hk => ⟨hk.1.1, ⟨hk.1.2.1, ⟨hk.1.2.2, hk.2⟩⟩⟩)), (by (with_reducible repeat (first | apply Kd.V_alloc | apply Kd.V_drewN | apply Kd.V_drew)); exact Kd.V_mono HO_505000.out (fun _ hk => ⟨hk.1.1, ⟨hk.1.2.1, ⟨hk.1.2.2.1, ⟨hk.1.2.2.2, hk.2⟩⟩⟩⟩)), (by (with_reducible repeat (first | apply Kd.V_alloc | apply Kd.V_drewN | apply Kd.V_drew)); exact Kd.V_mono HO_505001.out (fun _ hk => ⟨hk.1.1, ⟨hk.1.2.1, ⟨hk.1.2.2.1, ⟨hk.1.2.2.2, hk.2⟩⟩⟩⟩)), kb_ BK504.out, kb_ BK505.out, kb_ BK523.out, GW523.out, GE523.out, NB504_523.out, NB523_504.out, NB505_523.out, NB523_505.out, bl_⟩)
          ·skip
           rintro gb523 w70 ⟨hS_, h0_, h1_, h2_, h3_, h4_, h5_, h6_, h7_, h8_, h9_, h10_, h11_, h12_⟩
           try dsimp only at h0_ h1_ h2_ h3_ h4_ h5_ h6_ h7_ h8_ h9_ h10_ h11_ h12_
           replace HO_27 := Aside0.mk h0_
           replace HO_505000 := Aside0.mk h1_
           replace HO_505001 := Aside0.mk h2_
           replace BK504 := Aside0.mk h3_
           replace BK505 := Aside0.mk h4_
           have BK523 := Aside0.mk h5_
           have GW523 := Aside0.mk h6_
           have GE523 := Aside0.mk h7_
           have NB504_523 := Aside0.mk h8_
           have NB523_504 := Aside0.mk h9_
           have NB505_523 := Aside0.mk h10_
           have NB523_505 := Aside0.mk h11_
           replace HB := Aside0.mk h12_
           clear h0_ h1_ h2_ h3_ h4_ h5_ h6_ h7_ h8_ h9_ h10_ h11_ h12_
           try dsimp only at hS_
           have hHeld := hS_
           refine norm_ np_ ?_
           refine tw_ 6 7 (some 60) (some 61) (h1 := fun K hK => ?_) (h2 := fun K hK => ?_)
           ·skip
            refine goes_ Try.func32 (by kernel_rfl) rfl #[.slice A0_0 l0_0.length c0_0, .agg #[.string a2, .int .i64 a1, .int .i64 x8_2]] (by rfl) rfl rfl nc_ ?_
            with_reducible refine (spec_l14Put.calls k2 _ _ l0_0 a2 a1 x8_2 t514 _ ?side1 ?side2 A44.out).mono ?_
            (case side1 => exact kc_ (Kd.V_reads' HO_505000.out).2.2)
            (case side2 => exact (Kd.V_reads' HO_505000.out).2.1)
            rintro e w71 ⟨v515, rfl, ho0, hb⟩
            refine ⟨_, rfl, ?_⟩
            replace HO_27 := Aside0.mk (Kd.N_elder' (by (with_reducible repeat (first | apply Kd.N_alloc | apply Kd.N_drewN | apply Kd.N_drew)); exact HO_27.out) (Kd.R_base ho0) hb)
            replace HO_505000 := Aside0.mk (Kd.V_elder' (by (with_reducible repeat (first | apply Kd.V_alloc | apply Kd.V_drewN | apply Kd.V_drew)); exact HO_505000.out) (Kd.R_base ho0) hb)
            replace HO_505001 := Aside0.mk (Kd.V_elder' (by (with_reducible repeat (first | apply Kd.V_alloc | apply Kd.V_drewN | apply Kd.V_drew)); exact HO_505001.out) (Kd.R_base ho0) hb)
            have HO516 := Aside0.mk (Kd.R_lower (Kd.R_newM (M := fun k_ => (w.heap.size ≤ k_)) ho0 bz_ (fun k_ h_ => h_)) bz_)
            replace BK504 := bb_ BK504 hb
            replace BK505 := bb_ BK505 hb
            replace BK523 := bb_ BK523 hb
            replace HB := Aside0.mk (below_step bl_ hb)
            clear hb ho0
            refine hK.out _ _ ⟨bc_ BK504.out 0, bc_ BK504.out 1⟩ (fun hHeld => ?_)
            clear hK K
            refine norm_ nn_ ?_
            exact norm_ nq_ (hJ6_12 (v515, gb523) _ ⟨hHeld, kp_ HO516.out (hok := fun _ hk => by first | exact hk | exact hk.2 | exact hk.1 | exact hk.2.2 | exact hk.1.2 | (simp only [ne_eq] at hk ⊢; simp only [hk, not_false_eq_true, and_self])), (by (with_reducible repeat (first | apply Kd.N_alloc | apply Kd.N_drewN | apply Kd.N_drew)); exact Kd.N_mono HO_27.out (fun _ hk => ⟨hk.1.1, ⟨hk.2, ⟨hk.1.2.1, ⟨hk.1.2.2.1, hk.1.2.2.2⟩⟩⟩⟩)), (by (with_reducible repeat (first | apply Kd.V_alloc | apply Kd.V_drewN | apply Kd.V_drew)); exact Kd.V_mono HO_505000.out (fun _ hk => ⟨hk.1.1, ⟨hk.2, ⟨hk.1.2.1, ⟨hk.1.2.2.1, ⟨hk.1.2.2.2.1, hk.1.2.2.2.2⟩⟩⟩⟩⟩)), (by (with_reducible repeat (first | apply Kd.V_alloc | apply Kd.V_drewN | apply Kd.V_drew)); exact Kd.V_mono HO_505001.out (fun _ hk => ⟨hk.1.1, ⟨hk.2, ⟨hk.1.2.1, ⟨hk.1.2.2.1, ⟨hk.1.2.2.2.1, hk.1.2.2.2.2⟩⟩⟩⟩⟩)), kb_ BK504.out, kb_ BK505.out, kb_ BK523.out, GW523.out, GE523.out, NB504_523.out, NB523_504.out, NB505_523.out, NB523_505.out, bl_⟩)
           ·skip
            refine Kd.R_lit_step k48 _ 48 rfl (N := 61) rfl (xs := ([] : List (S48))) (inner := []) (ok := fun _ => True) (okp := fun _ => True) gs_ ?hp (fun _ hk => hk) trivial (Below.refl _ _) (Nat.le_refl _) (by simp) ?_; (case hp => exact (Reps.none _ _))
            intro v518 w71 ho72 hb hg_ hnew_
            clear hg_ hnew_
            (first | rw [← Ny517.out] at ho72 | (simp only [Int.reduceToNat] at ho72; rw [← Ny517.out] at ho72))
            replace HO_27 := Aside0.mk (Kd.N_elder' (by (with_reducible repeat (first | apply Kd.N_alloc | apply Kd.N_drewN | apply Kd.N_drew)); exact HO_27.out) (Kd.R_base ho72) hb)
            replace HO_505000 := Aside0.mk (Kd.V_elder' (by (with_reducible repeat (first | apply Kd.V_alloc | apply Kd.V_drewN | apply Kd.V_drew)); exact HO_505000.out) (Kd.R_base ho72) hb)
            replace HO_505001 := Aside0.mk (Kd.V_elder' (by (with_reducible repeat (first | apply Kd.V_alloc | apply Kd.V_drewN | apply Kd.V_drew)); exact HO_505001.out) (Kd.R_base ho72) hb)
            have HO519 := Aside0.mk (Kd.R_lower (Kd.R_newM (M := fun k_ => (w.heap.size ≤ k_)) ho72 bz_ (fun k_ h_ => h_)) bz_)
            replace BK504 := bb_ BK504 hb
            replace BK505 := bb_ BK505 hb
            replace BK523 := bb_ BK523 hb
            replace HB := Aside0.mk (below_step bl_ hb)
            clear hb ho72
            refine hK.out _ _ ⟨bc_ BK504.out 0, bc_ BK504.out 1⟩ (fun hHeld => ?_)
            clear hK K
            refine norm_ nn_ ?_
            exact norm_ nq_ (hJ7_12 (v518, gb523) _ ⟨hHeld, kp_ HO519.out (hok := fun _ hk => by first | exact hk | exact hk.2 | exact hk.1 | exact hk.2.2 | exact hk.1.2 | (simp only [ne_eq] at hk ⊢; simp only [hk, not_false_eq_true, and_self])), (by (with_reducible repeat (first | apply Kd.N_alloc | apply Kd.N_drewN | apply Kd.N_drew)); exact Kd.N_mono HO_27.out (fun _ hk => ⟨hk.1.1, ⟨hk.2, ⟨hk.1.2.1, ⟨hk.1.2.2.1, hk.1.2.2.2⟩⟩⟩⟩)), (by (with_reducible repeat (first | apply Kd.V_alloc | apply Kd.V_drewN | apply Kd.V_drew)); exact Kd.V_mono HO_505000.out (fun _ hk => ⟨hk.1.1, ⟨hk.2, ⟨hk.1.2.1, ⟨hk.1.2.2.1, ⟨hk.1.2.2.2.1, hk.1.2.2.2.2⟩⟩⟩⟩⟩)), (by (with_reducible repeat (first | apply Kd.V_alloc | apply Kd.V_drewN | apply Kd.V_drew)); exact Kd.V_mono HO_505001.out (fun _ hk => ⟨hk.1.1, ⟨hk.2, ⟨hk.1.2.1, ⟨hk.1.2.2.1, ⟨hk.1.2.2.2.1, hk.1.2.2.2.2⟩⟩⟩⟩⟩)), kb_ BK504.out, kb_ BK505.out, kb_ BK523.out, GW523.out, GE523.out, NB504_523.out, NB523_504.out, NB505_523.out, NB523_505.out, bl_⟩)
         ·skip
          rintro v518 w71 ⟨hS_, h0_, h1_, h2_, h3_, h4_, h5_, h6_⟩
          try dsimp only at h0_ h1_ h2_ h3_ h4_ h5_ h6_
          have HO519 := Aside0.mk h0_
          replace HO_27 := Aside0.mk h1_
          replace HO_505000 := Aside0.mk h2_
          replace HO_505001 := Aside0.mk h3_
          replace BK504 := Aside0.mk h4_
          replace BK505 := Aside0.mk h5_
          replace HB := Aside0.mk h6_
          clear h0_ h1_ h2_ h3_ h4_ h5_ h6_
          try dsimp only at hS_
          have hHeld := hS_
          refine norm_ np_ ?_
          refine tw_ 6 12 (some 60) (some 13) (h1 := fun K hK => ?_) (h2 := fun K hK => ?_)
          ·skip
           refine goes_ Try.func32 (by kernel_rfl) rfl #[.slice A0_0 l0_0.length c0_0, .agg #[.string a2, .int .i64 a1, .int .i64 x8_2]] (by rfl) rfl rfl nc_ ?_
           with_reducible refine (spec_l14Put.calls k2 _ _ l0_0 a2 a1 x8_2 t514 _ ?side1 ?side2 A44.out).mono ?_
           (case side1 => exact kc_ (Kd.V_reads' HO_505000.out).2.2)
           (case side2 => exact (Kd.V_reads' HO_505000.out).2.1)
           rintro e w72 ⟨v515, rfl, ho0, hb⟩
           refine ⟨_, rfl, ?_⟩
           replace HO_27 := Aside0.mk (Kd.N_elder' (by (with_reducible repeat (first | apply Kd.N_alloc | apply Kd.N_drewN | apply Kd.N_drew)); exact HO_27.out) (Kd.R_base ho0) hb)
           replace HO_505000 := Aside0.mk (Kd.V_elder' (by (with_reducible repeat (first | apply Kd.V_alloc | apply Kd.V_drewN | apply Kd.V_drew)); exact HO_505000.out) (Kd.R_base ho0) hb)
           replace HO_505001 := Aside0.mk (Kd.V_elder' (by (with_reducible repeat (first | apply Kd.V_alloc | apply Kd.V_drewN | apply Kd.V_drew)); exact HO_505001.out) (Kd.R_base ho0) hb)
           have HO516 := Aside0.mk (Kd.R_lower (rn_ (Kd.R_newM (M := fun k_ => (w.heap.size ≤ k_)) ho0 bz_ (fun k_ h_ => h_)) HO519.out) bz_)
           replace HO519 := Aside0.mk (Kd.R_elder' (kr_ HO519.out) (Kd.R_base ho0) hb)
           replace BK504 := bb_ BK504 hb
           replace BK505 := bb_ BK505 hb
           replace HB := Aside0.mk (below_step bl_ hb)
           clear hb ho0
           refine hK.out _ _ ⟨bc_ BK504.out 0, bc_ BK504.out 1⟩ (fun hHeld => ?_)
           clear hK K
           refine norm_ nn_ ?_
           exact norm_ nq_ (hJ6_7 (v515, v518) _ ⟨hHeld, kp_ HO516.out, kr_ HO519.out, (by (with_reducible repeat (first | apply Kd.N_alloc | apply Kd.N_drewN | apply Kd.N_drew)); exact Kd.N_mono HO_27.out (fun _ hk => ⟨hk.1.1, ⟨hk.2, ⟨hk.1.2.1, ⟨hk.1.2.2.1, hk.1.2.2.2⟩⟩⟩⟩)), (by (with_reducible repeat (first | apply Kd.V_alloc | apply Kd.V_drewN | apply Kd.V_drew)); exact Kd.V_mono HO_505000.out (fun _ hk => ⟨hk.1.1, ⟨hk.2, ⟨hk.1.2.1, ⟨hk.1.2.2.1, ⟨hk.1.2.2.2.1, hk.1.2.2.2.2⟩⟩⟩⟩⟩)), (by (with_reducible repeat (first | apply Kd.V_alloc | apply Kd.V_drewN | apply Kd.V_drew)); exact Kd.V_mono HO_505001.out (fun _ hk => ⟨hk.1.1, ⟨hk.2, ⟨hk.1.2.1, ⟨hk.1.2.2.1, ⟨hk.1.2.2.2.1, hk.1.2.2.2.2⟩⟩⟩⟩⟩)), kb_ BK504.out, kb_ BK505.out, bl_⟩)
          ·skip
           refine box_step rfl (N := 13) rfl (cs := #[.slice none 0 0, .slice none 0 0]) (t := 29) gs_ ?_
           intro gb523 hg w72 hbox hb
           replace HO_27 := Aside0.mk (Kd.N_below (Kd.N_elderB (by (with_reducible repeat (first | apply Kd.N_alloc | apply Kd.N_drewN | apply Kd.N_drew)); exact HO_27.out) gb523 (Nat.le_of_eq hg.symm)) hb)
           replace HO_505000 := Aside0.mk (Kd.V_below (Kd.V_elderB (by (with_reducible repeat (first | apply Kd.V_alloc | apply Kd.V_drewN | apply Kd.V_drew)); exact HO_505000.out) gb523 (Nat.le_of_eq hg.symm)) hb)
           replace HO_505001 := Aside0.mk (Kd.V_below (Kd.V_elderB (by (with_reducible repeat (first | apply Kd.V_alloc | apply Kd.V_drewN | apply Kd.V_drew)); exact HO_505001.out) gb523 (Nat.le_of_eq hg.symm)) hb)
           replace HO519 := rb_ HO519 hb
           have BK523 := Aside0.mk (hbox)
           have GW523 := Aside0.mk ((by rw [hg]; exact bz_ : w.heap.size ≤ gb523))
           have GE523 := GW523
           replace HB := Aside0.mk (below_step bl_ hb)
           have NB504_523 := nl_ hg BK504
           have NB523_504 := nm_ hg BK504
           replace BK504 := bb_ BK504 hb
           have NB505_523 := nl_ hg BK505
           have NB523_505 := nm_ hg BK505
           replace BK505 := bb_ BK505 hb
           clear hb hbox hg
           refine hK.out _ _ ⟨bc_ BK504.out 0, bc_ BK504.out 1⟩ (fun hHeld => ?_)
           clear hK K
           refine norm_ nn_ ?_
           exact norm_ nq_ (hJ7_12 (v518, gb523) _ ⟨hHeld, kr_ HO519.out, (by (with_reducible repeat (first | apply Kd.N_alloc | apply Kd.N_drewN | apply Kd.N_drew)); exact Kd.N_mono HO_27.out (fun _ hk => ⟨hk.1.1, ⟨hk.1.2.1, ⟨hk.1.2.2.1, ⟨hk.1.2.2.2, hk.2⟩⟩⟩⟩)), (by (with_reducible repeat (first | apply Kd.V_alloc | apply Kd.V_drewN | apply Kd.V_drew)); exact Kd.V_mono HO_505000.out (fun _ hk => ⟨hk.1.1, ⟨hk.1.2.1, ⟨hk.1.2.2.1, ⟨hk.1.2.2.2.1, ⟨hk.1.2.2.2.2, hk.2⟩⟩⟩⟩⟩)), (by (with_reducible repeat (first | apply Kd.V_alloc | apply Kd.V_drewN | apply Kd.V_drew)); exact Kd.V_mono HO_505001.out (fun _ hk => ⟨hk.1.1, ⟨hk.1.2.1, ⟨hk.1.2.2.1, ⟨hk.1.2.2.2.1, ⟨hk.1.2.2.2.2, hk.2⟩⟩⟩⟩⟩)), kb_ BK504.out, kb_ BK505.out, kb_ BK523.out, GW523.out, GE523.out, NB504_523.out, NB523_504.out, NB505_523.out, NB523_505.out, bl_⟩)
        ·skip
         rintro v515 w70 ⟨hS_, h0_, h1_, h2_, h3_, h4_, h5_, h6_⟩
         try dsimp only at h0_ h1_ h2_ h3_ h4_ h5_ h6_
         have HO516 := Aside0.mk h0_
         replace HO_27 := Aside0.mk h1_
         replace HO_505000 := Aside0.mk h2_
         replace HO_505001 := Aside0.mk h3_
         replace BK504 := Aside0.mk h4_
         replace BK505 := Aside0.mk h5_
         replace HB := Aside0.mk h6_
         clear h0_ h1_ h2_ h3_ h4_ h5_ h6_
         try dsimp only at hS_
         have hHeld := hS_
         refine norm_ np_ ?_
         refine tw_ 7 12 (some 61) (some 13) (h1 := fun K hK => ?_) (h2 := fun K hK => ?_)
         ·skip
          refine Kd.R_lit_step k48 _ 48 rfl (N := 61) rfl (xs := ([] : List (S48))) (inner := []) (ok := fun _ => True) (okp := fun _ => True) gs_ ?hp (fun _ hk => hk) trivial (Below.refl _ _) (Nat.le_refl _) (by simp) ?_; (case hp => exact (Reps.none _ _))
          intro v518 w71 ho72 hb hg_ hnew_
          clear hg_ hnew_
          (first | rw [← Ny517.out] at ho72 | (simp only [Int.reduceToNat] at ho72; rw [← Ny517.out] at ho72))
          replace HO_27 := Aside0.mk (Kd.N_elder' (by (with_reducible repeat (first | apply Kd.N_alloc | apply Kd.N_drewN | apply Kd.N_drew)); exact HO_27.out) (Kd.R_base ho72) hb)
          replace HO_505000 := Aside0.mk (Kd.V_elder' (by (with_reducible repeat (first | apply Kd.V_alloc | apply Kd.V_drewN | apply Kd.V_drew)); exact HO_505000.out) (Kd.R_base ho72) hb)
          replace HO_505001 := Aside0.mk (Kd.V_elder' (by (with_reducible repeat (first | apply Kd.V_alloc | apply Kd.V_drewN | apply Kd.V_drew)); exact HO_505001.out) (Kd.R_base ho72) hb)
          have HO519 := Aside0.mk (Kd.R_lower (rn_ (Kd.R_newM (M := fun k_ => (w.heap.size ≤ k_)) ho72 bz_ (fun k_ h_ => h_)) HO516.out) bz_)
          replace HO516 := Aside0.mk (Kd.R_elder' (kr_ HO516.out) (Kd.R_base ho72) hb)
          replace BK504 := bb_ BK504 hb
          replace BK505 := bb_ BK505 hb
          replace HB := Aside0.mk (below_step bl_ hb)
          clear hb ho72
          refine hK.out _ _ ⟨bc_ BK504.out 0, bc_ BK504.out 1⟩ (fun hHeld => ?_)
          clear hK K
          refine norm_ nn_ ?_
          exact norm_ nq_ (hJ6_7 (v515, v518) _ ⟨hHeld, kr_ HO516.out, kp_ HO519.out, (by (with_reducible repeat (first | apply Kd.N_alloc | apply Kd.N_drewN | apply Kd.N_drew)); exact Kd.N_mono HO_27.out (fun _ hk => ⟨hk.1.1, ⟨hk.1.2.1, ⟨hk.2, ⟨hk.1.2.2.1, hk.1.2.2.2⟩⟩⟩⟩)), (by (with_reducible repeat (first | apply Kd.V_alloc | apply Kd.V_drewN | apply Kd.V_drew)); exact Kd.V_mono HO_505000.out (fun _ hk => ⟨hk.1.1, ⟨hk.1.2.1, ⟨hk.2, ⟨hk.1.2.2.1, ⟨hk.1.2.2.2.1, hk.1.2.2.2.2⟩⟩⟩⟩⟩)), (by (with_reducible repeat (first | apply Kd.V_alloc | apply Kd.V_drewN | apply Kd.V_drew)); exact Kd.V_mono HO_505001.out (fun _ hk => ⟨hk.1.1, ⟨hk.1.2.1, ⟨hk.2, ⟨hk.1.2.2.1, ⟨hk.1.2.2.2.1, hk.1.2.2.2.2⟩⟩⟩⟩⟩)), kb_ BK504.out, kb_ BK505.out, bl_⟩)
         ·skip
          refine box_step rfl (N := 13) rfl (cs := #[.slice none 0 0, .slice none 0 0]) (t := 29) gs_ ?_
          intro gb523 hg w71 hbox hb
          replace HO_27 := Aside0.mk (Kd.N_below (Kd.N_elderB (by (with_reducible repeat (first | apply Kd.N_alloc | apply Kd.N_drewN | apply Kd.N_drew)); exact HO_27.out) gb523 (Nat.le_of_eq hg.symm)) hb)
          replace HO_505000 := Aside0.mk (Kd.V_below (Kd.V_elderB (by (with_reducible repeat (first | apply Kd.V_alloc | apply Kd.V_drewN | apply Kd.V_drew)); exact HO_505000.out) gb523 (Nat.le_of_eq hg.symm)) hb)
          replace HO_505001 := Aside0.mk (Kd.V_below (Kd.V_elderB (by (with_reducible repeat (first | apply Kd.V_alloc | apply Kd.V_drewN | apply Kd.V_drew)); exact HO_505001.out) gb523 (Nat.le_of_eq hg.symm)) hb)
          replace HO516 := rb_ HO516 hb
          have BK523 := Aside0.mk (hbox)
          have GW523 := Aside0.mk ((by rw [hg]; exact bz_ : w.heap.size ≤ gb523))
          have GE523 := GW523
          replace HB := Aside0.mk (below_step bl_ hb)
          have NB504_523 := nl_ hg BK504
          have NB523_504 := nm_ hg BK504
          replace BK504 := bb_ BK504 hb
          have NB505_523 := nl_ hg BK505
          have NB523_505 := nm_ hg BK505
          replace BK505 := bb_ BK505 hb
          clear hb hbox hg
          refine hK.out _ _ ⟨bc_ BK504.out 0, bc_ BK504.out 1⟩ (fun hHeld => ?_)
          clear hK K
          refine norm_ nn_ ?_
          exact norm_ nq_ (hJ6_12 (v515, gb523) _ ⟨hHeld, kr_ HO516.out, (by (with_reducible repeat (first | apply Kd.N_alloc | apply Kd.N_drewN | apply Kd.N_drew)); exact Kd.N_mono HO_27.out (fun _ hk => ⟨hk.1.1, ⟨hk.1.2.1, ⟨hk.1.2.2.1, ⟨hk.1.2.2.2, hk.2⟩⟩⟩⟩)), (by (with_reducible repeat (first | apply Kd.V_alloc | apply Kd.V_drewN | apply Kd.V_drew)); exact Kd.V_mono HO_505000.out (fun _ hk => ⟨hk.1.1, ⟨hk.1.2.1, ⟨hk.1.2.2.1, ⟨hk.1.2.2.2.1, ⟨hk.1.2.2.2.2, hk.2⟩⟩⟩⟩⟩)), (by (with_reducible repeat (first | apply Kd.V_alloc | apply Kd.V_drewN | apply Kd.V_drew)); exact Kd.V_mono HO_505001.out (fun _ hk => ⟨hk.1.1, ⟨hk.1.2.1, ⟨hk.1.2.2.1, ⟨hk.1.2.2.2.1, ⟨hk.1.2.2.2.2, hk.2⟩⟩⟩⟩⟩)), kb_ BK504.out, kb_ BK505.out, kb_ BK523.out, GW523.out, GE523.out, NB504_523.out, NB523_504.out, NB505_523.out, NB523_505.out, bl_⟩)
       ·skip
        rintro ⟨v518, gb523⟩ w72 ⟨hS_, h0_, h1_, h2_, h3_, h4_, h5_, h6_, h7_, h8_, h9_, h10_, h11_, h12_, h13_⟩
        dsimp only at h0_ h1_ h2_ h3_ h4_ h5_ h6_ h7_ h8_ h9_ h10_ h11_ h12_ h13_
        have HO519 := Aside0.mk h0_
        replace HO_27 := Aside0.mk h1_
        replace HO_505000 := Aside0.mk h2_
        replace HO_505001 := Aside0.mk h3_
        replace BK504 := Aside0.mk h4_
        replace BK505 := Aside0.mk h5_
        have BK523 := Aside0.mk h6_
        have GW523 := Aside0.mk h7_
        have GE523 := Aside0.mk h8_
        have NB504_523 := Aside0.mk h9_
        have NB523_504 := Aside0.mk h10_
        have NB505_523 := Aside0.mk h11_
        have NB523_505 := Aside0.mk h12_
        replace HB := Aside0.mk h13_
        clear h0_ h1_ h2_ h3_ h4_ h5_ h6_ h7_ h8_ h9_ h10_ h11_ h12_ h13_
        try dsimp only at hS_
        have hHeld := hS_
        refine norm_ np_ ?_
        refine on_ 6 (some 60) (h := fun K hK => ?_)
        refine goes_ Try.func32 (by kernel_rfl) rfl #[.slice A0_0 l0_0.length c0_0, .agg #[.string a2, .int .i64 a1, .int .i64 x8_2]] (by rfl) rfl rfl nc_ ?_
        with_reducible refine (spec_l14Put.calls k2 _ _ l0_0 a2 a1 x8_2 t514 _ ?side1 ?side2 A44.out).mono ?_
        (case side1 => exact kc_ (Kd.V_reads' HO_505000.out).2.2)
        (case side2 => exact (Kd.V_reads' HO_505000.out).2.1)
        rintro e w73 ⟨v515, rfl, ho0, hb⟩
        refine ⟨_, rfl, ?_⟩
        replace HO_27 := Aside0.mk (Kd.N_elder' (by (with_reducible repeat (first | apply Kd.N_alloc | apply Kd.N_drewN | apply Kd.N_drew)); exact HO_27.out) (Kd.R_base ho0) hb)
        replace HO_505000 := Aside0.mk (Kd.V_elder' (by (with_reducible repeat (first | apply Kd.V_alloc | apply Kd.V_drewN | apply Kd.V_drew)); exact HO_505000.out) (Kd.R_base ho0) hb)
        replace HO_505001 := Aside0.mk (Kd.V_elder' (by (with_reducible repeat (first | apply Kd.V_alloc | apply Kd.V_drewN | apply Kd.V_drew)); exact HO_505001.out) (Kd.R_base ho0) hb)
        have HO516 := Aside0.mk (Kd.R_lower (rn_ (Kd.R_newM (M := fun k_ => (w.heap.size ≤ k_)) ho0 bz_ (fun k_ h_ => h_)) HO519.out) bz_)
        replace HO519 := Aside0.mk (Kd.R_elder' (kr_ HO519.out) (Kd.R_base ho0) hb)
        replace BK504 := bb_ BK504 hb
        replace BK505 := bb_ BK505 hb
        replace BK523 := bb_ BK523 hb
        replace HB := Aside0.mk (below_step bl_ hb)
        clear hb ho0
        refine hK.out _ _ ⟨bc_ BK504.out 0, bc_ BK504.out 1⟩ (fun hHeld => ?_)
        clear hK K
        refine norm_ nn_ ?_
        exact norm_ nq_ (hJ6_7_12 (v515, v518, gb523) _ ⟨hHeld, kp_ HO516.out, kr_ HO519.out, (by (with_reducible repeat (first | apply Kd.N_alloc | apply Kd.N_drewN | apply Kd.N_drew)); exact Kd.N_mono HO_27.out (fun _ hk => ⟨hk.1.1, ⟨hk.2, ⟨hk.1.2.1, ⟨hk.1.2.2.1, ⟨hk.1.2.2.2.1, hk.1.2.2.2.2⟩⟩⟩⟩⟩)), (by (with_reducible repeat (first | apply Kd.V_alloc | apply Kd.V_drewN | apply Kd.V_drew)); exact Kd.V_mono HO_505000.out (fun _ hk => ⟨hk.1.1, ⟨hk.2, ⟨hk.1.2.1, ⟨hk.1.2.2.1, ⟨hk.1.2.2.2.1, ⟨hk.1.2.2.2.2.1, hk.1.2.2.2.2.2⟩⟩⟩⟩⟩⟩)), (by (with_reducible repeat (first | apply Kd.V_alloc | apply Kd.V_drewN | apply Kd.V_drew)); exact Kd.V_mono HO_505001.out (fun _ hk => ⟨hk.1.1, ⟨hk.2, ⟨hk.1.2.1, ⟨hk.1.2.2.1, ⟨hk.1.2.2.2.1, ⟨hk.1.2.2.2.2.1, hk.1.2.2.2.2.2⟩⟩⟩⟩⟩⟩)), kb_ BK504.out, kb_ BK505.out, kb_ BK523.out, GW523.out, GE523.out, NB504_523.out, NB523_504.out, NB505_523.out, NB523_505.out, bl_⟩)
      ·skip
       rintro ⟨v515, gb523⟩ w71 ⟨hS_, h0_, h1_, h2_, h3_, h4_, h5_, h6_, h7_, h8_, h9_, h10_, h11_, h12_, h13_⟩
       dsimp only at h0_ h1_ h2_ h3_ h4_ h5_ h6_ h7_ h8_ h9_ h10_ h11_ h12_ h13_
       have HO516 := Aside0.mk h0_
       replace HO_27 := Aside0.mk h1_
       replace HO_505000 := Aside0.mk h2_
       replace HO_505001 := Aside0.mk h3_
       replace BK504 := Aside0.mk h4_
       replace BK505 := Aside0.mk h5_
       have BK523 := Aside0.mk h6_
       have GW523 := Aside0.mk h7_
       have GE523 := Aside0.mk h8_
       have NB504_523 := Aside0.mk h9_
       have NB523_504 := Aside0.mk h10_
       have NB505_523 := Aside0.mk h11_
       have NB523_505 := Aside0.mk h12_
       replace HB := Aside0.mk h13_
       clear h0_ h1_ h2_ h3_ h4_ h5_ h6_ h7_ h8_ h9_ h10_ h11_ h12_ h13_
       try dsimp only at hS_
       have hHeld := hS_
       refine norm_ np_ ?_
       refine on_ 7 (some 61) (h := fun K hK => ?_)
       refine Kd.R_lit_step k48 _ 48 rfl (N := 61) rfl (xs := ([] : List (S48))) (inner := []) (ok := fun _ => True) (okp := fun _ => True) gs_ ?hp (fun _ hk => hk) trivial (Below.refl _ _) (Nat.le_refl _) (by simp) ?_; (case hp => exact (Reps.none _ _))
       intro v518 w72 ho73 hb hg_ hnew_
       clear hg_ hnew_
       (first | rw [← Ny517.out] at ho73 | (simp only [Int.reduceToNat] at ho73; rw [← Ny517.out] at ho73))
       replace HO_27 := Aside0.mk (Kd.N_elder' (by (with_reducible repeat (first | apply Kd.N_alloc | apply Kd.N_drewN | apply Kd.N_drew)); exact HO_27.out) (Kd.R_base ho73) hb)
       replace HO_505000 := Aside0.mk (Kd.V_elder' (by (with_reducible repeat (first | apply Kd.V_alloc | apply Kd.V_drewN | apply Kd.V_drew)); exact HO_505000.out) (Kd.R_base ho73) hb)
       replace HO_505001 := Aside0.mk (Kd.V_elder' (by (with_reducible repeat (first | apply Kd.V_alloc | apply Kd.V_drewN | apply Kd.V_drew)); exact HO_505001.out) (Kd.R_base ho73) hb)
       have HO519 := Aside0.mk (Kd.R_lower (rn_ (Kd.R_newM (M := fun k_ => (w.heap.size ≤ k_)) ho73 bz_ (fun k_ h_ => h_)) HO516.out) bz_)
       replace HO516 := Aside0.mk (Kd.R_elder' (kr_ HO516.out) (Kd.R_base ho73) hb)
       replace BK504 := bb_ BK504 hb
       replace BK505 := bb_ BK505 hb
       replace BK523 := bb_ BK523 hb
       replace HB := Aside0.mk (below_step bl_ hb)
       clear hb ho73
       refine hK.out _ _ ⟨bc_ BK504.out 0, bc_ BK504.out 1⟩ (fun hHeld => ?_)
       clear hK K
       refine norm_ nn_ ?_
       exact norm_ nq_ (hJ6_7_12 (v515, v518, gb523) _ ⟨hHeld, kr_ HO516.out, kp_ HO519.out, (by (with_reducible repeat (first | apply Kd.N_alloc | apply Kd.N_drewN | apply Kd.N_drew)); exact Kd.N_mono HO_27.out (fun _ hk => ⟨hk.1.1, ⟨hk.1.2.1, ⟨hk.2, ⟨hk.1.2.2.1, ⟨hk.1.2.2.2.1, hk.1.2.2.2.2⟩⟩⟩⟩⟩)), (by (with_reducible repeat (first | apply Kd.V_alloc | apply Kd.V_drewN | apply Kd.V_drew)); exact Kd.V_mono HO_505000.out (fun _ hk => ⟨hk.1.1, ⟨hk.1.2.1, ⟨hk.2, ⟨hk.1.2.2.1, ⟨hk.1.2.2.2.1, ⟨hk.1.2.2.2.2.1, hk.1.2.2.2.2.2⟩⟩⟩⟩⟩⟩)), (by (with_reducible repeat (first | apply Kd.V_alloc | apply Kd.V_drewN | apply Kd.V_drew)); exact Kd.V_mono HO_505001.out (fun _ hk => ⟨hk.1.1, ⟨hk.1.2.1, ⟨hk.2, ⟨hk.1.2.2.1, ⟨hk.1.2.2.2.1, ⟨hk.1.2.2.2.2.1, hk.1.2.2.2.2.2⟩⟩⟩⟩⟩⟩)), kb_ BK504.out, kb_ BK505.out, kb_ BK523.out, GW523.out, GE523.out, NB504_523.out, NB523_504.out, NB505_523.out, NB523_505.out, bl_⟩)
     ·skip
      rintro ⟨v515, v518⟩ w72 ⟨hS_, h0_, h1_, h2_, h3_, h4_, h5_, h6_, h7_⟩
      dsimp only at h0_ h1_ h2_ h3_ h4_ h5_ h6_ h7_
      have HO516 := Aside0.mk h0_
      have HO519 := Aside0.mk h1_
      replace HO_27 := Aside0.mk h2_
      replace HO_505000 := Aside0.mk h3_
      replace HO_505001 := Aside0.mk h4_
      replace BK504 := Aside0.mk h5_
      replace BK505 := Aside0.mk h6_
      replace HB := Aside0.mk h7_
      clear h0_ h1_ h2_ h3_ h4_ h5_ h6_ h7_
      try dsimp only at hS_
      have hHeld := hS_
      refine norm_ np_ ?_
      refine tw_ 10 12 (some 64) (some 13) (h1 := fun K hK => ?_) (h2 := fun K hK => ?_)
      ·skip
       refine Kd.R_append_rows_step k48 (w0 := w) w.heap.size (by rfl) (.tmp 61) (.tmp 63) 27 48 (.agg #[(.string ⟨#[]⟩), (.int .i64 0), (.int .i64 0)]) 32 rfl Try.underlying27 info48 rfl (by decide) (by omega) v518 y517 l0_1 _ _ _ (fun k_ => (w.heap.size ≤ k_) ∧ some k_ ≠ (v515 : Value).ownBlock) (fun _ => False) rfl rfl ?aO ?aR (fun _ _ h => h) (fun _ h => h.elim) ?aF ?aB ?aS ?aL ?_
       (case aR => exact kc_ (Kd.V_reads' HO_505001.out).2.2)
       (case aB => exact bl_)
       (case aF => exact (fun k_ hk => ⟨(Nat.le_trans bz_ hk), Kd.fresh' (Kd.R_lt (kr_ HO516.out)) k_ hk⟩))
       (case aO => exact (kr_ HO519.out))
       (case aS => exact bz_)
       (case aL => have := LMc45.out; omega)
       intro v521 w73 ho hb hg hat
       rw [← Ny520.out] at ho
       replace HO_27 := Aside0.mk (Kd.N_afterv (ok := (fun k_ => ((P0_0_ k_ ∨ P0_1_ k_) ∨ w.heap.size ≤ k_) ∧ some k_ ≠ (v515 : Value).ownBlock ∧ k_ ≠ gb504 ∧ k_ ≠ gb505)) (by (with_reducible repeat (first | apply Kd.N_alloc | apply Kd.N_drewN | apply Kd.N_drew)); exact Kd.N_mono HO_27.out (fun _ hk => ⟨⟨hk.1, ⟨hk.2.1, ⟨hk.2.2.2.1, hk.2.2.2.2⟩⟩⟩, hk.2.2.1⟩)) hg hat)
       replace HO_505000 := Aside0.mk (Kd.V_afterv (ok := (fun k_ => ((P0_0_ k_ ∨ P0_1_ k_) ∨ w.heap.size ≤ k_) ∧ some k_ ≠ (.slice Ao23 y508.length co23 : Value).ownBlock ∧ some k_ ≠ (v515 : Value).ownBlock ∧ k_ ≠ gb504 ∧ k_ ≠ gb505)) (by (with_reducible repeat (first | apply Kd.V_alloc | apply Kd.V_drewN | apply Kd.V_drew)); exact Kd.V_mono HO_505000.out (fun _ hk => ⟨⟨hk.1, ⟨hk.2.2.2.1, ⟨hk.2.1, ⟨hk.2.2.2.2.1, hk.2.2.2.2.2⟩⟩⟩⟩, hk.2.2.1⟩)) hg hat)
       replace HO_505001 := Aside0.mk (Kd.V_afterv (ok := (fun k_ => ((P0_0_ k_ ∨ P0_1_ k_) ∨ w.heap.size ≤ k_) ∧ some k_ ≠ (.slice Ao23 y508.length co23 : Value).ownBlock ∧ some k_ ≠ (v515 : Value).ownBlock ∧ k_ ≠ gb504 ∧ k_ ≠ gb505)) (by (with_reducible repeat (first | apply Kd.V_alloc | apply Kd.V_drewN | apply Kd.V_drew)); exact Kd.V_mono HO_505001.out (fun _ hk => ⟨⟨hk.1, ⟨hk.2.2.2.1, ⟨hk.2.1, ⟨hk.2.2.2.2.1, hk.2.2.2.2.2⟩⟩⟩⟩, hk.2.2.1⟩)) hg hat)
       replace BK504 := bgr_ BK504 hg HO519 BK504
       replace BK505 := bgr_ BK505 hg HO519 BK505
       replace HO516 := Aside0.mk (Kd.R_after (ok := (fun k_ => (w.heap.size ≤ k_))) (kr_ HO516.out) hg hat)
       replace HB := Aside0.mk (hb)
       have HO522 := Aside0.mk (ho)
       clear HO519 ho hb hg hat
       obtain ⟨Ao74, co74, eo74⟩ := Kd.R_slice HO522.out
       (first | subst eo74 | (injection eo74 with f1_ f2_ f3_; have f4_ := f1_.symm; have f5_ := f3_.symm; clear f1_ f2_ f3_; subst f4_; subst f5_))
       obtain ⟨Ao75, co75, eo75⟩ := Kd.R_slice HO516.out
       (first | subst eo75 | (injection eo75 with f1_ f2_ f3_; have f4_ := f1_.symm; have f5_ := f3_.symm; clear f1_ f2_ f3_; subst f4_; subst f5_))
       refine hK.out _ _ ⟨bc_ BK504.out 0, bc_ BK504.out 1⟩ (fun hHeld => ?_)
       clear hK K
       refine norm_ nn_ ?_
       refine pu_ 11 (some 65) (h := ?_)
       exact norm_ nq_ (hJ6_7_10 (.slice Ao75 t514.length co75, v518, .slice Ao74 y520.length co74) _ ⟨hHeld, kr_ HO516.out, kr_ HO522.out, (by (with_reducible repeat (first | apply Kd.N_alloc | apply Kd.N_drewN | apply Kd.N_drew)); exact Kd.N_mono HO_27.out (fun _ hk => ⟨hk.1.1, ⟨hk.1.2.1, ⟨hk.2, ⟨hk.1.2.2.1, hk.1.2.2.2⟩⟩⟩⟩)), (by (with_reducible repeat (first | apply Kd.V_alloc | apply Kd.V_drewN | apply Kd.V_drew)); exact Kd.V_mono HO_505000.out (fun _ hk => ⟨hk.1.1, ⟨hk.1.2.2.1, ⟨hk.2, ⟨hk.1.2.1, ⟨hk.1.2.2.2.1, hk.1.2.2.2.2⟩⟩⟩⟩⟩)), (by (with_reducible repeat (first | apply Kd.V_alloc | apply Kd.V_drewN | apply Kd.V_drew)); exact Kd.V_mono HO_505001.out (fun _ hk => ⟨hk.1.1, ⟨hk.1.2.2.1, ⟨hk.2, ⟨hk.1.2.1, ⟨hk.1.2.2.2.1, hk.1.2.2.2.2⟩⟩⟩⟩⟩)), kb_ BK504.out, kb_ BK505.out, bl_⟩)
      ·skip
       refine box_step rfl (N := 13) rfl (cs := #[.slice none 0 0, .slice none 0 0]) (t := 29) gs_ ?_
       intro gb523 hg w73 hbox hb
       replace HO_27 := Aside0.mk (Kd.N_below (Kd.N_elderB (by (with_reducible repeat (first | apply Kd.N_alloc | apply Kd.N_drewN | apply Kd.N_drew)); exact HO_27.out) gb523 (Nat.le_of_eq hg.symm)) hb)
       replace HO_505000 := Aside0.mk (Kd.V_below (Kd.V_elderB (by (with_reducible repeat (first | apply Kd.V_alloc | apply Kd.V_drewN | apply Kd.V_drew)); exact HO_505000.out) gb523 (Nat.le_of_eq hg.symm)) hb)
       replace HO_505001 := Aside0.mk (Kd.V_below (Kd.V_elderB (by (with_reducible repeat (first | apply Kd.V_alloc | apply Kd.V_drewN | apply Kd.V_drew)); exact HO_505001.out) gb523 (Nat.le_of_eq hg.symm)) hb)
       replace HO516 := rb_ HO516 hb
       replace HO519 := rb_ HO519 hb
       have BK523 := Aside0.mk (hbox)
       have GW523 := Aside0.mk ((by rw [hg]; exact bz_ : w.heap.size ≤ gb523))
       have GE523 := GW523
       replace HB := Aside0.mk (below_step bl_ hb)
       have NB504_523 := nl_ hg BK504
       have NB523_504 := nm_ hg BK504
       replace BK504 := bb_ BK504 hb
       have NB505_523 := nl_ hg BK505
       have NB523_505 := nm_ hg BK505
       replace BK505 := bb_ BK505 hb
       clear hb hbox hg
       refine hK.out _ _ ⟨bc_ BK504.out 0, bc_ BK504.out 1⟩ (fun hHeld => ?_)
       clear hK K
       refine norm_ nn_ ?_
       exact norm_ nq_ (hJ6_7_12 (v515, v518, gb523) _ ⟨hHeld, kr_ HO516.out, kr_ HO519.out, (by (with_reducible repeat (first | apply Kd.N_alloc | apply Kd.N_drewN | apply Kd.N_drew)); exact Kd.N_mono HO_27.out (fun _ hk => ⟨hk.1.1, ⟨hk.1.2.1, ⟨hk.1.2.2.1, ⟨hk.1.2.2.2.1, ⟨hk.1.2.2.2.2, hk.2⟩⟩⟩⟩⟩)), (by (with_reducible repeat (first | apply Kd.V_alloc | apply Kd.V_drewN | apply Kd.V_drew)); exact Kd.V_mono HO_505000.out (fun _ hk => ⟨hk.1.1, ⟨hk.1.2.1, ⟨hk.1.2.2.1, ⟨hk.1.2.2.2.1, ⟨hk.1.2.2.2.2.1, ⟨hk.1.2.2.2.2.2, hk.2⟩⟩⟩⟩⟩⟩)), (by (with_reducible repeat (first | apply Kd.V_alloc | apply Kd.V_drewN | apply Kd.V_drew)); exact Kd.V_mono HO_505001.out (fun _ hk => ⟨hk.1.1, ⟨hk.1.2.1, ⟨hk.1.2.2.1, ⟨hk.1.2.2.2.1, ⟨hk.1.2.2.2.2.1, ⟨hk.1.2.2.2.2.2, hk.2⟩⟩⟩⟩⟩⟩)), kb_ BK504.out, kb_ BK505.out, kb_ BK523.out, GW523.out, GE523.out, NB504_523.out, NB523_504.out, NB505_523.out, NB523_505.out, bl_⟩)
    ·skip
     rintro ⟨v515, v518, gb523⟩ w73 ⟨hS_, h0_, h1_, h2_, h3_, h4_, h5_, h6_, h7_, h8_, h9_, h10_, h11_, h12_, h13_, h14_⟩
     dsimp only at h0_ h1_ h2_ h3_ h4_ h5_ h6_ h7_ h8_ h9_ h10_ h11_ h12_ h13_ h14_
     have HO516 := Aside0.mk h0_
     have HO519 := Aside0.mk h1_
     replace HO_27 := Aside0.mk h2_
     replace HO_505000 := Aside0.mk h3_
     replace HO_505001 := Aside0.mk h4_
     replace BK504 := Aside0.mk h5_
     replace BK505 := Aside0.mk h6_
     have BK523 := Aside0.mk h7_
     have GW523 := Aside0.mk h8_
     have GE523 := Aside0.mk h9_
     have NB504_523 := Aside0.mk h10_
     have NB523_504 := Aside0.mk h11_
     have NB505_523 := Aside0.mk h12_
     have NB523_505 := Aside0.mk h13_
     replace HB := Aside0.mk h14_
     clear h0_ h1_ h2_ h3_ h4_ h5_ h6_ h7_ h8_ h9_ h10_ h11_ h12_ h13_ h14_
     try dsimp only at hS_
     have hHeld := hS_
     refine norm_ np_ ?_
     refine on_ 10 (some 64) (h := fun K hK => ?_)
     refine Kd.R_append_rows_step k48 (w0 := w) w.heap.size (by rfl) (.tmp 61) (.tmp 63) 27 48 (.agg #[(.string ⟨#[]⟩), (.int .i64 0), (.int .i64 0)]) 32 rfl Try.underlying27 info48 rfl (by decide) (by omega) v518 y517 l0_1 _ _ _ (fun k_ => (w.heap.size ≤ k_) ∧ some k_ ≠ (v515 : Value).ownBlock) (fun _ => False) rfl rfl ?aO ?aR (fun _ _ h => h) (fun _ h => h.elim) ?aF ?aB ?aS ?aL ?_
     (case aR => exact kc_ (Kd.V_reads' HO_505001.out).2.2)
     (case aB => exact bl_)
     (case aF => exact (fun k_ hk => ⟨(Nat.le_trans bz_ hk), Kd.fresh' (Kd.R_lt (kr_ HO516.out)) k_ hk⟩))
     (case aO => exact (kr_ HO519.out))
     (case aS => exact bz_)
     (case aL => have := LMc45.out; omega)
     intro v521 w74 ho hb hg hat
     rw [← Ny520.out] at ho
     replace HO_27 := Aside0.mk (Kd.N_afterv (ok := (fun k_ => ((P0_0_ k_ ∨ P0_1_ k_) ∨ w.heap.size ≤ k_) ∧ some k_ ≠ (v515 : Value).ownBlock ∧ k_ ≠ gb504 ∧ k_ ≠ gb505 ∧ k_ ≠ gb523)) (by (with_reducible repeat (first | apply Kd.N_alloc | apply Kd.N_drewN | apply Kd.N_drew)); exact Kd.N_mono HO_27.out (fun _ hk => ⟨⟨hk.1, ⟨hk.2.1, ⟨hk.2.2.2.1, ⟨hk.2.2.2.2.1, hk.2.2.2.2.2⟩⟩⟩⟩, hk.2.2.1⟩)) hg hat)
     replace HO_505000 := Aside0.mk (Kd.V_afterv (ok := (fun k_ => ((P0_0_ k_ ∨ P0_1_ k_) ∨ w.heap.size ≤ k_) ∧ some k_ ≠ (.slice Ao23 y508.length co23 : Value).ownBlock ∧ some k_ ≠ (v515 : Value).ownBlock ∧ k_ ≠ gb504 ∧ k_ ≠ gb505 ∧ k_ ≠ gb523)) (by (with_reducible repeat (first | apply Kd.V_alloc | apply Kd.V_drewN | apply Kd.V_drew)); exact Kd.V_mono HO_505000.out (fun _ hk => ⟨⟨hk.1, ⟨hk.2.2.2.1, ⟨hk.2.1, ⟨hk.2.2.2.2.1, ⟨hk.2.2.2.2.2.1, hk.2.2.2.2.2.2⟩⟩⟩⟩⟩, hk.2.2.1⟩)) hg hat)
     replace HO_505001 := Aside0.mk (Kd.V_afterv (ok := (fun k_ => ((P0_0_ k_ ∨ P0_1_ k_) ∨ w.heap.size ≤ k_) ∧ some k_ ≠ (.slice Ao23 y508.length co23 : Value).ownBlock ∧ some k_ ≠ (v515 : Value).ownBlock ∧ k_ ≠ gb504 ∧ k_ ≠ gb505 ∧ k_ ≠ gb523)) (by (with_reducible repeat (first | apply Kd.V_alloc | apply Kd.V_drewN | apply Kd.V_drew)); exact Kd.V_mono HO_505001.out (fun _ hk => ⟨⟨hk.1, ⟨hk.2.2.2.1, ⟨hk.2.1, ⟨hk.2.2.2.2.1, ⟨hk.2.2.2.2.2.1, hk.2.2.2.2.2.2⟩⟩⟩⟩⟩, hk.2.2.1⟩)) hg hat)
     replace BK504 := bgr_ BK504 hg HO519 BK504
     replace BK505 := bgr_ BK505 hg HO519 BK505
     replace HO516 := Aside0.mk (Kd.R_after (ok := (fun k_ => (w.heap.size ≤ k_))) (kr_ HO516.out) hg hat)
     replace BK523 := bgr_ BK523 hg HO519 BK523
     replace HB := Aside0.mk (hb)
     have HO522 := Aside0.mk (ho)
     clear HO519 ho hb hg hat
     obtain ⟨Ao75, co75, eo75⟩ := Kd.R_slice HO522.out
     (first | subst eo75 | (injection eo75 with f1_ f2_ f3_; have f4_ := f1_.symm; have f5_ := f3_.symm; clear f1_ f2_ f3_; subst f4_; subst f5_))
     obtain ⟨Ao76, co76, eo76⟩ := Kd.R_slice HO516.out
     (first | subst eo76 | (injection eo76 with f1_ f2_ f3_; have f4_ := f1_.symm; have f5_ := f3_.symm; clear f1_ f2_ f3_; subst f4_; subst f5_))
     refine hK.out _ _ ⟨bc_ BK504.out 0, bc_ BK504.out 1⟩ (fun hHeld => ?_)
     clear hK K
     refine norm_ nn_ ?_
     refine pu_ 11 (some 65) (h := ?_)
     exact norm_ nq_ (hJ6_7_10_12 (.slice Ao76 t514.length co76, v518, .slice Ao75 y520.length co75, gb523) _ ⟨hHeld, kr_ HO516.out, kr_ HO522.out, (by (with_reducible repeat (first | apply Kd.N_alloc | apply Kd.N_drewN | apply Kd.N_drew)); exact Kd.N_mono HO_27.out (fun _ hk => ⟨hk.1.1, ⟨hk.1.2.1, ⟨hk.2, ⟨hk.1.2.2.1, ⟨hk.1.2.2.2.1, hk.1.2.2.2.2⟩⟩⟩⟩⟩)), (by (with_reducible repeat (first | apply Kd.V_alloc | apply Kd.V_drewN | apply Kd.V_drew)); exact Kd.V_mono HO_505000.out (fun _ hk => ⟨hk.1.1, ⟨hk.1.2.2.1, ⟨hk.2, ⟨hk.1.2.1, ⟨hk.1.2.2.2.1, ⟨hk.1.2.2.2.2.1, hk.1.2.2.2.2.2⟩⟩⟩⟩⟩⟩)), (by (with_reducible repeat (first | apply Kd.V_alloc | apply Kd.V_drewN | apply Kd.V_drew)); exact Kd.V_mono HO_505001.out (fun _ hk => ⟨hk.1.1, ⟨hk.1.2.2.1, ⟨hk.2, ⟨hk.1.2.1, ⟨hk.1.2.2.2.1, ⟨hk.1.2.2.2.2.1, hk.1.2.2.2.2.2⟩⟩⟩⟩⟩⟩)), kb_ BK504.out, kb_ BK505.out, kb_ BK523.out, GW523.out, GE523.out, NB504_523.out, NB523_504.out, NB505_523.out, NB523_505.out, bl_⟩)
   ·skip
    rintro ⟨v515, v518, v521⟩ w75 ⟨hS_, h0_, h1_, h2_, h3_, h4_, h5_, h6_, h7_⟩
    dsimp only at h0_ h1_ h2_ h3_ h4_ h5_ h6_ h7_
    have HO516 := Aside0.mk h0_
    have HO522 := Aside0.mk h1_
    replace HO_27 := Aside0.mk h2_
    replace HO_505000 := Aside0.mk h3_
    replace HO_505001 := Aside0.mk h4_
    replace BK504 := Aside0.mk h5_
    replace BK505 := Aside0.mk h6_
    replace HB := Aside0.mk h7_
    clear h0_ h1_ h2_ h3_ h4_ h5_ h6_ h7_
    try dsimp only at hS_
    have hHeld := hS_
    obtain ⟨Ao76, co76, eo76⟩ := Kd.R_slice HO522.out
    (first | subst eo76 | (injection eo76 with f1_ f2_ f3_; have f4_ := f1_.symm; have f5_ := f3_.symm; clear f1_ f2_ f3_; subst f4_; subst f5_))
    obtain ⟨Ao77, co77, eo77⟩ := Kd.R_slice HO516.out
    (first | subst eo77 | (injection eo77 with f1_ f2_ f3_; have f4_ := f1_.symm; have f5_ := f3_.symm; clear f1_ f2_ f3_; subst f4_; subst f5_))
    refine norm_ np_ ?_
    refine on_ 12 (some 13) (h := fun K hK => ?_)
    refine box_step rfl (N := 13) rfl (cs := #[.slice none 0 0, .slice none 0 0]) (t := 29) gs_ ?_
    intro gb523 hg w78 hbox hb
    replace HO_27 := Aside0.mk (Kd.N_below (Kd.N_elderB (by (with_reducible repeat (first | apply Kd.N_alloc | apply Kd.N_drewN | apply Kd.N_drew)); exact HO_27.out) gb523 (Nat.le_of_eq hg.symm)) hb)
    replace HO_505000 := Aside0.mk (Kd.V_below (Kd.V_elderB (by (with_reducible repeat (first | apply Kd.V_alloc | apply Kd.V_drewN | apply Kd.V_drew)); exact HO_505000.out) gb523 (Nat.le_of_eq hg.symm)) hb)
    replace HO_505001 := Aside0.mk (Kd.V_below (Kd.V_elderB (by (with_reducible repeat (first | apply Kd.V_alloc | apply Kd.V_drewN | apply Kd.V_drew)); exact HO_505001.out) gb523 (Nat.le_of_eq hg.symm)) hb)
    replace HO516 := rb_ HO516 hb
    replace HO522 := rb_ HO522 hb
    have BK523 := Aside0.mk (hbox)
    have GW523 := Aside0.mk ((by rw [hg]; exact bz_ : w.heap.size ≤ gb523))
    have GE523 := GW523
    replace HB := Aside0.mk (below_step bl_ hb)
    have NB504_523 := nl_ hg BK504
    have NB523_504 := nm_ hg BK504
    replace BK504 := bb_ BK504 hb
    have NB505_523 := nl_ hg BK505
    have NB523_505 := nm_ hg BK505
    replace BK505 := bb_ BK505 hb
    clear hb hbox hg
    refine hK.out _ _ ⟨bc_ BK504.out 0, bc_ BK504.out 1⟩ (fun hHeld => ?_)
    clear hK K
    refine norm_ nn_ ?_
    exact norm_ nq_ (hJ6_7_10_12 (.slice Ao77 t514.length co77, v518, .slice Ao76 y520.length co76, gb523) _ ⟨hHeld, kr_ HO516.out, kr_ HO522.out, (by (with_reducible repeat (first | apply Kd.N_alloc | apply Kd.N_drewN | apply Kd.N_drew)); exact Kd.N_mono HO_27.out (fun _ hk => ⟨hk.1.1, ⟨hk.1.2.1, ⟨hk.1.2.2.1, ⟨hk.1.2.2.2.1, ⟨hk.1.2.2.2.2, hk.2⟩⟩⟩⟩⟩)), (by (with_reducible repeat (first | apply Kd.V_alloc | apply Kd.V_drewN | apply Kd.V_drew)); exact Kd.V_mono HO_505000.out (fun _ hk => ⟨hk.1.1, ⟨hk.1.2.1, ⟨hk.1.2.2.1, ⟨hk.1.2.2.2.1, ⟨hk.1.2.2.2.2.1, ⟨hk.1.2.2.2.2.2, hk.2⟩⟩⟩⟩⟩⟩)), (by (with_reducible repeat (first | apply Kd.V_alloc | apply Kd.V_drewN | apply Kd.V_drew)); exact Kd.V_mono HO_505001.out (fun _ hk => ⟨hk.1.1, ⟨hk.1.2.1, ⟨hk.1.2.2.1, ⟨hk.1.2.2.2.1, ⟨hk.1.2.2.2.2.1, ⟨hk.1.2.2.2.2.2, hk.2⟩⟩⟩⟩⟩⟩)), kb_ BK504.out, kb_ BK505.out, kb_ BK523.out, GW523.out, GE523.out, NB504_523.out, NB523_504.out, NB505_523.out, NB523_505.out, bl_⟩)
  rintro ⟨v515, v518, v521, gb523⟩ w76 ⟨hS_, h0_, h1_, h2_, h3_, h4_, h5_, h6_, h7_, h8_, h9_, h10_, h11_, h12_, h13_, h14_⟩
  dsimp only at h0_ h1_ h2_ h3_ h4_ h5_ h6_ h7_ h8_ h9_ h10_ h11_ h12_ h13_ h14_
  have HO516 := Aside0.mk h0_
  have HO522 := Aside0.mk h1_
  replace HO_27 := Aside0.mk h2_
  replace HO_505000 := Aside0.mk h3_
  replace HO_505001 := Aside0.mk h4_
  replace BK504 := Aside0.mk h5_
  replace BK505 := Aside0.mk h6_
  have BK523 := Aside0.mk h7_
  have GW523 := Aside0.mk h8_
  have GE523 := Aside0.mk h9_
  have NB504_523 := Aside0.mk h10_
  have NB523_504 := Aside0.mk h11_
  have NB505_523 := Aside0.mk h12_
  have NB523_505 := Aside0.mk h13_
  replace HB := Aside0.mk h14_
  clear h0_ h1_ h2_ h3_ h4_ h5_ h6_ h7_ h8_ h9_ h10_ h11_ h12_ h13_ h14_
  try dsimp only at hS_
  have hHeld := hS_
  obtain ⟨Ao77, co77, eo77⟩ := Kd.R_slice HO522.out
  (first | subst eo77 | (injection eo77 with f1_ f2_ f3_; have f4_ := f1_.symm; have f5_ := f3_.symm; clear f1_ f2_ f3_; subst f4_; subst f5_))
  obtain ⟨Ao78, co78, eo78⟩ := Kd.R_slice HO516.out
  (first | subst eo78 | (injection eo78 with f1_ f2_ f3_; have f4_ := f1_.symm; have f5_ := f3_.symm; clear f1_ f2_ f3_; subst f4_; subst f5_))
  refine norm_ np_ ?_
  refine on_ 13 none (h := fun K hK => ?_)
  have hs79 : w76.cell? ⟨gb523, 0, none⟩ = some (.slice none 0 0) := bc_ BK523.out 0
  have hfs79 := blk_frozen BK523.out 0
  have hns79_0 := NB504_523.out
  have hns79_1 := NB505_523.out
  have hms79_0 := NB523_504.out
  have hms79_1 := NB523_505.out
  have hs80 : w76.cell? ⟨gb523, 1, none⟩ = some (.slice none 0 0) := bc_ BK523.out 1
  have hfs80 := blk_frozen BK523.out 1
  have hns80_0 := NB504_523.out
  have hns80_1 := NB505_523.out
  have hms80_0 := NB523_504.out
  have hms80_1 := NB523_505.out
  refine skip_ (w1 := ?_) (by rfl) rfl ?_ ?_
  rotate_left
  ·go_simp
   rfl
  refine hK.out _ _ ⟨((cell_far (p := ⟨gb523, _, none⟩) NB504_523.out _).trans (((cell_far (p := ⟨gb523, _, none⟩) NB504_523.out _).trans (hHeld.1)))), ((cell_far (p := ⟨gb523, _, none⟩) NB504_523.out _).trans (((cell_far (p := ⟨gb523, _, none⟩) NB504_523.out _).trans (hHeld.2))))⟩ (fun hHeld => ?_)
  clear hK K
  refine done_ (done_of HT_.out (by kernel_rfl)) ?_
  have hnb81 := NB523_504.out
  have hnc81 := NB504_523.out
  have hnb82 := NB523_505.out
  have hnc82 := NB505_523.out
  have hcz83_0 : w76.cell? ⟨gb523, 0, none⟩ = some (.slice none 0 0) := bc_ BK523.out 0
  have hcz83_1 : w76.cell? ⟨gb523, 1, none⟩ = some (.slice none 0 0) := bc_ BK523.out 1
  have hfz83_0 := blk_frozen BK523.out 0
  have hfz83_1 := blk_frozen BK523.out 1
  try go_wp2_with (first | ((with_reducible refine gate_callee (f := 9) rfl ?_); refine goesL_ (some 67) rfl rfl Try.func9 (by kernel_rfl) rfl #[.agg #[.slice Ao78 t514.length co78, .slice Ao77 y520.length co77]] rfl nc_ ?_; (with_reducible refine (spec_GoodBag.calls k2 _ _ t514 _ _ y520 false _ ?side1 ?side2 ?side3 ?side4 A46.out).mono ?_); (case side1 => exact (Kd.R_reads' (kr_ (rs2_ HO516.out BK523.out (.slice Ao78 t514.length co78) (.slice Ao77 y520.length co77)))).2.2); (case side2 => exact (Kd.R_reads' HO516.out).2.1); (case side3 => exact (Kd.R_reads' (kr_ (rs2_ HO522.out BK523.out (.slice Ao78 t514.length co78) (.slice Ao77 y520.length co77)))).2.2); (case side4 => exact (Kd.R_reads' HO522.out).2.1); rintro e w84 ⟨rfl, hb⟩; refine ⟨_, rfl, ?_⟩; replace HO_27 := Aside0.mk (Kd.N_below (by (with_reducible repeat (first | apply Kd.N_alloc | apply Kd.N_drewN | apply Kd.N_drew)); exact (Kd.N_mono (Kd.N_far (p := ⟨gb523, 1, none⟩) (Kd.N_far (p := ⟨gb523, 0, none⟩) (Kd.N_mono HO_27.out (fun k_ hk => (⟨hk, hk.2.2.2.2.2⟩ : _ ∧ k_ ≠ gb523))) (fun _ hk => hk.2) (.slice Ao78 t514.length co78)) (fun _ hk => hk.2) (.slice Ao77 y520.length co77)) (fun _ h_ => h_.1))) hb); replace HO_505000 := Aside0.mk (Kd.V_below (by (with_reducible repeat (first | apply Kd.V_alloc | apply Kd.V_drewN | apply Kd.V_drew)); exact (Kd.V_mono (Kd.V_far (p := ⟨gb523, 1, none⟩) (Kd.V_far (p := ⟨gb523, 0, none⟩) (Kd.V_mono HO_505000.out (fun k_ hk => (⟨hk, hk.2.2.2.2.2.2⟩ : _ ∧ k_ ≠ gb523))) (fun _ hk => hk.2) (.slice Ao78 t514.length co78)) (fun _ hk => hk.2) (.slice Ao77 y520.length co77)) (fun _ h_ => h_.1))) hb); replace HO_505001 := Aside0.mk (Kd.V_below (by (with_reducible repeat (first | apply Kd.V_alloc | apply Kd.V_drewN | apply Kd.V_drew)); exact (Kd.V_mono (Kd.V_far (p := ⟨gb523, 1, none⟩) (Kd.V_far (p := ⟨gb523, 0, none⟩) (Kd.V_mono HO_505001.out (fun k_ hk => (⟨hk, hk.2.2.2.2.2.2⟩ : _ ∧ k_ ≠ gb523))) (fun _ hk => hk.2) (.slice Ao78 t514.length co78)) (fun _ hk => hk.2) (.slice Ao77 y520.length co77)) (fun _ h_ => h_.1))) hb); replace HO516 := Aside0.mk (Kd.R_below (kr_ (rs2_ HO516.out BK523.out (.slice Ao78 t514.length co78) (.slice Ao77 y520.length co77))) hb); replace HO522 := Aside0.mk (Kd.R_below (kr_ (rs2_ HO522.out BK523.out (.slice Ao78 t514.length co78) (.slice Ao77 y520.length co77))) hb); replace BK504 := Aside0.mk (blk_below (g := gb504) (o := .cells #[.slice A0_0 l0_0.length c0_0, .slice A0_1 l0_1.length c0_1] 29 (0, 0)) kz_ hb); replace BK505 := Aside0.mk (blk_below (g := gb505) (o := .cells #[.slice none 0 0, .slice none 0 0] 29 (0, 0)) kz_ hb); replace BK523 := Aside0.mk (blk_below (g := gb523) (o := .cells #[.slice Ao78 t514.length co78, .slice Ao77 y520.length co77] 29 (0, 0)) (by (with_reducible repeat (first | refine blk_drewN ?_ _ | refine blk_drew ?_ | refine blk_alloc ?_ _)); refine blk_put (cs := #[.slice Ao78 t514.length co78, .slice none 0 0]) ?_ 1 _ rfl; (with_reducible repeat (first | refine blk_drewN ?_ _ | refine blk_drew ?_ | refine blk_alloc ?_ _)); refine blk_put (cs := #[.slice none 0 0, .slice none 0 0]) ?_ 0 _ rfl; exact kb_ BK523.out) hb); replace HB := Aside0.mk (below_step bl_ hb); clear hb; have hnb85 := NB505_504.out; have hnc85 := NB504_505.out; have hcz86_0 : w84.cell? ⟨gb505, 0, none⟩ = some (.slice none 0 0) := bc_ BK505.out 0; have hcz86_1 : w84.cell? ⟨gb505, 1, none⟩ = some (.slice none 0 0) := bc_ BK505.out 1; have hfz86_0 := blk_frozen BK505.out 0; have hfz86_1 := blk_frozen BK505.out 1))
  refine bodyPost_ret (results_ct rfl _ _ gb505 29 #[.slice none 0 0, .slice none 0 0] (0, 0) _ rfl (by (with_reducible repeat (first | refine blk_drewN ?_ _ | refine blk_drew ?_ | refine blk_alloc ?_ _)); refine blk_put (cs := #[.slice none 0 0, .slice none 0 0]) ?_ 1 _ rfl; (with_reducible repeat (first | refine blk_drewN ?_ _ | refine blk_drew ?_ | refine blk_alloc ?_ _)); refine blk_put (cs := #[.slice none 0 0, .slice none 0 0]) ?_ 0 _ rfl; exact kb_ BK505.out) Try.underlying29 rfl (by kernel_rfl)) rfl ?_
  exact ⟨_, _, ng_, by first | exact Kd.R_nil _ _ _ _ _ | exact Kd.N_nil _ _ _ _ _ | exact Kd.V_nil _ _ _ _ _ | exact Kd.Q_nil _ _ _ _ _ | exact Kd.S_nil _ _ _ _ _, by first | exact Kd.R_nil _ _ _ _ _ | exact Kd.N_nil _ _ _ _ _ | exact Kd.V_nil _ _ _ _ _ | exact Kd.Q_nil _ _ _ _ _ | exact Kd.S_nil _ _ _ _ _, bl_⟩
 subst c47
 have H1 : (some (t514, y520, true)) = some (r1, r2, r3) := by rw [if_pos rfl] at H; exact H
 clear H
 have H := H1
 clear H1
 simp only [Option.some.injEq, Prod.mk.injEq] at H
 obtain ⟨rfl, rfl, rfl⟩ := H
 try go_wp2
 replace HO_27 := Aside0.mk (Kd.N_drew HO_27.out)
 replace HO_505000 := Aside0.mk (Kd.V_drew HO_505000.out)
 replace HO_505001 := Aside0.mk (Kd.V_drew HO_505001.out)
 replace BK504 := Aside0.mk (blk_drew BK504.out)
 replace BK505 := Aside0.mk (blk_drew BK505.out)
 replace HB := Aside0.mk (below_drew1 HB.out)
 refine start_ (n := 14) (S := fun w' => w'.cell? ⟨gb504, 0, none⟩ = some (.slice A0_0 l0_0.length c0_0) ∧ w'.cell? ⟨gb504, 1, none⟩ = some (.slice A0_1 l0_1.length c0_1)) (ds := []) #[false, false, false, false, false, false, false, false, false, false, false, false, false, false] (by kernel_rfl) rfl rfl ⟨bc_ BK504.out 0, bc_ BK504.out 1⟩ (fun hHeld => ?_); refine with_tabW spec_AddTo.tab14 spec_AddTo.bits14 (fun HT_ HW_ => ?_)
 generalize wr.drew = w48 at HO_27 HO_505000 HO_505001 BK504 BK505 HB hHeld ⊢
 refine pu_ 0 (some 54) (h := ?_)
 refine pu_ 2 (some 56) (h := ?_)
 refine pu_ 3 (some 57) (h := ?_)
 refine pu_ 4 (some 58) (h := ?_)
 refine pu_ 5 (some 59) (h := ?_)
 refine pu_ 8 (some 62) (h := ?_)
 refine tk2_ 1 (some 55) (h := ?_)
 refine tk2_ 9 (some 63) (h := ?_)
 refine join_ (σ := Value × Value × Value × Nat) 1 #[true, true, true, true, true, true, true, true, true, true, true, true, true, false] (fun s_ => [(60, s_.1), (61, s_.2.1), (64, s_.2.2.1), (13, .pointer (some ⟨s_.2.2.2, 0, none⟩)), (65, .agg #[s_.1, s_.2.2.1])]) (fun s_ w' => (w'.cell? ⟨gb504, 0, none⟩ = some (.slice A0_0 l0_0.length c0_0) ∧ w'.cell? ⟨gb504, 1, none⟩ = some (.slice A0_1 l0_1.length c0_1)) ∧ (Kd.R k48 48 w' w.heap.size (fun k_ => (w.heap.size ≤ k_) ∧ some k_ ≠ (s_.2.2.1 : Value).ownBlock) s_.1 t514) ∧ (Kd.R k48 48 w' w.heap.size (fun k_ => (w.heap.size ≤ k_) ∧ some k_ ≠ (s_.1 : Value).ownBlock) s_.2.2.1 y520) ∧ (Kd.N (Kd.slice 48 k48) 27 w' w.heap.size (fun k_ => ((P0_0_ k_ ∨ P0_1_ k_) ∨ w.heap.size ≤ k_) ∧ some k_ ≠ (s_.1 : Value).ownBlock ∧ some k_ ≠ (s_.2.2.1 : Value).ownBlock ∧ k_ ≠ gb504 ∧ k_ ≠ gb505 ∧ k_ ≠ s_.2.2.2) (.slice Ao23 y508.length co23) y508) ∧ (Kd.V k48 48 w' w.heap.size (fun k_ => ((P0_0_ k_ ∨ P0_1_ k_) ∨ w.heap.size ≤ k_) ∧ some k_ ≠ (s_.1 : Value).ownBlock ∧ some k_ ≠ (s_.2.2.1 : Value).ownBlock ∧ some k_ ≠ (.slice Ao23 y508.length co23 : Value).ownBlock ∧ k_ ≠ gb504 ∧ k_ ≠ gb505 ∧ k_ ≠ s_.2.2.2) (.slice A0_0 l0_0.length c0_0) l0_0) ∧ (Kd.V k48 48 w' w.heap.size (fun k_ => ((P0_0_ k_ ∨ P0_1_ k_) ∨ w.heap.size ≤ k_) ∧ some k_ ≠ (s_.1 : Value).ownBlock ∧ some k_ ≠ (s_.2.2.1 : Value).ownBlock ∧ some k_ ≠ (.slice Ao23 y508.length co23 : Value).ownBlock ∧ k_ ≠ gb504 ∧ k_ ≠ gb505 ∧ k_ ≠ s_.2.2.2) (.slice A0_1 l0_1.length c0_1) l0_1) ∧ (w'.heap[gb504]? = some (.cells #[.slice A0_0 l0_0.length c0_0, .slice A0_1 l0_1.length c0_1] 29 (0, 0))) ∧ (w'.heap[gb505]? = some (.cells #[.slice none 0 0, .slice none 0 0] 29 (0, 0))) ∧ (w'.heap[s_.2.2.2]? = some (.cells #[.slice none 0 0, .slice none 0 0] 29 (0, 0))) ∧ (w.heap.size ≤ s_.2.2.2) ∧ (w.heap.size ≤ s_.2.2.2) ∧ (gb504 ≠ s_.2.2.2) ∧ (s_.2.2.2 ≠ gb504) ∧ (gb505 ≠ s_.2.2.2) ∧ (s_.2.2.2 ≠ gb505) ∧ (Below w.heap.size w w')) ?_ ?_
 rotate_left
 ·intro hJ6_7_10_12
  refine join_ (σ := Value × Value × Value) 2 #[true, true, true, true, true, true, true, true, true, true, true, true, false, false] (fun s_ => [(60, s_.1), (61, s_.2.1), (64, s_.2.2), (65, .agg #[s_.1, s_.2.2])]) (fun s_ w' => (w'.cell? ⟨gb504, 0, none⟩ = some (.slice A0_0 l0_0.length c0_0) ∧ w'.cell? ⟨gb504, 1, none⟩ = some (.slice A0_1 l0_1.length c0_1)) ∧ (Kd.R k48 48 w' w.heap.size (fun k_ => (w.heap.size ≤ k_) ∧ some k_ ≠ (s_.2.2 : Value).ownBlock) s_.1 t514) ∧ (Kd.R k48 48 w' w.heap.size (fun k_ => (w.heap.size ≤ k_) ∧ some k_ ≠ (s_.1 : Value).ownBlock) s_.2.2 y520) ∧ (Kd.N (Kd.slice 48 k48) 27 w' w.heap.size (fun k_ => ((P0_0_ k_ ∨ P0_1_ k_) ∨ w.heap.size ≤ k_) ∧ some k_ ≠ (s_.1 : Value).ownBlock ∧ some k_ ≠ (s_.2.2 : Value).ownBlock ∧ k_ ≠ gb504 ∧ k_ ≠ gb505) (.slice Ao23 y508.length co23) y508) ∧ (Kd.V k48 48 w' w.heap.size (fun k_ => ((P0_0_ k_ ∨ P0_1_ k_) ∨ w.heap.size ≤ k_) ∧ some k_ ≠ (s_.1 : Value).ownBlock ∧ some k_ ≠ (s_.2.2 : Value).ownBlock ∧ some k_ ≠ (.slice Ao23 y508.length co23 : Value).ownBlock ∧ k_ ≠ gb504 ∧ k_ ≠ gb505) (.slice A0_0 l0_0.length c0_0) l0_0) ∧ (Kd.V k48 48 w' w.heap.size (fun k_ => ((P0_0_ k_ ∨ P0_1_ k_) ∨ w.heap.size ≤ k_) ∧ some k_ ≠ (s_.1 : Value).ownBlock ∧ some k_ ≠ (s_.2.2 : Value).ownBlock ∧ some k_ ≠ (.slice Ao23 y508.length co23 : Value).ownBlock ∧ k_ ≠ gb504 ∧ k_ ≠ gb505) (.slice A0_1 l0_1.length c0_1) l0_1) ∧ (w'.heap[gb504]? = some (.cells #[.slice A0_0 l0_0.length c0_0, .slice A0_1 l0_1.length c0_1] 29 (0, 0))) ∧ (w'.heap[gb505]? = some (.cells #[.slice none 0 0, .slice none 0 0] 29 (0, 0))) ∧ (Below w.heap.size w w')) ?_ ?_
  rotate_left
  ·intro hJ6_7_10
   refine join_ (σ := Value × Value × Nat) 3 #[true, true, true, true, true, true, true, true, true, true, false, false, true, false] (fun s_ => [(60, s_.1), (61, s_.2.1), (13, .pointer (some ⟨s_.2.2, 0, none⟩))]) (fun s_ w' => (w'.cell? ⟨gb504, 0, none⟩ = some (.slice A0_0 l0_0.length c0_0) ∧ w'.cell? ⟨gb504, 1, none⟩ = some (.slice A0_1 l0_1.length c0_1)) ∧ (Kd.R k48 48 w' w.heap.size (fun k_ => (w.heap.size ≤ k_) ∧ some k_ ≠ (s_.2.1 : Value).ownBlock) s_.1 t514) ∧ (Kd.R k48 48 w' w.heap.size (fun k_ => (w.heap.size ≤ k_) ∧ some k_ ≠ (s_.1 : Value).ownBlock) s_.2.1 y517) ∧ (Kd.N (Kd.slice 48 k48) 27 w' w.heap.size (fun k_ => ((P0_0_ k_ ∨ P0_1_ k_) ∨ w.heap.size ≤ k_) ∧ some k_ ≠ (s_.1 : Value).ownBlock ∧ some k_ ≠ (s_.2.1 : Value).ownBlock ∧ k_ ≠ gb504 ∧ k_ ≠ gb505 ∧ k_ ≠ s_.2.2) (.slice Ao23 y508.length co23) y508) ∧ (Kd.V k48 48 w' w.heap.size (fun k_ => ((P0_0_ k_ ∨ P0_1_ k_) ∨ w.heap.size ≤ k_) ∧ some k_ ≠ (s_.1 : Value).ownBlock ∧ some k_ ≠ (s_.2.1 : Value).ownBlock ∧ some k_ ≠ (.slice Ao23 y508.length co23 : Value).ownBlock ∧ k_ ≠ gb504 ∧ k_ ≠ gb505 ∧ k_ ≠ s_.2.2) (.slice A0_0 l0_0.length c0_0) l0_0) ∧ (Kd.V k48 48 w' w.heap.size (fun k_ => ((P0_0_ k_ ∨ P0_1_ k_) ∨ w.heap.size ≤ k_) ∧ some k_ ≠ (s_.1 : Value).ownBlock ∧ some k_ ≠ (s_.2.1 : Value).ownBlock ∧ some k_ ≠ (.slice Ao23 y508.length co23 : Value).ownBlock ∧ k_ ≠ gb504 ∧ k_ ≠ gb505 ∧ k_ ≠ s_.2.2) (.slice A0_1 l0_1.length c0_1) l0_1) ∧ (w'.heap[gb504]? = some (.cells #[.slice A0_0 l0_0.length c0_0, .slice A0_1 l0_1.length c0_1] 29 (0, 0))) ∧ (w'.heap[gb505]? = some (.cells #[.slice none 0 0, .slice none 0 0] 29 (0, 0))) ∧ (w'.heap[s_.2.2]? = some (.cells #[.slice none 0 0, .slice none 0 0] 29 (0, 0))) ∧ (w.heap.size ≤ s_.2.2) ∧ (w.heap.size ≤ s_.2.2) ∧ (gb504 ≠ s_.2.2) ∧ (s_.2.2 ≠ gb504) ∧ (gb505 ≠ s_.2.2) ∧ (s_.2.2 ≠ gb505) ∧ (Below w.heap.size w w')) ?_ ?_
   rotate_left
   ·intro hJ6_7_12
    refine join_ (σ := Value × Value) 4 #[true, true, true, true, true, true, true, true, true, true, false, false, false, false] (fun s_ => [(60, s_.1), (61, s_.2)]) (fun s_ w' => (w'.cell? ⟨gb504, 0, none⟩ = some (.slice A0_0 l0_0.length c0_0) ∧ w'.cell? ⟨gb504, 1, none⟩ = some (.slice A0_1 l0_1.length c0_1)) ∧ (Kd.R k48 48 w' w.heap.size (fun k_ => (w.heap.size ≤ k_) ∧ some k_ ≠ (s_.2 : Value).ownBlock) s_.1 t514) ∧ (Kd.R k48 48 w' w.heap.size (fun k_ => (w.heap.size ≤ k_) ∧ some k_ ≠ (s_.1 : Value).ownBlock) s_.2 y517) ∧ (Kd.N (Kd.slice 48 k48) 27 w' w.heap.size (fun k_ => ((P0_0_ k_ ∨ P0_1_ k_) ∨ w.heap.size ≤ k_) ∧ some k_ ≠ (s_.1 : Value).ownBlock ∧ some k_ ≠ (s_.2 : Value).ownBlock ∧ k_ ≠ gb504 ∧ k_ ≠ gb505) (.slice Ao23 y508.length co23) y508) ∧ (Kd.V k48 48 w' w.heap.size (fun k_ => ((P0_0_ k_ ∨ P0_1_ k_) ∨ w.heap.size ≤ k_) ∧ some k_ ≠ (s_.1 : Value).ownBlock ∧ some k_ ≠ (s_.2 : Value).ownBlock ∧ some k_ ≠ (.slice Ao23 y508.length co23 : Value).ownBlock ∧ k_ ≠ gb504 ∧ k_ ≠ gb505) (.slice A0_0 l0_0.length c0_0) l0_0) ∧ (Kd.V k48 48 w' w.heap.size (fun k_ => ((P0_0_ k_ ∨ P0_1_ k_) ∨ w.heap.size ≤ k_) ∧ some k_ ≠ (s_.1 : Value).ownBlock ∧ some k_ ≠ (s_.2 : Value).ownBlock ∧ some k_ ≠ (.slice Ao23 y508.length co23 : Value).ownBlock ∧ k_ ≠ gb504 ∧ k_ ≠ gb505) (.slice A0_1 l0_1.length c0_1) l0_1) ∧ (w'.heap[gb504]? = some (.cells #[.slice A0_0 l0_0.length c0_0, .slice A0_1 l0_1.length c0_1] 29 (0, 0))) ∧ (w'.heap[gb505]? = some (.cells #[.slice none 0 0, .slice none 0 0] 29 (0, 0))) ∧ (Below w.heap.size w w')) ?_ ?_
    rotate_left
    ·intro hJ6_7
     refine join_ (σ := Value × Nat) 4 #[true, true, true, true, true, true, true, false, true, true, false, false, true, false] (fun s_ => [(60, s_.1), (13, .pointer (some ⟨s_.2, 0, none⟩))]) (fun s_ w' => (w'.cell? ⟨gb504, 0, none⟩ = some (.slice A0_0 l0_0.length c0_0) ∧ w'.cell? ⟨gb504, 1, none⟩ = some (.slice A0_1 l0_1.length c0_1)) ∧ (Kd.R k48 48 w' w.heap.size (fun k_ => (w.heap.size ≤ k_)) s_.1 t514) ∧ (Kd.N (Kd.slice 48 k48) 27 w' w.heap.size (fun k_ => ((P0_0_ k_ ∨ P0_1_ k_) ∨ w.heap.size ≤ k_) ∧ some k_ ≠ (s_.1 : Value).ownBlock ∧ k_ ≠ gb504 ∧ k_ ≠ gb505 ∧ k_ ≠ s_.2) (.slice Ao23 y508.length co23) y508) ∧ (Kd.V k48 48 w' w.heap.size (fun k_ => ((P0_0_ k_ ∨ P0_1_ k_) ∨ w.heap.size ≤ k_) ∧ some k_ ≠ (s_.1 : Value).ownBlock ∧ some k_ ≠ (.slice Ao23 y508.length co23 : Value).ownBlock ∧ k_ ≠ gb504 ∧ k_ ≠ gb505 ∧ k_ ≠ s_.2) (.slice A0_0 l0_0.length c0_0) l0_0) ∧ (Kd.V k48 48 w' w.heap.size (fun k_ => ((P0_0_ k_ ∨ P0_1_ k_) ∨ w.heap.size ≤ k_) ∧ some k_ ≠ (s_.1 : Value).ownBlock ∧ some k_ ≠ (.slice Ao23 y508.length co23 : Value).ownBlock ∧ k_ ≠ gb504 ∧ k_ ≠ gb505 ∧ k_ ≠ s_.2) (.slice A0_1 l0_1.length c0_1) l0_1) ∧ (w'.heap[gb504]? = some (.cells #[.slice A0_0 l0_0.length c0_0, .slice A0_1 l0_1.length c0_1] 29 (0, 0))) ∧ (w'.heap[gb505]? = some (.cells #[.slice none 0 0, .slice none 0 0] 29 (0, 0))) ∧ (w'.heap[s_.2]? = some (.cells #[.slice none 0 0, .slice none 0 0] 29 (0, 0))) ∧ (w.heap.size ≤ s_.2) ∧ (w.heap.size ≤ s_.2) ∧ (gb504 ≠ s_.2) ∧ (s_.2 ≠ gb504) ∧ (gb505 ≠ s_.2) ∧ (s_.2 ≠ gb505) ∧ (Below w.heap.size w w')) ?_ ?_
     rotate_left
     ·intro hJ6_12
      refine join_ (σ := Value × Nat) 4 #[true, true, true, true, true, true, false, true, true, true, false, false, true, false] (fun s_ => [(61, s_.1), (13, .pointer (some ⟨s_.2, 0, none⟩))]) (fun s_ w' => (w'.cell? ⟨gb504, 0, none⟩ = some (.slice A0_0 l0_0.length c0_0) ∧ w'.cell? ⟨gb504, 1, none⟩ = some (.slice A0_1 l0_1.length c0_1)) ∧ (Kd.R k48 48 w' w.heap.size (fun k_ => (w.heap.size ≤ k_)) s_.1 y517) ∧ (Kd.N (Kd.slice 48 k48) 27 w' w.heap.size (fun k_ => ((P0_0_ k_ ∨ P0_1_ k_) ∨ w.heap.size ≤ k_) ∧ some k_ ≠ (s_.1 : Value).ownBlock ∧ k_ ≠ gb504 ∧ k_ ≠ gb505 ∧ k_ ≠ s_.2) (.slice Ao23 y508.length co23) y508) ∧ (Kd.V k48 48 w' w.heap.size (fun k_ => ((P0_0_ k_ ∨ P0_1_ k_) ∨ w.heap.size ≤ k_) ∧ some k_ ≠ (s_.1 : Value).ownBlock ∧ some k_ ≠ (.slice Ao23 y508.length co23 : Value).ownBlock ∧ k_ ≠ gb504 ∧ k_ ≠ gb505 ∧ k_ ≠ s_.2) (.slice A0_0 l0_0.length c0_0) l0_0) ∧ (Kd.V k48 48 w' w.heap.size (fun k_ => ((P0_0_ k_ ∨ P0_1_ k_) ∨ w.heap.size ≤ k_) ∧ some k_ ≠ (s_.1 : Value).ownBlock ∧ some k_ ≠ (.slice Ao23 y508.length co23 : Value).ownBlock ∧ k_ ≠ gb504 ∧ k_ ≠ gb505 ∧ k_ ≠ s_.2) (.slice A0_1 l0_1.length c0_1) l0_1) ∧ (w'.heap[gb504]? = some (.cells #[.slice A0_0 l0_0.length c0_0, .slice A0_1 l0_1.length c0_1] 29 (0, 0))) ∧ (w'.heap[gb505]? = some (.cells #[.slice none 0 0, .slice none 0 0] 29 (0, 0))) ∧ (w'.heap[s_.2]? = some (.cells #[.slice none 0 0, .slice none 0 0] 29 (0, 0))) ∧ (w.heap.size ≤ s_.2) ∧ (w.heap.size ≤ s_.2) ∧ (gb504 ≠ s_.2) ∧ (s_.2 ≠ gb504) ∧ (gb505 ≠ s_.2) ∧ (s_.2 ≠ gb505) ∧ (Below w.heap.size w w')) ?_ ?_
      rotate_left
      ·intro hJ7_12
       refine join_ (σ := Value) 5 #[true, true, true, true, true, true, true, false, true, true, false, false, false, false] (fun s_ => [(60, s_)]) (fun s_ w' => (w'.cell? ⟨gb504, 0, none⟩ = some (.slice A0_0 l0_0.length c0_0) ∧ w'.cell? ⟨gb504, 1, none⟩ = some (.slice A0_1 l0_1.length c0_1)) ∧ (Kd.R k48 48 w' w.heap.size (fun k_ => (w.heap.size ≤ k_)) s_ t514) ∧ (Kd.N (Kd.slice 48 k48) 27 w' w.heap.size (fun k_ => ((P0_0_ k_ ∨ P0_1_ k_) ∨ w.heap.size ≤ k_) ∧ some k_ ≠ (s_ : Value).ownBlock ∧ k_ ≠ gb504 ∧ k_ ≠ gb505) (.slice Ao23 y508.length co23) y508) ∧ (Kd.V k48 48 w' w.heap.size (fun k_ => ((P0_0_ k_ ∨ P0_1_ k_) ∨ w.heap.size ≤ k_) ∧ some k_ ≠ (s_ : Value).ownBlock ∧ some k_ ≠ (.slice Ao23 y508.length co23 : Value).ownBlock ∧ k_ ≠ gb504 ∧ k_ ≠ gb505) (.slice A0_0 l0_0.length c0_0) l0_0) ∧ (Kd.V k48 48 w' w.heap.size (fun k_ => ((P0_0_ k_ ∨ P0_1_ k_) ∨ w.heap.size ≤ k_) ∧ some k_ ≠ (s_ : Value).ownBlock ∧ some k_ ≠ (.slice Ao23 y508.length co23 : Value).ownBlock ∧ k_ ≠ gb504 ∧ k_ ≠ gb505) (.slice A0_1 l0_1.length c0_1) l0_1) ∧ (w'.heap[gb504]? = some (.cells #[.slice A0_0 l0_0.length c0_0, .slice A0_1 l0_1.length c0_1] 29 (0, 0))) ∧ (w'.heap[gb505]? = some (.cells #[.slice none 0 0, .slice none 0 0] 29 (0, 0))) ∧ (Below w.heap.size w w')) ?_ ?_
       rotate_left
       ·intro hJ6
        refine join_ (σ := Value) 5 #[true, true, true, true, true, true, false, true, true, true, false, false, false, false] (fun s_ => [(61, s_)]) (fun s_ w' => (w'.cell? ⟨gb504, 0, none⟩ = some (.slice A0_0 l0_0.length c0_0) ∧ w'.cell? ⟨gb504, 1, none⟩ = some (.slice A0_1 l0_1.length c0_1)) ∧ (Kd.R k48 48 w' w.heap.size (fun k_ => (w.heap.size ≤ k_)) s_ y517) ∧ (Kd.N (Kd.slice 48 k48) 27 w' w.heap.size (fun k_ => ((P0_0_ k_ ∨ P0_1_ k_) ∨ w.heap.size ≤ k_) ∧ some k_ ≠ (s_ : Value).ownBlock ∧ k_ ≠ gb504 ∧ k_ ≠ gb505) (.slice Ao23 y508.length co23) y508) ∧ (Kd.V k48 48 w' w.heap.size (fun k_ => ((P0_0_ k_ ∨ P0_1_ k_) ∨ w.heap.size ≤ k_) ∧ some k_ ≠ (s_ : Value).ownBlock ∧ some k_ ≠ (.slice Ao23 y508.length co23 : Value).ownBlock ∧ k_ ≠ gb504 ∧ k_ ≠ gb505) (.slice A0_0 l0_0.length c0_0) l0_0) ∧ (Kd.V k48 48 w' w.heap.size (fun k_ => ((P0_0_ k_ ∨ P0_1_ k_) ∨ w.heap.size ≤ k_) ∧ some k_ ≠ (s_ : Value).ownBlock ∧ some k_ ≠ (.slice Ao23 y508.length co23 : Value).ownBlock ∧ k_ ≠ gb504 ∧ k_ ≠ gb505) (.slice A0_1 l0_1.length c0_1) l0_1) ∧ (w'.heap[gb504]? = some (.cells #[.slice A0_0 l0_0.length c0_0, .slice A0_1 l0_1.length c0_1] 29 (0, 0))) ∧ (w'.heap[gb505]? = some (.cells #[.slice none 0 0, .slice none 0 0] 29 (0, 0))) ∧ (Below w.heap.size w w')) ?_ ?_
        rotate_left
        ·intro hJ7
         refine join_ (σ := Nat) 5 #[true, true, true, true, true, true, false, false, true, true, false, false, true, false] (fun s_ => [(13, .pointer (some ⟨s_, 0, none⟩))]) (fun s_ w' => (w'.cell? ⟨gb504, 0, none⟩ = some (.slice A0_0 l0_0.length c0_0) ∧ w'.cell? ⟨gb504, 1, none⟩ = some (.slice A0_1 l0_1.length c0_1)) ∧ (Kd.N (Kd.slice 48 k48) 27 w' w.heap.size (fun k_ => ((P0_0_ k_ ∨ P0_1_ k_) ∨ w.heap.size ≤ k_) ∧ k_ ≠ gb504 ∧ k_ ≠ gb505 ∧ k_ ≠ s_) (.slice Ao23 y508.length co23) y508) ∧ (Kd.V k48 48 w' w.heap.size (fun k_ => ((P0_0_ k_ ∨ P0_1_ k_) ∨ w.heap.size ≤ k_) ∧ some k_ ≠ (.slice Ao23 y508.length co23 : Value).ownBlock ∧ k_ ≠ gb504 ∧ k_ ≠ gb505 ∧ k_ ≠ s_) (.slice A0_0 l0_0.length c0_0) l0_0) ∧ (Kd.V k48 48 w' w.heap.size (fun k_ => ((P0_0_ k_ ∨ P0_1_ k_) ∨ w.heap.size ≤ k_) ∧ some k_ ≠ (.slice Ao23 y508.length co23 : Value).ownBlock ∧ k_ ≠ gb504 ∧ k_ ≠ gb505 ∧ k_ ≠ s_) (.slice A0_1 l0_1.length c0_1) l0_1) ∧ (w'.heap[gb504]? = some (.cells #[.slice A0_0 l0_0.length c0_0, .slice A0_1 l0_1.length c0_1] 29 (0, 0))) ∧ (w'.heap[gb505]? = some (.cells #[.slice none 0 0, .slice none 0 0] 29 (0, 0))) ∧ (w'.heap[s_]? = some (.cells #[.slice none 0 0, .slice none 0 0] 29 (0, 0))) ∧ (w.heap.size ≤ s_) ∧ (w.heap.size ≤ s_) ∧ (gb504 ≠ s_) ∧ (s_ ≠ gb504) ∧ (gb505 ≠ s_) ∧ (s_ ≠ gb505) ∧ (Below w.heap.size w w')) ?_ ?_
         rotate_left
         ·intro hJ12
          refine th_ 6 7 12 (some 60) (some 61) (some 13) (h1 := fun K hK => ?_) (h2 := fun K hK => ?_) (h3 := fun K hK => ?_)
          ·skip
           refine goes_ Try.func32 (by kernel_rfl) rfl #[.slice A0_0 l0_0.length c0_0, .agg #[.string a2, .int .i64 a1, .int .i64 x8_2]] (by rfl) rfl rfl nc_ ?_
           with_reducible refine (spec_l14Put.calls k2 _ _ l0_0 a2 a1 x8_2 t514 _ ?side1 ?side2 A44.out).mono ?_
           (case side1 => exact kc_ (Kd.V_reads' HO_505000.out).2.2)
           (case side2 => exact (Kd.V_reads' HO_505000.out).2.1)
           rintro e w49 ⟨v515, rfl, ho0, hb⟩
           refine ⟨_, rfl, ?_⟩
           replace HO_27 := Aside0.mk (Kd.N_elder' (by (with_reducible repeat (first | apply Kd.N_alloc | apply Kd.N_drewN | apply Kd.N_drew)); exact HO_27.out) (Kd.R_base ho0) hb)
           replace HO_505000 := Aside0.mk (Kd.V_elder' (by (with_reducible repeat (first | apply Kd.V_alloc | apply Kd.V_drewN | apply Kd.V_drew)); exact HO_505000.out) (Kd.R_base ho0) hb)
           replace HO_505001 := Aside0.mk (Kd.V_elder' (by (with_reducible repeat (first | apply Kd.V_alloc | apply Kd.V_drewN | apply Kd.V_drew)); exact HO_505001.out) (Kd.R_base ho0) hb)
           have HO516 := Aside0.mk (Kd.R_lower (Kd.R_newM (M := fun k_ => (w.heap.size ≤ k_)) ho0 bz_ (fun k_ h_ => h_)) bz_)
           replace BK504 := bb_ BK504 hb
           replace BK505 := bb_ BK505 hb
           replace HB := Aside0.mk (below_step bl_ hb)
           clear hb ho0
           refine hK.out _ _ ⟨bc_ BK504.out 0, bc_ BK504.out 1⟩ (fun hHeld => ?_)
           clear hK K
           refine norm_ nn_ ?_
           exact norm_ nq_ (hJ6 (v515) _ ⟨hHeld, kp_ HO516.out (hok := fun _ hk => by first | exact hk | exact hk.2 | exact hk.1 | exact hk.2.2 | exact hk.1.2 | (simp only [ne_eq] at hk ⊢; simp only [hk, not_false_eq_true, and_self])), (by (with_reducible repeat (first | apply Kd.N_alloc | apply Kd.N_drewN | apply Kd.N_drew)); exact Kd.N_mono HO_27.out (fun _ hk => ⟨hk.1.1, ⟨hk.2, ⟨hk.1.2.1, hk.1.2.2⟩⟩⟩)), (by (with_reducible repeat (first | apply Kd.V_alloc | apply Kd.V_drewN | apply Kd.V_drew)); exact Kd.V_mono HO_505000.out (fun _ hk => ⟨hk.1.1, ⟨hk.2, ⟨hk.1.2.1, ⟨hk.1.2.2.1, hk.1.2.2.2⟩⟩⟩⟩)), (by (with_reducible repeat (first | apply Kd.V_alloc | apply Kd.V_drewN | apply Kd.V_drew)); exact Kd.V_mono HO_505001.out (fun _ hk => ⟨hk.1.1, ⟨hk.2, ⟨hk.1.2.1, ⟨hk.1.2.2.1, hk.1.2.2.2⟩⟩⟩⟩)), kb_ BK504.out, kb_ BK505.out, bl_⟩)
          ·skip
           refine Kd.R_lit_step k48 _ 48 rfl (N := 61) rfl (xs := ([] : List (S48))) (inner := []) (ok := fun _ => True) (okp := fun _ => True) gs_ ?hp (fun _ hk => hk) trivial (Below.refl _ _) (Nat.le_refl _) (by simp) ?_; (case hp => exact (Reps.none _ _))
           intro v518 w49 ho50 hb hg_ hnew_
           clear hg_ hnew_
           (first | rw [← Ny517.out] at ho50 | (simp only [Int.reduceToNat] at ho50; rw [← Ny517.out] at ho50))
           replace HO_27 := Aside0.mk (Kd.N_elder' (by (with_reducible repeat (first | apply Kd.N_alloc | apply Kd.N_drewN | apply Kd.N_drew)); exact HO_27.out) (Kd.R_base ho50) hb)
           replace HO_505000 := Aside0.mk (Kd.V_elder' (by (with_reducible repeat (first | apply Kd.V_alloc | apply Kd.V_drewN | apply Kd.V_drew)); exact HO_505000.out) (Kd.R_base ho50) hb)
           replace HO_505001 := Aside0.mk (Kd.V_elder' (by (with_reducible repeat (first | apply Kd.V_alloc | apply Kd.V_drewN | apply Kd.V_drew)); exact HO_505001.out) (Kd.R_base ho50) hb)
           have HO519 := Aside0.mk (Kd.R_lower (Kd.R_newM (M := fun k_ => (w.heap.size ≤ k_)) ho50 bz_ (fun k_ h_ => h_)) bz_)
           replace BK504 := bb_ BK504 hb
           replace BK505 := bb_ BK505 hb
           replace HB := Aside0.mk (below_step bl_ hb)
           clear hb ho50
           refine hK.out _ _ ⟨bc_ BK504.out 0, bc_ BK504.out 1⟩ (fun hHeld => ?_)
           clear hK K
           refine norm_ nn_ ?_
           exact norm_ nq_ (hJ7 (v518) _ ⟨hHeld, kp_ HO519.out (hok := fun _ hk => by first | exact hk | exact hk.2 | exact hk.1 | exact hk.2.2 | exact hk.1.2 | (simp only [ne_eq] at hk ⊢; simp only [hk, not_false_eq_true, and_self])), (by (with_reducible repeat (first | apply Kd.N_alloc | apply Kd.N_drewN | apply Kd.N_drew)); exact Kd.N_mono HO_27.out (fun _ hk => ⟨hk.1.1, ⟨hk.2, ⟨hk.1.2.1, hk.1.2.2⟩⟩⟩)), (by (with_reducible repeat (first | apply Kd.V_alloc | apply Kd.V_drewN | apply Kd.V_drew)); exact Kd.V_mono HO_505000.out (fun _ hk => ⟨hk.1.1, ⟨hk.2, ⟨hk.1.2.1, ⟨hk.1.2.2.1, hk.1.2.2.2⟩⟩⟩⟩)), (by (with_reducible repeat (first | apply Kd.V_alloc | apply Kd.V_drewN | apply Kd.V_drew)); exact Kd.V_mono HO_505001.out (fun _ hk => ⟨hk.1.1, ⟨hk.2, ⟨hk.1.2.1, ⟨hk.1.2.2.1, hk.1.2.2.2⟩⟩⟩⟩)), kb_ BK504.out, kb_ BK505.out, bl_⟩)
          ·skip
           refine box_step rfl (N := 13) rfl (cs := #[.slice none 0 0, .slice none 0 0]) (t := 29) gs_ ?_
           intro gb523 hg w49 hbox hb
           replace HO_27 := Aside0.mk (Kd.N_below (Kd.N_elderB (by (with_reducible repeat (first | apply Kd.N_alloc | apply Kd.N_drewN | apply Kd.N_drew)); exact HO_27.out) gb523 (Nat.le_of_eq hg.symm)) hb)
           replace HO_505000 := Aside0.mk (Kd.V_below (Kd.V_elderB (by (with_reducible repeat (first | apply Kd.V_alloc | apply Kd.V_drewN | apply Kd.V_drew)); exact HO_505000.out) gb523 (Nat.le_of_eq hg.symm)) hb)
           replace HO_505001 := Aside0.mk (Kd.V_below (Kd.V_elderB (by (with_reducible repeat (first | apply Kd.V_alloc | apply Kd.V_drewN | apply Kd.V_drew)); exact HO_505001.out) gb523 (Nat.le_of_eq hg.symm)) hb)
           have BK523 := Aside0.mk (hbox)
           have GW523 := Aside0.mk ((by rw [hg]; exact bz_ : w.heap.size ≤ gb523))
           have GE523 := GW523
           replace HB := Aside0.mk (below_step bl_ hb)
           have NB504_523 := nl_ hg BK504
           have NB523_504 := nm_ hg BK504
           replace BK504 := bb_ BK504 hb
           have NB505_523 := nl_ hg BK505
           have NB523_505 := nm_ hg BK505
           replace BK505 := bb_ BK505 hb
           clear hb hbox hg
           refine hK.out _ _ ⟨bc_ BK504.out 0, bc_ BK504.out 1⟩ (fun hHeld => ?_)
           clear hK K
           refine norm_ nn_ ?_
           exact norm_ nq_ (hJ12 (gb523) _ ⟨hHeld, (by (with_reducible repeat (first | apply Kd.N_alloc | apply Kd.N_drewN | apply Kd.N_drew)); exact Kd.N_mono HO_27.out (fun _ hk => ⟨hk.1.1, ⟨hk.1.2.1, ⟨hk.1.2.2, hk.2⟩⟩⟩)), (by (with_reducible repeat (first | apply Kd.V_alloc | apply Kd.V_drewN | apply Kd.V_drew)); exact Kd.V_mono HO_505000.out (fun _ hk => ⟨hk.1.1, ⟨hk.1.2.1, ⟨hk.1.2.2.1, ⟨hk.1.2.2.2, hk.2⟩⟩⟩⟩)), (by (with_reducible repeat (first | apply Kd.V_alloc | apply Kd.V_drewN | apply Kd.V_drew)); exact Kd.V_mono HO_505001.out (fun _ hk => ⟨hk.1.1, ⟨hk.1.2.1, ⟨hk.1.2.2.1, ⟨hk.1.2.2.2, hk.2⟩⟩⟩⟩)), kb_ BK504.out, kb_ BK505.out, kb_ BK523.out, GW523.out, GE523.out, NB504_523.out, NB523_504.out, NB505_523.out, NB523_505.out, bl_⟩)
         ·skip
          rintro gb523 w50 ⟨hS_, h0_, h1_, h2_, h3_, h4_, h5_, h6_, h7_, h8_, h9_, h10_, h11_, h12_⟩
          try dsimp only at h0_ h1_ h2_ h3_ h4_ h5_ h6_ h7_ h8_ h9_ h10_ h11_ h12_
          replace HO_27 := Aside0.mk h0_
          replace HO_505000 := Aside0.mk h1_
          replace HO_505001 := Aside0.mk h2_
          replace BK504 := Aside0.mk h3_
          replace BK505 := Aside0.mk h4_
          have BK523 := Aside0.mk h5_
          have GW523 := Aside0.mk h6_
          have GE523 := Aside0.mk h7_
          have NB504_523 := Aside0.mk h8_
          have NB523_504 := Aside0.mk h9_
          have NB505_523 := Aside0.mk h10_
          have NB523_505 := Aside0.mk h11_
          replace HB := Aside0.mk h12_
          clear h0_ h1_ h2_ h3_ h4_ h5_ h6_ h7_ h8_ h9_ h10_ h11_ h12_
          try dsimp only at hS_
          have hHeld := hS_
          refine norm_ np_ ?_
          refine tw_ 6 7 (some 60) (some 61) (h1 := fun K hK => ?_) (h2 := fun K hK => ?_)
          ·skip
           refine goes_ Try.func32 (by kernel_rfl) rfl #[.slice A0_0 l0_0.length c0_0, .agg #[.string a2, .int .i64 a1, .int .i64 x8_2]] (by rfl) rfl rfl nc_ ?_
           with_reducible refine (spec_l14Put.calls k2 _ _ l0_0 a2 a1 x8_2 t514 _ ?side1 ?side2 A44.out).mono ?_
           (case side1 => exact kc_ (Kd.V_reads' HO_505000.out).2.2)
           (case side2 => exact (Kd.V_reads' HO_505000.out).2.1)
           rintro e w51 ⟨v515, rfl, ho0, hb⟩
           refine ⟨_, rfl, ?_⟩
           replace HO_27 := Aside0.mk (Kd.N_elder' (by (with_reducible repeat (first | apply Kd.N_alloc | apply Kd.N_drewN | apply Kd.N_drew)); exact HO_27.out) (Kd.R_base ho0) hb)
           replace HO_505000 := Aside0.mk (Kd.V_elder' (by (with_reducible repeat (first | apply Kd.V_alloc | apply Kd.V_drewN | apply Kd.V_drew)); exact HO_505000.out) (Kd.R_base ho0) hb)
           replace HO_505001 := Aside0.mk (Kd.V_elder' (by (with_reducible repeat (first | apply Kd.V_alloc | apply Kd.V_drewN | apply Kd.V_drew)); exact HO_505001.out) (Kd.R_base ho0) hb)
           have HO516 := Aside0.mk (Kd.R_lower (Kd.R_newM (M := fun k_ => (w.heap.size ≤ k_)) ho0 bz_ (fun k_ h_ => h_)) bz_)
           replace BK504 := bb_ BK504 hb
           replace BK505 := bb_ BK505 hb
           replace BK523 := bb_ BK523 hb
           replace HB := Aside0.mk (below_step bl_ hb)
           clear hb ho0
           refine hK.out _ _ ⟨bc_ BK504.out 0, bc_ BK504.out 1⟩ (fun hHeld => ?_)
           clear hK K
           refine norm_ nn_ ?_
           exact norm_ nq_ (hJ6_12 (v515, gb523) _ ⟨hHeld, kp_ HO516.out (hok := fun _ hk => by first | exact hk | exact hk.2 | exact hk.1 | exact hk.2.2 | exact hk.1.2 | (simp only [ne_eq] at hk ⊢; simp only [hk, not_false_eq_true, and_self])), (by (with_reducible repeat (first | apply Kd.N_alloc | apply Kd.N_drewN | apply Kd.N_drew)); exact Kd.N_mono HO_27.out (fun _ hk => ⟨hk.1.1, ⟨hk.2, ⟨hk.1.2.1, ⟨hk.1.2.2.1, hk.1.2.2.2⟩⟩⟩⟩)), (by (with_reducible repeat (first | apply Kd.V_alloc | apply Kd.V_drewN | apply Kd.V_drew)); exact Kd.V_mono HO_505000.out (fun _ hk => ⟨hk.1.1, ⟨hk.2, ⟨hk.1.2.1, ⟨hk.1.2.2.1, ⟨hk.1.2.2.2.1, hk.1.2.2.2.2⟩⟩⟩⟩⟩)), (by (with_reducible repeat (first | apply Kd.V_alloc | apply Kd.V_drewN | apply Kd.V_drew)); exact Kd.V_mono HO_505001.out (fun _ hk => ⟨hk.1.1, ⟨hk.2, ⟨hk.1.2.1, ⟨hk.1.2.2.1, ⟨hk.1.2.2.2.1, hk.1.2.2.2.2⟩⟩⟩⟩⟩)), kb_ BK504.out, kb_ BK505.out, kb_ BK523.out, GW523.out, GE523.out, NB504_523.out, NB523_504.out, NB505_523.out, NB523_505.out, bl_⟩)
          ·skip
           refine Kd.R_lit_step k48 _ 48 rfl (N := 61) rfl (xs := ([] : List (S48))) (inner := []) (ok := fun _ => True) (okp := fun _ => True) gs_ ?hp (fun _ hk => hk) trivial (Below.refl _ _) (Nat.le_refl _) (by simp) ?_; (case hp => exact (Reps.none _ _))
           intro v518 w51 ho52 hb hg_ hnew_
           clear hg_ hnew_
           (first | rw [← Ny517.out] at ho52 | (simp only [Int.reduceToNat] at ho52; rw [← Ny517.out] at ho52))
           replace HO_27 := Aside0.mk (Kd.N_elder' (by (with_reducible repeat (first | apply Kd.N_alloc | apply Kd.N_drewN | apply Kd.N_drew)); exact HO_27.out) (Kd.R_base ho52) hb)
           replace HO_505000 := Aside0.mk (Kd.V_elder' (by (with_reducible repeat (first | apply Kd.V_alloc | apply Kd.V_drewN | apply Kd.V_drew)); exact HO_505000.out) (Kd.R_base ho52) hb)
           replace HO_505001 := Aside0.mk (Kd.V_elder' (by (with_reducible repeat (first | apply Kd.V_alloc | apply Kd.V_drewN | apply Kd.V_drew)); exact HO_505001.out) (Kd.R_base ho52) hb)
           have HO519 := Aside0.mk (Kd.R_lower (Kd.R_newM (M := fun k_ => (w.heap.size ≤ k_)) ho52 bz_ (fun k_ h_ => h_)) bz_)
           replace BK504 := bb_ BK504 hb
           replace BK505 := bb_ BK505 hb
           replace BK523 := bb_ BK523 hb
           replace HB := Aside0.mk (below_step bl_ hb)
           clear hb ho52
           refine hK.out _ _ ⟨bc_ BK504.out 0, bc_ BK504.out 1⟩ (fun hHeld => ?_)
           clear hK K
           refine norm_ nn_ ?_
           exact norm_ nq_ (hJ7_12 (v518, gb523) _ ⟨hHeld, kp_ HO519.out (hok := fun _ hk => by first | exact hk | exact hk.2 | exact hk.1 | exact hk.2.2 | exact hk.1.2 | (simp only [ne_eq] at hk ⊢; simp only [hk, not_false_eq_true, and_self])), (by (with_reducible repeat (first | apply Kd.N_alloc | apply Kd.N_drewN | apply Kd.N_drew)); exact Kd.N_mono HO_27.out (fun _ hk => ⟨hk.1.1, ⟨hk.2, ⟨hk.1.2.1, ⟨hk.1.2.2.1, hk.1.2.2.2⟩⟩⟩⟩)), (by (with_reducible repeat (first | apply Kd.V_alloc | apply Kd.V_drewN | apply Kd.V_drew)); exact Kd.V_mono HO_505000.out (fun _ hk => ⟨hk.1.1, ⟨hk.2, ⟨hk.1.2.1, ⟨hk.1.2.2.1, ⟨hk.1.2.2.2.1, hk.1.2.2.2.2⟩⟩⟩⟩⟩)), (by (with_reducible repeat (first | apply Kd.V_alloc | apply Kd.V_drewN | apply Kd.V_drew)); exact Kd.V_mono HO_505001.out (fun _ hk => ⟨hk.1.1, ⟨hk.2, ⟨hk.1.2.1, ⟨hk.1.2.2.1, ⟨hk.1.2.2.2.1, hk.1.2.2.2.2⟩⟩⟩⟩⟩)), kb_ BK504.out, kb_ BK505.out, kb_ BK523.out, GW523.out, GE523.out, NB504_523.out, NB523_504.out, NB505_523.out, NB523_505.out, bl_⟩)
        ·skip
         rintro v518 w51 ⟨hS_, h0_, h1_, h2_, h3_, h4_, h5_, h6_⟩
         try dsimp only at h0_ h1_ h2_ h3_ h4_ h5_ h6_
         have HO519 := Aside0.mk h0_
         replace HO_27 := Aside0.mk h1_
         replace HO_505000 := Aside0.mk h2_
         replace HO_505001 := Aside0.mk h3_
         replace BK504 := Aside0.mk h4_
         replace BK505 := Aside0.mk h5_
         replace HB := Aside0.mk h6_
         clear h0_ h1_ h2_ h3_ h4_ h5_ h6_
         try dsimp only at hS_
         have hHeld := hS_
         refine norm_ np_ ?_
         refine tw_ 6 12 (some 60) (some 13) (h1 := fun K hK => ?_) (h2 := fun K hK => ?_)
         ·skip
          refine goes_ Try.func32 (by kernel_rfl) rfl #[.slice A0_0 l0_0.length c0_0, .agg #[.string a2, .int .i64 a1, .int .i64 x8_2]] (by rfl) rfl rfl nc_ ?_
          with_reducible refine (spec_l14Put.calls k2 _ _ l0_0 a2 a1 x8_2 t514 _ ?side1 ?side2 A44.out).mono ?_
          (case side1 => exact kc_ (Kd.V_reads' HO_505000.out).2.2)
          (case side2 => exact (Kd.V_reads' HO_505000.out).2.1)
          rintro e w52 ⟨v515, rfl, ho0, hb⟩
          refine ⟨_, rfl, ?_⟩
          replace HO_27 := Aside0.mk (Kd.N_elder' (by (with_reducible repeat (first | apply Kd.N_alloc | apply Kd.N_drewN | apply Kd.N_drew)); exact HO_27.out) (Kd.R_base ho0) hb)
          replace HO_505000 := Aside0.mk (Kd.V_elder' (by (with_reducible repeat (first | apply Kd.V_alloc | apply Kd.V_drewN | apply Kd.V_drew)); exact HO_505000.out) (Kd.R_base ho0) hb)
          replace HO_505001 := Aside0.mk (Kd.V_elder' (by (with_reducible repeat (first | apply Kd.V_alloc | apply Kd.V_drewN | apply Kd.V_drew)); exact HO_505001.out) (Kd.R_base ho0) hb)
          have HO516 := Aside0.mk (Kd.R_lower (rn_ (Kd.R_newM (M := fun k_ => (w.heap.size ≤ k_)) ho0 bz_ (fun k_ h_ => h_)) HO519.out) bz_)
          replace HO519 := Aside0.mk (Kd.R_elder' (kr_ HO519.out) (Kd.R_base ho0) hb)
          replace BK504 := bb_ BK504 hb
          replace BK505 := bb_ BK505 hb
          replace HB := Aside0.mk (below_step bl_ hb)
          clear hb ho0
          refine hK.out _ _ ⟨bc_ BK504.out 0, bc_ BK504.out 1⟩ (fun hHeld => ?_)
          clear hK K
          refine norm_ nn_ ?_
          exact norm_ nq_ (hJ6_7 (v515, v518) _ ⟨hHeld, kp_ HO516.out, kr_ HO519.out, (by (with_reducible repeat (first | apply Kd.N_alloc | apply Kd.N_drewN | apply Kd.N_drew)); exact Kd.N_mono HO_27.out (fun _ hk => ⟨hk.1.1, ⟨hk.2, ⟨hk.1.2.1, ⟨hk.1.2.2.1, hk.1.2.2.2⟩⟩⟩⟩)), (by (with_reducible repeat (first | apply Kd.V_alloc | apply Kd.V_drewN | apply Kd.V_drew)); exact Kd.V_mono HO_505000.out (fun _ hk => ⟨hk.1.1, ⟨hk.2, ⟨hk.1.2.1, ⟨hk.1.2.2.1, ⟨hk.1.2.2.2.1, hk.1.2.2.2.2⟩⟩⟩⟩⟩)), (by (with_reducible repeat (first | apply Kd.V_alloc | apply Kd.V_drewN | apply Kd.V_drew)); exact Kd.V_mono HO_505001.out (fun _ hk => ⟨hk.1.1, ⟨hk.2, ⟨hk.1.2.1, ⟨hk.1.2.2.1, ⟨hk.1.2.2.2.1, hk.1.2.2.2.2⟩⟩⟩⟩⟩)), kb_ BK504.out, kb_ BK505.out, bl_⟩)
         ·skip
          refine box_step rfl (N := 13) rfl (cs := #[.slice none 0 0, .slice none 0 0]) (t := 29) gs_ ?_
          intro gb523 hg w52 hbox hb
          replace HO_27 := Aside0.mk (Kd.N_below (Kd.N_elderB (by (with_reducible repeat (first | apply Kd.N_alloc | apply Kd.N_drewN | apply Kd.N_drew)); exact HO_27.out) gb523 (Nat.le_of_eq hg.symm)) hb)
          replace HO_505000 := Aside0.mk (Kd.V_below (Kd.V_elderB (by (with_reducible repeat (first | apply Kd.V_alloc | apply Kd.V_drewN | apply Kd.V_drew)); exact HO_505000.out) gb523 (Nat.le_of_eq hg.symm)) hb)
          replace HO_505001 := Aside0.mk (Kd.V_below (Kd.V_elderB (by (with_reducible repeat (first | apply Kd.V_alloc | apply Kd.V_drewN | apply Kd.V_drew)); exact HO_505001.out) gb523 (Nat.le_of_eq hg.symm)) hb)
          replace HO519 := rb_ HO519 hb
          have BK523 := Aside0.mk (hbox)
          have GW523 := Aside0.mk ((by rw [hg]; exact bz_ : w.heap.size ≤ gb523))
          have GE523 := GW523
          replace HB := Aside0.mk (below_step bl_ hb)
          have NB504_523 := nl_ hg BK504
          have NB523_504 := nm_ hg BK504
          replace BK504 := bb_ BK504 hb
          have NB505_523 := nl_ hg BK505
          have NB523_505 := nm_ hg BK505
          replace BK505 := bb_ BK505 hb
          clear hb hbox hg
          refine hK.out _ _ ⟨bc_ BK504.out 0, bc_ BK504.out 1⟩ (fun hHeld => ?_)
          clear hK K
          refine norm_ nn_ ?_
          exact norm_ nq_ (hJ7_12 (v518, gb523) _ ⟨hHeld, kr_ HO519.out, (by (with_reducible repeat (first | apply Kd.N_alloc | apply Kd.N_drewN | apply Kd.N_drew)); exact Kd.N_mono HO_27.out (fun _ hk => ⟨hk.1.1, ⟨hk.1.2.1, ⟨hk.1.2.2.1, ⟨hk.1.2.2.2, hk.2⟩⟩⟩⟩)), (by (with_reducible repeat (first | apply Kd.V_alloc | apply Kd.V_drewN | apply Kd.V_drew)); exact Kd.V_mono HO_505000.out (fun _ hk => ⟨hk.1.1, ⟨hk.1.2.1, ⟨hk.1.2.2.1, ⟨hk.1.2.2.2.1, ⟨hk.1.2.2.2.2, hk.2⟩⟩⟩⟩⟩)), (by (with_reducible repeat (first | apply Kd.V_alloc | apply Kd.V_drewN | apply Kd.V_drew)); exact Kd.V_mono HO_505001.out (fun _ hk => ⟨hk.1.1, ⟨hk.1.2.1, ⟨hk.1.2.2.1, ⟨hk.1.2.2.2.1, ⟨hk.1.2.2.2.2, hk.2⟩⟩⟩⟩⟩)), kb_ BK504.out, kb_ BK505.out, kb_ BK523.out, GW523.out, GE523.out, NB504_523.out, NB523_504.out, NB505_523.out, NB523_505.out, bl_⟩)
       ·skip
        rintro v515 w50 ⟨hS_, h0_, h1_, h2_, h3_, h4_, h5_, h6_⟩
        try dsimp only at h0_ h1_ h2_ h3_ h4_ h5_ h6_
        have HO516 := Aside0.mk h0_
        replace HO_27 := Aside0.mk h1_
        replace HO_505000 := Aside0.mk h2_
        replace HO_505001 := Aside0.mk h3_
        replace BK504 := Aside0.mk h4_
        replace BK505 := Aside0.mk h5_
        replace HB := Aside0.mk h6_
        clear h0_ h1_ h2_ h3_ h4_ h5_ h6_
        try dsimp only at hS_
        have hHeld := hS_
        refine norm_ np_ ?_
        refine tw_ 7 12 (some 61) (some 13) (h1 := fun K hK => ?_) (h2 := fun K hK => ?_)
        ·skip
         refine Kd.R_lit_step k48 _ 48 rfl (N := 61) rfl (xs := ([] : List (S48))) (inner := []) (ok := fun _ => True) (okp := fun _ => True) gs_ ?hp (fun _ hk => hk) trivial (Below.refl _ _) (Nat.le_refl _) (by simp) ?_; (case hp => exact (Reps.none _ _))
         intro v518 w51 ho52 hb hg_ hnew_
         clear hg_ hnew_
         (first | rw [← Ny517.out] at ho52 | (simp only [Int.reduceToNat] at ho52; rw [← Ny517.out] at ho52))
         replace HO_27 := Aside0.mk (Kd.N_elder' (by (with_reducible repeat (first | apply Kd.N_alloc | apply Kd.N_drewN | apply Kd.N_drew)); exact HO_27.out) (Kd.R_base ho52) hb)
         replace HO_505000 := Aside0.mk (Kd.V_elder' (by (with_reducible repeat (first | apply Kd.V_alloc | apply Kd.V_drewN | apply Kd.V_drew)); exact HO_505000.out) (Kd.R_base ho52) hb)
         replace HO_505001 := Aside0.mk (Kd.V_elder' (by (with_reducible repeat (first | apply Kd.V_alloc | apply Kd.V_drewN | apply Kd.V_drew)); exact HO_505001.out) (Kd.R_base ho52) hb)
         have HO519 := Aside0.mk (Kd.R_lower (rn_ (Kd.R_newM (M := fun k_ => (w.heap.size ≤ k_)) ho52 bz_ (fun k_ h_ => h_)) HO516.out) bz_)
         replace HO516 := Aside0.mk (Kd.R_elder' (kr_ HO516.out) (Kd.R_base ho52) hb)
         replace BK504 := bb_ BK504 hb
         replace BK505 := bb_ BK505 hb
         replace HB := Aside0.mk (below_step bl_ hb)
         clear hb ho52
         refine hK.out _ _ ⟨bc_ BK504.out 0, bc_ BK504.out 1⟩ (fun hHeld => ?_)
         clear hK K
         refine norm_ nn_ ?_
         exact norm_ nq_ (hJ6_7 (v515, v518) _ ⟨hHeld, kr_ HO516.out, kp_ HO519.out, (by (with_reducible repeat (first | apply Kd.N_alloc | apply Kd.N_drewN | apply Kd.N_drew)); exact Kd.N_mono HO_27.out (fun _ hk => ⟨hk.1.1, ⟨hk.1.2.1, ⟨hk.2, ⟨hk.1.2.2.1, hk.1.2.2.2⟩⟩⟩⟩)), (by (with_reducible repeat (first | apply Kd.V_alloc | apply Kd.V_drewN | apply Kd.V_drew)); exact Kd.V_mono HO_505000.out (fun _ hk => ⟨hk.1.1, ⟨hk.1.2.1, ⟨hk.2, ⟨hk.1.2.2.1, ⟨hk.1.2.2.2.1, hk.1.2.2.2.2⟩⟩⟩⟩⟩)), (by (with_reducible repeat (first | apply Kd.V_alloc | apply Kd.V_drewN | apply Kd.V_drew)); exact Kd.V_mono HO_505001.out (fun _ hk => ⟨hk.1.1, ⟨hk.1.2.1, ⟨hk.2, ⟨hk.1.2.2.1, ⟨hk.1.2.2.2.1, hk.1.2.2.2.2⟩⟩⟩⟩⟩)), kb_ BK504.out, kb_ BK505.out, bl_⟩)
        ·skip
         refine box_step rfl (N := 13) rfl (cs := #[.slice none 0 0, .slice none 0 0]) (t := 29) gs_ ?_
         intro gb523 hg w51 hbox hb
         replace HO_27 := Aside0.mk (Kd.N_below (Kd.N_elderB (by (with_reducible repeat (first | apply Kd.N_alloc | apply Kd.N_drewN | apply Kd.N_drew)); exact HO_27.out) gb523 (Nat.le_of_eq hg.symm)) hb)
         replace HO_505000 := Aside0.mk (Kd.V_below (Kd.V_elderB (by (with_reducible repeat (first | apply Kd.V_alloc | apply Kd.V_drewN | apply Kd.V_drew)); exact HO_505000.out) gb523 (Nat.le_of_eq hg.symm)) hb)
         replace HO_505001 := Aside0.mk (Kd.V_below (Kd.V_elderB (by (with_reducible repeat (first | apply Kd.V_alloc | apply Kd.V_drewN | apply Kd.V_drew)); exact HO_505001.out) gb523 (Nat.le_of_eq hg.symm)) hb)
         replace HO516 := rb_ HO516 hb
         have BK523 := Aside0.mk (hbox)
         have GW523 := Aside0.mk ((by rw [hg]; exact bz_ : w.heap.size ≤ gb523))
         have GE523 := GW523
         replace HB := Aside0.mk (below_step bl_ hb)
         have NB504_523 := nl_ hg BK504
         have NB523_504 := nm_ hg BK504
         replace BK504 := bb_ BK504 hb
         have NB505_523 := nl_ hg BK505
         have NB523_505 := nm_ hg BK505
         replace BK505 := bb_ BK505 hb
         clear hb hbox hg
         refine hK.out _ _ ⟨bc_ BK504.out 0, bc_ BK504.out 1⟩ (fun hHeld => ?_)
         clear hK K
         refine norm_ nn_ ?_
         exact norm_ nq_ (hJ6_12 (v515, gb523) _ ⟨hHeld, kr_ HO516.out, (by (with_reducible repeat (first | apply Kd.N_alloc | apply Kd.N_drewN | apply Kd.N_drew)); exact Kd.N_mono HO_27.out (fun _ hk => ⟨hk.1.1, ⟨hk.1.2.1, ⟨hk.1.2.2.1, ⟨hk.1.2.2.2, hk.2⟩⟩⟩⟩)), (by (with_reducible repeat (first | apply Kd.V_alloc | apply Kd.V_drewN | apply Kd.V_drew)); exact Kd.V_mono HO_505000.out (fun _ hk => ⟨hk.1.1, ⟨hk.1.2.1, ⟨hk.1.2.2.1, ⟨hk.1.2.2.2.1, ⟨hk.1.2.2.2.2, hk.2⟩⟩⟩⟩⟩)), (by (with_reducible repeat (first | apply Kd.V_alloc | apply Kd.V_drewN | apply Kd.V_drew)); exact Kd.V_mono HO_505001.out (fun _ hk => ⟨hk.1.1, ⟨hk.1.2.1, ⟨hk.1.2.2.1, ⟨hk.1.2.2.2.1, ⟨hk.1.2.2.2.2, hk.2⟩⟩⟩⟩⟩)), kb_ BK504.out, kb_ BK505.out, kb_ BK523.out, GW523.out, GE523.out, NB504_523.out, NB523_504.out, NB505_523.out, NB523_505.out, bl_⟩)
      ·skip
       rintro ⟨v518, gb523⟩ w52 ⟨hS_, h0_, h1_, h2_, h3_, h4_, h5_, h6_, h7_, h8_, h9_, h10_, h11_, h12_, h13_⟩
       dsimp only at h0_ h1_ h2_ h3_ h4_ h5_ h6_ h7_ h8_ h9_ h10_ h11_ h12_ h13_
       have HO519 := Aside0.mk h0_
       replace HO_27 := Aside0.mk h1_
       replace HO_505000 := Aside0.mk h2_
       replace HO_505001 := Aside0.mk h3_
       replace BK504 := Aside0.mk h4_
       replace BK505 := Aside0.mk h5_
       have BK523 := Aside0.mk h6_
       have GW523 := Aside0.mk h7_
       have GE523 := Aside0.mk h8_
       have NB504_523 := Aside0.mk h9_
       have NB523_504 := Aside0.mk h10_
       have NB505_523 := Aside0.mk h11_
       have NB523_505 := Aside0.mk h12_
       replace HB := Aside0.mk h13_
       clear h0_ h1_ h2_ h3_ h4_ h5_ h6_ h7_ h8_ h9_ h10_ h11_ h12_ h13_
       try dsimp only at hS_
       have hHeld := hS_
       refine norm_ np_ ?_
       refine on_ 6 (some 60) (h := fun K hK => ?_)
       refine goes_ Try.func32 (by kernel_rfl) rfl #[.slice A0_0 l0_0.length c0_0, .agg #[.string a2, .int .i64 a1, .int .i64 x8_2]] (by rfl) rfl rfl nc_ ?_
       with_reducible refine (spec_l14Put.calls k2 _ _ l0_0 a2 a1 x8_2 t514 _ ?side1 ?side2 A44.out).mono ?_
       (case side1 => exact kc_ (Kd.V_reads' HO_505000.out).2.2)
       (case side2 => exact (Kd.V_reads' HO_505000.out).2.1)
       rintro e w53 ⟨v515, rfl, ho0, hb⟩
       refine ⟨_, rfl, ?_⟩
       replace HO_27 := Aside0.mk (Kd.N_elder' (by (with_reducible repeat (first | apply Kd.N_alloc | apply Kd.N_drewN | apply Kd.N_drew)); exact HO_27.out) (Kd.R_base ho0) hb)
       replace HO_505000 := Aside0.mk (Kd.V_elder' (by (with_reducible repeat (first | apply Kd.V_alloc | apply Kd.V_drewN | apply Kd.V_drew)); exact HO_505000.out) (Kd.R_base ho0) hb)
       replace HO_505001 := Aside0.mk (Kd.V_elder' (by (with_reducible repeat (first | apply Kd.V_alloc | apply Kd.V_drewN | apply Kd.V_drew)); exact HO_505001.out) (Kd.R_base ho0) hb)
       have HO516 := Aside0.mk (Kd.R_lower (rn_ (Kd.R_newM (M := fun k_ => (w.heap.size ≤ k_)) ho0 bz_ (fun k_ h_ => h_)) HO519.out) bz_)
       replace HO519 := Aside0.mk (Kd.R_elder' (kr_ HO519.out) (Kd.R_base ho0) hb)
       replace BK504 := bb_ BK504 hb
       replace BK505 := bb_ BK505 hb
       replace BK523 := bb_ BK523 hb
       replace HB := Aside0.mk (below_step bl_ hb)
       clear hb ho0
       refine hK.out _ _ ⟨bc_ BK504.out 0, bc_ BK504.out 1⟩ (fun hHeld => ?_)
       clear hK K
       refine norm_ nn_ ?_
       exact norm_ nq_ (hJ6_7_12 (v515, v518, gb523) _ ⟨hHeld, kp_ HO516.out, kr_ HO519.out, (by (with_reducible repeat (first | apply Kd.N_alloc | apply Kd.N_drewN | apply Kd.N_drew)); exact Kd.N_mono HO_27.out (fun _ hk => ⟨hk.1.1, ⟨hk.2, ⟨hk.1.2.1, ⟨hk.1.2.2.1, ⟨hk.1.2.2.2.1, hk.1.2.2.2.2⟩⟩⟩⟩⟩)), (by (with_reducible repeat (first | apply Kd.V_alloc | apply Kd.V_drewN | apply Kd.V_drew)); exact Kd.V_mono HO_505000.out (fun _ hk => ⟨hk.1.1, ⟨hk.2, ⟨hk.1.2.1, ⟨hk.1.2.2.1, ⟨hk.1.2.2.2.1, ⟨hk.1.2.2.2.2.1, hk.1.2.2.2.2.2⟩⟩⟩⟩⟩⟩)), (by (with_reducible repeat (first | apply Kd.V_alloc | apply Kd.V_drewN | apply Kd.V_drew)); exact Kd.V_mono HO_505001.out (fun _ hk => ⟨hk.1.1, ⟨hk.2, ⟨hk.1.2.1, ⟨hk.1.2.2.1, ⟨hk.1.2.2.2.1, ⟨hk.1.2.2.2.2.1, hk.1.2.2.2.2.2⟩⟩⟩⟩⟩⟩)), kb_ BK504.out, kb_ BK505.out, kb_ BK523.out, GW523.out, GE523.out, NB504_523.out, NB523_504.out, NB505_523.out, NB523_505.out, bl_⟩)
     ·skip
      rintro ⟨v515, gb523⟩ w51 ⟨hS_, h0_, h1_, h2_, h3_, h4_, h5_, h6_, h7_, h8_, h9_, h10_, h11_, h12_, h13_⟩
      dsimp only at h0_ h1_ h2_ h3_ h4_ h5_ h6_ h7_ h8_ h9_ h10_ h11_ h12_ h13_
      have HO516 := Aside0.mk h0_
      replace HO_27 := Aside0.mk h1_
      replace HO_505000 := Aside0.mk h2_
      replace HO_505001 := Aside0.mk h3_
      replace BK504 := Aside0.mk h4_
      replace BK505 := Aside0.mk h5_
      have BK523 := Aside0.mk h6_
      have GW523 := Aside0.mk h7_
      have GE523 := Aside0.mk h8_
      have NB504_523 := Aside0.mk h9_
      have NB523_504 := Aside0.mk h10_
      have NB505_523 := Aside0.mk h11_
      have NB523_505 := Aside0.mk h12_
      replace HB := Aside0.mk h13_
      clear h0_ h1_ h2_ h3_ h4_ h5_ h6_ h7_ h8_ h9_ h10_ h11_ h12_ h13_
      try dsimp only at hS_
      have hHeld := hS_
      refine norm_ np_ ?_
      refine on_ 7 (some 61) (h := fun K hK => ?_)
      refine Kd.R_lit_step k48 _ 48 rfl (N := 61) rfl (xs := ([] : List (S48))) (inner := []) (ok := fun _ => True) (okp := fun _ => True) gs_ ?hp (fun _ hk => hk) trivial (Below.refl _ _) (Nat.le_refl _) (by simp) ?_; (case hp => exact (Reps.none _ _))
      intro v518 w52 ho53 hb hg_ hnew_
      clear hg_ hnew_
      (first | rw [← Ny517.out] at ho53 | (simp only [Int.reduceToNat] at ho53; rw [← Ny517.out] at ho53))
      replace HO_27 := Aside0.mk (Kd.N_elder' (by (with_reducible repeat (first | apply Kd.N_alloc | apply Kd.N_drewN | apply Kd.N_drew)); exact HO_27.out) (Kd.R_base ho53) hb)
      replace HO_505000 := Aside0.mk (Kd.V_elder' (by (with_reducible repeat (first | apply Kd.V_alloc | apply Kd.V_drewN | apply Kd.V_drew)); exact HO_505000.out) (Kd.R_base ho53) hb)
      replace HO_505001 := Aside0.mk (Kd.V_elder' (by (with_reducible repeat (first | apply Kd.V_alloc | apply Kd.V_drewN | apply Kd.V_drew)); exact HO_505001.out) (Kd.R_base ho53) hb)
      have HO519 := Aside0.mk (Kd.R_lower (rn_ (Kd.R_newM (M := fun k_ => (w.heap.size ≤ k_)) ho53 bz_ (fun k_ h_ => h_)) HO516.out) bz_)
      replace HO516 := Aside0.mk (Kd.R_elder' (kr_ HO516.out) (Kd.R_base ho53) hb)
      replace BK504 := bb_ BK504 hb
      replace BK505 := bb_ BK505 hb
      replace BK523 := bb_ BK523 hb
      replace HB := Aside0.mk (below_step bl_ hb)
      clear hb ho53
      refine hK.out _ _ ⟨bc_ BK504.out 0, bc_ BK504.out 1⟩ (fun hHeld => ?_)
      clear hK K
      refine norm_ nn_ ?_
      exact norm_ nq_ (hJ6_7_12 (v515, v518, gb523) _ ⟨hHeld, kr_ HO516.out, kp_ HO519.out, (by (with_reducible repeat (first | apply Kd.N_alloc | apply Kd.N_drewN | apply Kd.N_drew)); exact Kd.N_mono HO_27.out (fun _ hk => ⟨hk.1.1, ⟨hk.1.2.1, ⟨hk.2, ⟨hk.1.2.2.1, ⟨hk.1.2.2.2.1, hk.1.2.2.2.2⟩⟩⟩⟩⟩)), (by (with_reducible repeat (first | apply Kd.V_alloc | apply Kd.V_drewN | apply Kd.V_drew)); exact Kd.V_mono HO_505000.out (fun _ hk => ⟨hk.1.1, ⟨hk.1.2.1, ⟨hk.2, ⟨hk.1.2.2.1, ⟨hk.1.2.2.2.1, ⟨hk.1.2.2.2.2.1, hk.1.2.2.2.2.2⟩⟩⟩⟩⟩⟩)), (by (with_reducible repeat (first | apply Kd.V_alloc | apply Kd.V_drewN | apply Kd.V_drew)); exact Kd.V_mono HO_505001.out (fun _ hk => ⟨hk.1.1, ⟨hk.1.2.1, ⟨hk.2, ⟨hk.1.2.2.1, ⟨hk.1.2.2.2.1, ⟨hk.1.2.2.2.2.1, hk.1.2.2.2.2.2⟩⟩⟩⟩⟩⟩)), kb_ BK504.out, kb_ BK505.out, kb_ BK523.out, GW523.out, GE523.out, NB504_523.out, NB523_504.out, NB505_523.out, NB523_505.out, bl_⟩)
    ·skip
     rintro ⟨v515, v518⟩ w52 ⟨hS_, h0_, h1_, h2_, h3_, h4_, h5_, h6_, h7_⟩
     dsimp only at h0_ h1_ h2_ h3_ h4_ h5_ h6_ h7_
     have HO516 := Aside0.mk h0_
     have HO519 := Aside0.mk h1_
     replace HO_27 := Aside0.mk h2_
     replace HO_505000 := Aside0.mk h3_
     replace HO_505001 := Aside0.mk h4_
     replace BK504 := Aside0.mk h5_
     replace BK505 := Aside0.mk h6_
     replace HB := Aside0.mk h7_
     clear h0_ h1_ h2_ h3_ h4_ h5_ h6_ h7_
     try dsimp only at hS_
     have hHeld := hS_
     refine norm_ np_ ?_
     refine tw_ 10 12 (some 64) (some 13) (h1 := fun K hK => ?_) (h2 := fun K hK => ?_)
     ·skip
      refine Kd.R_append_rows_step k48 (w0 := w) w.heap.size (by rfl) (.tmp 61) (.tmp 63) 27 48 (.agg #[(.string ⟨#[]⟩), (.int .i64 0), (.int .i64 0)]) 32 rfl Try.underlying27 info48 rfl (by decide) (by omega) v518 y517 l0_1 _ _ _ (fun k_ => (w.heap.size ≤ k_) ∧ some k_ ≠ (v515 : Value).ownBlock) (fun _ => False) rfl rfl ?aO ?aR (fun _ _ h => h) (fun _ h => h.elim) ?aF ?aB ?aS ?aL ?_
      (case aR => exact kc_ (Kd.V_reads' HO_505001.out).2.2)
      (case aB => exact bl_)
      (case aF => exact (fun k_ hk => ⟨(Nat.le_trans bz_ hk), Kd.fresh' (Kd.R_lt (kr_ HO516.out)) k_ hk⟩))
      (case aO => exact (kr_ HO519.out))
      (case aS => exact bz_)
      (case aL => have := LMc45.out; omega)
      intro v521 w53 ho hb hg hat
      rw [← Ny520.out] at ho
      replace HO_27 := Aside0.mk (Kd.N_afterv (ok := (fun k_ => ((P0_0_ k_ ∨ P0_1_ k_) ∨ w.heap.size ≤ k_) ∧ some k_ ≠ (v515 : Value).ownBlock ∧ k_ ≠ gb504 ∧ k_ ≠ gb505)) (by (with_reducible repeat (first | apply Kd.N_alloc | apply Kd.N_drewN | apply Kd.N_drew)); exact Kd.N_mono HO_27.out (fun _ hk => ⟨⟨hk.1, ⟨hk.2.1, ⟨hk.2.2.2.1, hk.2.2.2.2⟩⟩⟩, hk.2.2.1⟩)) hg hat)
      replace HO_505000 := Aside0.mk (Kd.V_afterv (ok := (fun k_ => ((P0_0_ k_ ∨ P0_1_ k_) ∨ w.heap.size ≤ k_) ∧ some k_ ≠ (.slice Ao23 y508.length co23 : Value).ownBlock ∧ some k_ ≠ (v515 : Value).ownBlock ∧ k_ ≠ gb504 ∧ k_ ≠ gb505)) (by (with_reducible repeat (first | apply Kd.V_alloc | apply Kd.V_drewN | apply Kd.V_drew)); exact Kd.V_mono HO_505000.out (fun _ hk => ⟨⟨hk.1, ⟨hk.2.2.2.1, ⟨hk.2.1, ⟨hk.2.2.2.2.1, hk.2.2.2.2.2⟩⟩⟩⟩, hk.2.2.1⟩)) hg hat)
      replace HO_505001 := Aside0.mk (Kd.V_afterv (ok := (fun k_ => ((P0_0_ k_ ∨ P0_1_ k_) ∨ w.heap.size ≤ k_) ∧ some k_ ≠ (.slice Ao23 y508.length co23 : Value).ownBlock ∧ some k_ ≠ (v515 : Value).ownBlock ∧ k_ ≠ gb504 ∧ k_ ≠ gb505)) (by (with_reducible repeat (first | apply Kd.V_alloc | apply Kd.V_drewN | apply Kd.V_drew)); exact Kd.V_mono HO_505001.out (fun _ hk => ⟨⟨hk.1, ⟨hk.2.2.2.1, ⟨hk.2.1, ⟨hk.2.2.2.2.1, hk.2.2.2.2.2⟩⟩⟩⟩, hk.2.2.1⟩)) hg hat)
      replace BK504 := bgr_ BK504 hg HO519 BK504
      replace BK505 := bgr_ BK505 hg HO519 BK505
      replace HO516 := Aside0.mk (Kd.R_after (ok := (fun k_ => (w.heap.size ≤ k_))) (kr_ HO516.out) hg hat)
      replace HB := Aside0.mk (hb)
      have HO522 := Aside0.mk (ho)
      clear HO519 ho hb hg hat
      obtain ⟨Ao54, co54, eo54⟩ := Kd.R_slice HO522.out
      (first | subst eo54 | (injection eo54 with f1_ f2_ f3_; have f4_ := f1_.symm; have f5_ := f3_.symm; clear f1_ f2_ f3_; subst f4_; subst f5_))
      obtain ⟨Ao55, co55, eo55⟩ := Kd.R_slice HO516.out
      (first | subst eo55 | (injection eo55 with f1_ f2_ f3_; have f4_ := f1_.symm; have f5_ := f3_.symm; clear f1_ f2_ f3_; subst f4_; subst f5_))
      refine hK.out _ _ ⟨bc_ BK504.out 0, bc_ BK504.out 1⟩ (fun hHeld => ?_)
      clear hK K
      refine norm_ nn_ ?_
      refine pu_ 11 (some 65) (h := ?_)
      exact norm_ nq_ (hJ6_7_10 (.slice Ao55 t514.length co55, v518, .slice Ao54 y520.length co54) _ ⟨hHeld, kr_ HO516.out, kr_ HO522.out, (by (with_reducible repeat (first | apply Kd.N_alloc | apply Kd.N_drewN | apply Kd.N_drew)); exact Kd.N_mono HO_27.out (fun _ hk => ⟨hk.1.1, ⟨hk.1.2.1, ⟨hk.2, ⟨hk.1.2.2.1, hk.1.2.2.2⟩⟩⟩⟩)), (by (with_reducible repeat (first | apply Kd.V_alloc | apply Kd.V_drewN | apply Kd.V_drew)); exact Kd.V_mono HO_505000.out (fun _ hk => ⟨hk.1.1, ⟨hk.1.2.2.1, ⟨hk.2, ⟨hk.1.2.1, ⟨hk.1.2.2.2.1, hk.1.2.2.2.2⟩⟩⟩⟩⟩)), (by (with_reducible repeat (first | apply Kd.V_alloc | apply Kd.V_drewN | apply Kd.V_drew)); exact Kd.V_mono HO_505001.out (fun _ hk => ⟨hk.1.1, ⟨hk.1.2.2.1, ⟨hk.2, ⟨hk.1.2.1, ⟨hk.1.2.2.2.1, hk.1.2.2.2.2⟩⟩⟩⟩⟩)), kb_ BK504.out, kb_ BK505.out, bl_⟩)
     ·skip
      refine box_step rfl (N := 13) rfl (cs := #[.slice none 0 0, .slice none 0 0]) (t := 29) gs_ ?_
      intro gb523 hg w53 hbox hb
      replace HO_27 := Aside0.mk (Kd.N_below (Kd.N_elderB (by (with_reducible repeat (first | apply Kd.N_alloc | apply Kd.N_drewN | apply Kd.N_drew)); exact HO_27.out) gb523 (Nat.le_of_eq hg.symm)) hb)
      replace HO_505000 := Aside0.mk (Kd.V_below (Kd.V_elderB (by (with_reducible repeat (first | apply Kd.V_alloc | apply Kd.V_drewN | apply Kd.V_drew)); exact HO_505000.out) gb523 (Nat.le_of_eq hg.symm)) hb)
      replace HO_505001 := Aside0.mk (Kd.V_below (Kd.V_elderB (by (with_reducible repeat (first | apply Kd.V_alloc | apply Kd.V_drewN | apply Kd.V_drew)); exact HO_505001.out) gb523 (Nat.le_of_eq hg.symm)) hb)
      replace HO516 := rb_ HO516 hb
      replace HO519 := rb_ HO519 hb
      have BK523 := Aside0.mk (hbox)
      have GW523 := Aside0.mk ((by rw [hg]; exact bz_ : w.heap.size ≤ gb523))
      have GE523 := GW523
      replace HB := Aside0.mk (below_step bl_ hb)
      have NB504_523 := nl_ hg BK504
      have NB523_504 := nm_ hg BK504
      replace BK504 := bb_ BK504 hb
      have NB505_523 := nl_ hg BK505
      have NB523_505 := nm_ hg BK505
      replace BK505 := bb_ BK505 hb
      clear hb hbox hg
      refine hK.out _ _ ⟨bc_ BK504.out 0, bc_ BK504.out 1⟩ (fun hHeld => ?_)
      clear hK K
      refine norm_ nn_ ?_
      exact norm_ nq_ (hJ6_7_12 (v515, v518, gb523) _ ⟨hHeld, kr_ HO516.out, kr_ HO519.out, (by (with_reducible repeat (first | apply Kd.N_alloc | apply Kd.N_drewN | apply Kd.N_drew)); exact Kd.N_mono HO_27.out (fun _ hk => ⟨hk.1.1, ⟨hk.1.2.1, ⟨hk.1.2.2.1, ⟨hk.1.2.2.2.1, ⟨hk.1.2.2.2.2, hk.2⟩⟩⟩⟩⟩)), (by (with_reducible repeat (first | apply Kd.V_alloc | apply Kd.V_drewN | apply Kd.V_drew)); exact Kd.V_mono HO_505000.out (fun _ hk => ⟨hk.1.1, ⟨hk.1.2.1, ⟨hk.1.2.2.1, ⟨hk.1.2.2.2.1, ⟨hk.1.2.2.2.2.1, ⟨hk.1.2.2.2.2.2, hk.2⟩⟩⟩⟩⟩⟩)), (by (with_reducible repeat (first | apply Kd.V_alloc | apply Kd.V_drewN | apply Kd.V_drew)); exact Kd.V_mono HO_505001.out (fun _ hk => ⟨hk.1.1, ⟨hk.1.2.1, ⟨hk.1.2.2.1, ⟨hk.1.2.2.2.1, ⟨hk.1.2.2.2.2.1, ⟨hk.1.2.2.2.2.2, hk.2⟩⟩⟩⟩⟩⟩)), kb_ BK504.out, kb_ BK505.out, kb_ BK523.out, GW523.out, GE523.out, NB504_523.out, NB523_504.out, NB505_523.out, NB523_505.out, bl_⟩)
   ·skip
    rintro ⟨v515, v518, gb523⟩ w53 ⟨hS_, h0_, h1_, h2_, h3_, h4_, h5_, h6_, h7_, h8_, h9_, h10_, h11_, h12_, h13_, h14_⟩
    dsimp only at h0_ h1_ h2_ h3_ h4_ h5_ h6_ h7_ h8_ h9_ h10_ h11_ h12_ h13_ h14_
    have HO516 := Aside0.mk h0_
    have HO519 := Aside0.mk h1_
    replace HO_27 := Aside0.mk h2_
    replace HO_505000 := Aside0.mk h3_
    replace HO_505001 := Aside0.mk h4_
    replace BK504 := Aside0.mk h5_
    replace BK505 := Aside0.mk h6_
    have BK523 := Aside0.mk h7_
    have GW523 := Aside0.mk h8_
    have GE523 := Aside0.mk h9_
    have NB504_523 := Aside0.mk h10_
    have NB523_504 := Aside0.mk h11_
    have NB505_523 := Aside0.mk h12_
    have NB523_505 := Aside0.mk h13_
    replace HB := Aside0.mk h14_
    clear h0_ h1_ h2_ h3_ h4_ h5_ h6_ h7_ h8_ h9_ h10_ h11_ h12_ h13_ h14_
    try dsimp only at hS_
    have hHeld := hS_
    refine norm_ np_ ?_
    refine on_ 10 (some 64) (h := fun K hK => ?_)
    refine Kd.R_append_rows_step k48 (w0 := w) w.heap.size (by rfl) (.tmp 61) (.tmp 63) 27 48 (.agg #[(.string ⟨#[]⟩), (.int .i64 0), (.int .i64 0)]) 32 rfl Try.underlying27 info48 rfl (by decide) (by omega) v518 y517 l0_1 _ _ _ (fun k_ => (w.heap.size ≤ k_) ∧ some k_ ≠ (v515 : Value).ownBlock) (fun _ => False) rfl rfl ?aO ?aR (fun _ _ h => h) (fun _ h => h.elim) ?aF ?aB ?aS ?aL ?_
    (case aR => exact kc_ (Kd.V_reads' HO_505001.out).2.2)
    (case aB => exact bl_)
    (case aF => exact (fun k_ hk => ⟨(Nat.le_trans bz_ hk), Kd.fresh' (Kd.R_lt (kr_ HO516.out)) k_ hk⟩))
    (case aO => exact (kr_ HO519.out))
    (case aS => exact bz_)
    (case aL => have := LMc45.out; omega)
    intro v521 w54 ho hb hg hat
    rw [← Ny520.out] at ho
    replace HO_27 := Aside0.mk (Kd.N_afterv (ok := (fun k_ => ((P0_0_ k_ ∨ P0_1_ k_) ∨ w.heap.size ≤ k_) ∧ some k_ ≠ (v515 : Value).ownBlock ∧ k_ ≠ gb504 ∧ k_ ≠ gb505 ∧ k_ ≠ gb523)) (by (with_reducible repeat (first | apply Kd.N_alloc | apply Kd.N_drewN | apply Kd.N_drew)); exact Kd.N_mono HO_27.out (fun _ hk => ⟨⟨hk.1, ⟨hk.2.1, ⟨hk.2.2.2.1, ⟨hk.2.2.2.2.1, hk.2.2.2.2.2⟩⟩⟩⟩, hk.2.2.1⟩)) hg hat)
    replace HO_505000 := Aside0.mk (Kd.V_afterv (ok := (fun k_ => ((P0_0_ k_ ∨ P0_1_ k_) ∨ w.heap.size ≤ k_) ∧ some k_ ≠ (.slice Ao23 y508.length co23 : Value).ownBlock ∧ some k_ ≠ (v515 : Value).ownBlock ∧ k_ ≠ gb504 ∧ k_ ≠ gb505 ∧ k_ ≠ gb523)) (by (with_reducible repeat (first | apply Kd.V_alloc | apply Kd.V_drewN | apply Kd.V_drew)); exact Kd.V_mono HO_505000.out (fun _ hk => ⟨⟨hk.1, ⟨hk.2.2.2.1, ⟨hk.2.1, ⟨hk.2.2.2.2.1, ⟨hk.2.2.2.2.2.1, hk.2.2.2.2.2.2⟩⟩⟩⟩⟩, hk.2.2.1⟩)) hg hat)
    replace HO_505001 := Aside0.mk (Kd.V_afterv (ok := (fun k_ => ((P0_0_ k_ ∨ P0_1_ k_) ∨ w.heap.size ≤ k_) ∧ some k_ ≠ (.slice Ao23 y508.length co23 : Value).ownBlock ∧ some k_ ≠ (v515 : Value).ownBlock ∧ k_ ≠ gb504 ∧ k_ ≠ gb505 ∧ k_ ≠ gb523)) (by (with_reducible repeat (first | apply Kd.V_alloc | apply Kd.V_drewN | apply Kd.V_drew)); exact Kd.V_mono HO_505001.out (fun _ hk => ⟨⟨hk.1, ⟨hk.2.2.2.1, ⟨hk.2.1, ⟨hk.2.2.2.2.1, ⟨hk.2.2.2.2.2.1, hk.2.2.2.2.2.2⟩⟩⟩⟩⟩, hk.2.2.1⟩)) hg hat)
    replace BK504 := bgr_ BK504 hg HO519 BK504
    replace BK505 := bgr_ BK505 hg HO519 BK505
    replace HO516 := Aside0.mk (Kd.R_after (ok := (fun k_ => (w.heap.size ≤ k_))) (kr_ HO516.out) hg hat)
    replace BK523 := bgr_ BK523 hg HO519 BK523
    replace HB := Aside0.mk (hb)
    have HO522 := Aside0.mk (ho)
    clear HO519 ho hb hg hat
    obtain ⟨Ao55, co55, eo55⟩ := Kd.R_slice HO522.out
    (first | subst eo55 | (injection eo55 with f1_ f2_ f3_; have f4_ := f1_.symm; have f5_ := f3_.symm; clear f1_ f2_ f3_; subst f4_; subst f5_))
    obtain ⟨Ao56, co56, eo56⟩ := Kd.R_slice HO516.out
    (first | subst eo56 | (injection eo56 with f1_ f2_ f3_; have f4_ := f1_.symm; have f5_ := f3_.symm; clear f1_ f2_ f3_; subst f4_; subst f5_))
    refine hK.out _ _ ⟨bc_ BK504.out 0, bc_ BK504.out 1⟩ (fun hHeld => ?_)
    clear hK K
    refine norm_ nn_ ?_
    refine pu_ 11 (some 65) (h := ?_)
    exact norm_ nq_ (hJ6_7_10_12 (.slice Ao56 t514.length co56, v518, .slice Ao55 y520.length co55, gb523) _ ⟨hHeld, kr_ HO516.out, kr_ HO522.out, (by (with_reducible repeat (first | apply Kd.N_alloc | apply Kd.N_drewN | apply Kd.N_drew)); exact Kd.N_mono HO_27.out (fun _ hk => ⟨hk.1.1, ⟨hk.1.2.1, ⟨hk.2, ⟨hk.1.2.2.1, ⟨hk.1.2.2.2.1, hk.1.2.2.2.2⟩⟩⟩⟩⟩)), (by (with_reducible repeat (first | apply Kd.V_alloc | apply Kd.V_drewN | apply Kd.V_drew)); exact Kd.V_mono HO_505000.out (fun _ hk => ⟨hk.1.1, ⟨hk.1.2.2.1, ⟨hk.2, ⟨hk.1.2.1, ⟨hk.1.2.2.2.1, ⟨hk.1.2.2.2.2.1, hk.1.2.2.2.2.2⟩⟩⟩⟩⟩⟩)), (by (with_reducible repeat (first | apply Kd.V_alloc | apply Kd.V_drewN | apply Kd.V_drew)); exact Kd.V_mono HO_505001.out (fun _ hk => ⟨hk.1.1, ⟨hk.1.2.2.1, ⟨hk.2, ⟨hk.1.2.1, ⟨hk.1.2.2.2.1, ⟨hk.1.2.2.2.2.1, hk.1.2.2.2.2.2⟩⟩⟩⟩⟩⟩)), kb_ BK504.out, kb_ BK505.out, kb_ BK523.out, GW523.out, GE523.out, NB504_523.out, NB523_504.out, NB505_523.out, NB523_505.out, bl_⟩)
  ·skip
   rintro ⟨v515, v518, v521⟩ w55 ⟨hS_, h0_, h1_, h2_, h3_, h4_, h5_, h6_, h7_⟩
   dsimp only at h0_ h1_ h2_ h3_ h4_ h5_ h6_ h7_
   have HO516 := Aside0.mk h0_
   have HO522 := Aside0.mk h1_
   replace HO_27 := Aside0.mk h2_
   replace HO_505000 := Aside0.mk h3_
   replace HO_505001 := Aside0.mk h4_
   replace BK504 := Aside0.mk h5_
   replace BK505 := Aside0.mk h6_
   replace HB := Aside0.mk h7_
   clear h0_ h1_ h2_ h3_ h4_ h5_ h6_ h7_
   try dsimp only at hS_
   have hHeld := hS_
   obtain ⟨Ao56, co56, eo56⟩ := Kd.R_slice HO522.out
   (first | subst eo56 | (injection eo56 with f1_ f2_ f3_; have f4_ := f1_.symm; have f5_ := f3_.symm; clear f1_ f2_ f3_; subst f4_; subst f5_))
   obtain ⟨Ao57, co57, eo57⟩ := Kd.R_slice HO516.out
   (first | subst eo57 | (injection eo57 with f1_ f2_ f3_; have f4_ := f1_.symm; have f5_ := f3_.symm; clear f1_ f2_ f3_; subst f4_; subst f5_))
   refine norm_ np_ ?_
   refine on_ 12 (some 13) (h := fun K hK => ?_)
   refine box_step rfl (N := 13) rfl (cs := #[.slice none 0 0, .slice none 0 0]) (t := 29) gs_ ?_
   intro gb523 hg w58 hbox hb
   replace HO_27 := Aside0.mk (Kd.N_below (Kd.N_elderB (by (with_reducible repeat (first | apply Kd.N_alloc | apply Kd.N_drewN | apply Kd.N_drew)); exact HO_27.out) gb523 (Nat.le_of_eq hg.symm)) hb)
   replace HO_505000 := Aside0.mk (Kd.V_below (Kd.V_elderB (by (with_reducible repeat (first | apply Kd.V_alloc | apply Kd.V_drewN | apply Kd.V_drew)); exact HO_505000.out) gb523 (Nat.le_of_eq hg.symm)) hb)
   replace HO_505001 := Aside0.mk (Kd.V_below (Kd.V_elderB (by (with_reducible repeat (first | apply Kd.V_alloc | apply Kd.V_drewN | apply Kd.V_drew)); exact HO_505001.out) gb523 (Nat.le_of_eq hg.symm)) hb)
   replace HO516 := rb_ HO516 hb
   replace HO522 := rb_ HO522 hb
   have BK523 := Aside0.mk (hbox)
   have GW523 := Aside0.mk ((by rw [hg]; exact bz_ : w.heap.size ≤ gb523))
   have GE523 := GW523
   replace HB := Aside0.mk (below_step bl_ hb)
   have NB504_523 := nl_ hg BK504
   have NB523_504 := nm_ hg BK504
   replace BK504 := bb_ BK504 hb
   have NB505_523 := nl_ hg BK505
   have NB523_505 := nm_ hg BK505
   replace BK505 := bb_ BK505 hb
   clear hb hbox hg
   refine hK.out _ _ ⟨bc_ BK504.out 0, bc_ BK504.out 1⟩ (fun hHeld => ?_)
   clear hK K
   refine norm_ nn_ ?_
   exact norm_ nq_ (hJ6_7_10_12 (.slice Ao57 t514.length co57, v518, .slice Ao56 y520.length co56, gb523) _ ⟨hHeld, kr_ HO516.out, kr_ HO522.out, (by (with_reducible repeat (first | apply Kd.N_alloc | apply Kd.N_drewN | apply Kd.N_drew)); exact Kd.N_mono HO_27.out (fun _ hk => ⟨hk.1.1, ⟨hk.1.2.1, ⟨hk.1.2.2.1, ⟨hk.1.2.2.2.1, ⟨hk.1.2.2.2.2, hk.2⟩⟩⟩⟩⟩)), (by (with_reducible repeat (first | apply Kd.V_alloc | apply Kd.V_drewN | apply Kd.V_drew)); exact Kd.V_mono HO_505000.out (fun _ hk => ⟨hk.1.1, ⟨hk.1.2.1, ⟨hk.1.2.2.1, ⟨hk.1.2.2.2.1, ⟨hk.1.2.2.2.2.1, ⟨hk.1.2.2.2.2.2, hk.2⟩⟩⟩⟩⟩⟩)), (by (with_reducible repeat (first | apply Kd.V_alloc | apply Kd.V_drewN | apply Kd.V_drew)); exact Kd.V_mono HO_505001.out (fun _ hk => ⟨hk.1.1, ⟨hk.1.2.1, ⟨hk.1.2.2.1, ⟨hk.1.2.2.2.1, ⟨hk.1.2.2.2.2.1, ⟨hk.1.2.2.2.2.2, hk.2⟩⟩⟩⟩⟩⟩)), kb_ BK504.out, kb_ BK505.out, kb_ BK523.out, GW523.out, GE523.out, NB504_523.out, NB523_504.out, NB505_523.out, NB523_505.out, bl_⟩)
 rintro ⟨v515, v518, v521, gb523⟩ w56 ⟨hS_, h0_, h1_, h2_, h3_, h4_, h5_, h6_, h7_, h8_, h9_, h10_, h11_, h12_, h13_, h14_⟩
 dsimp only at h0_ h1_ h2_ h3_ h4_ h5_ h6_ h7_ h8_ h9_ h10_ h11_ h12_ h13_ h14_
 have HO516 := Aside0.mk h0_
 have HO522 := Aside0.mk h1_
 replace HO_27 := Aside0.mk h2_
 replace HO_505000 := Aside0.mk h3_
 replace HO_505001 := Aside0.mk h4_
 replace BK504 := Aside0.mk h5_
 replace BK505 := Aside0.mk h6_
 have BK523 := Aside0.mk h7_
 have GW523 := Aside0.mk h8_
 have GE523 := Aside0.mk h9_
 have NB504_523 := Aside0.mk h10_
 have NB523_504 := Aside0.mk h11_
 have NB505_523 := Aside0.mk h12_
 have NB523_505 := Aside0.mk h13_
 replace HB := Aside0.mk h14_
 clear h0_ h1_ h2_ h3_ h4_ h5_ h6_ h7_ h8_ h9_ h10_ h11_ h12_ h13_ h14_
 try dsimp only at hS_
 have hHeld := hS_
 obtain ⟨Ao57, co57, eo57⟩ := Kd.R_slice HO522.out
 (first | subst eo57 | (injection eo57 with f1_ f2_ f3_; have f4_ := f1_.symm; have f5_ := f3_.symm; clear f1_ f2_ f3_; subst f4_; subst f5_))
 obtain ⟨Ao58, co58, eo58⟩ := Kd.R_slice HO516.out
 (first | subst eo58 | (injection eo58 with f1_ f2_ f3_; have f4_ := f1_.symm; have f5_ := f3_.symm; clear f1_ f2_ f3_; subst f4_; subst f5_))
 refine norm_ np_ ?_
 refine on_ 13 none (h := fun K hK => ?_)
 have hs59 : w56.cell? ⟨gb523, 0, none⟩ = some (.slice none 0 0) := bc_ BK523.out 0
 have hfs59 := blk_frozen BK523.out 0
 have hns59_0 := NB504_523.out
 have hns59_1 := NB505_523.out
 have hms59_0 := NB523_504.out
 have hms59_1 := NB523_505.out
 have hs60 : w56.cell? ⟨gb523, 1, none⟩ = some (.slice none 0 0) := bc_ BK523.out 1
 have hfs60 := blk_frozen BK523.out 1
 have hns60_0 := NB504_523.out
 have hns60_1 := NB505_523.out
 have hms60_0 := NB523_504.out
 have hms60_1 := NB523_505.out
 refine skip_ (w1 := ?_) (by rfl) rfl ?_ ?_
 rotate_left
 ·go_simp
  rfl
 refine hK.out _ _ ⟨((cell_far (p := ⟨gb523, _, none⟩) NB504_523.out _).trans (((cell_far (p := ⟨gb523, _, none⟩) NB504_523.out _).trans (hHeld.1)))), ((cell_far (p := ⟨gb523, _, none⟩) NB504_523.out _).trans (((cell_far (p := ⟨gb523, _, none⟩) NB504_523.out _).trans (hHeld.2))))⟩ (fun hHeld => ?_)
 clear hK K
 refine done_ (done_of HT_.out (by kernel_rfl)) ?_
 have hnb61 := NB523_504.out
 have hnc61 := NB504_523.out
 have hnb62 := NB523_505.out
 have hnc62 := NB505_523.out
 have hcz63_0 : w56.cell? ⟨gb523, 0, none⟩ = some (.slice none 0 0) := bc_ BK523.out 0
 have hcz63_1 : w56.cell? ⟨gb523, 1, none⟩ = some (.slice none 0 0) := bc_ BK523.out 1
 have hfz63_0 := blk_frozen BK523.out 0
 have hfz63_1 := blk_frozen BK523.out 1
 try go_wp2_with (first | ((with_reducible refine gate_callee (f := 9) rfl ?_); refine goesL_ (some 67) rfl rfl Try.func9 (by kernel_rfl) rfl #[.agg #[.slice Ao58 t514.length co58, .slice Ao57 y520.length co57]] rfl nc_ ?_; (with_reducible refine (spec_GoodBag.calls k2 _ _ t514 _ _ y520 true _ ?side1 ?side2 ?side3 ?side4 A46.out).mono ?_); (case side1 => exact (Kd.R_reads' (kr_ (rs2_ HO516.out BK523.out (.slice Ao58 t514.length co58) (.slice Ao57 y520.length co57)))).2.2); (case side2 => exact (Kd.R_reads' HO516.out).2.1); (case side3 => exact (Kd.R_reads' (kr_ (rs2_ HO522.out BK523.out (.slice Ao58 t514.length co58) (.slice Ao57 y520.length co57)))).2.2); (case side4 => exact (Kd.R_reads' HO522.out).2.1); rintro e w64 ⟨rfl, hb⟩; refine ⟨_, rfl, ?_⟩; replace HO_27 := Aside0.mk (Kd.N_below (by (with_reducible repeat (first | apply Kd.N_alloc | apply Kd.N_drewN | apply Kd.N_drew)); exact (Kd.N_mono (Kd.N_far (p := ⟨gb523, 1, none⟩) (Kd.N_far (p := ⟨gb523, 0, none⟩) (Kd.N_mono HO_27.out (fun k_ hk => (⟨hk, hk.2.2.2.2.2⟩ : _ ∧ k_ ≠ gb523))) (fun _ hk => hk.2) (.slice Ao58 t514.length co58)) (fun _ hk => hk.2) (.slice Ao57 y520.length co57)) (fun _ h_ => h_.1))) hb); replace HO_505000 := Aside0.mk (Kd.V_below (by (with_reducible repeat (first | apply Kd.V_alloc | apply Kd.V_drewN | apply Kd.V_drew)); exact (Kd.V_mono (Kd.V_far (p := ⟨gb523, 1, none⟩) (Kd.V_far (p := ⟨gb523, 0, none⟩) (Kd.V_mono HO_505000.out (fun k_ hk => (⟨hk, hk.2.2.2.2.2.2⟩ : _ ∧ k_ ≠ gb523))) (fun _ hk => hk.2) (.slice Ao58 t514.length co58)) (fun _ hk => hk.2) (.slice Ao57 y520.length co57)) (fun _ h_ => h_.1))) hb); replace HO_505001 := Aside0.mk (Kd.V_below (by (with_reducible repeat (first | apply Kd.V_alloc | apply Kd.V_drewN | apply Kd.V_drew)); exact (Kd.V_mono (Kd.V_far (p := ⟨gb523, 1, none⟩) (Kd.V_far (p := ⟨gb523, 0, none⟩) (Kd.V_mono HO_505001.out (fun k_ hk => (⟨hk, hk.2.2.2.2.2.2⟩ : _ ∧ k_ ≠ gb523))) (fun _ hk => hk.2) (.slice Ao58 t514.length co58)) (fun _ hk => hk.2) (.slice Ao57 y520.length co57)) (fun _ h_ => h_.1))) hb); replace HO516 := Aside0.mk (Kd.R_below (kr_ (rs2_ HO516.out BK523.out (.slice Ao58 t514.length co58) (.slice Ao57 y520.length co57))) hb); replace HO522 := Aside0.mk (Kd.R_below (kr_ (rs2_ HO522.out BK523.out (.slice Ao58 t514.length co58) (.slice Ao57 y520.length co57))) hb); replace BK504 := Aside0.mk (blk_below (g := gb504) (o := .cells #[.slice A0_0 l0_0.length c0_0, .slice A0_1 l0_1.length c0_1] 29 (0, 0)) kz_ hb); replace BK505 := Aside0.mk (blk_below (g := gb505) (o := .cells #[.slice none 0 0, .slice none 0 0] 29 (0, 0)) kz_ hb); replace BK523 := Aside0.mk (blk_below (g := gb523) (o := .cells #[.slice Ao58 t514.length co58, .slice Ao57 y520.length co57] 29 (0, 0)) (by (with_reducible repeat (first | refine blk_drewN ?_ _ | refine blk_drew ?_ | refine blk_alloc ?_ _)); refine blk_put (cs := #[.slice Ao58 t514.length co58, .slice none 0 0]) ?_ 1 _ rfl; (with_reducible repeat (first | refine blk_drewN ?_ _ | refine blk_drew ?_ | refine blk_alloc ?_ _)); refine blk_put (cs := #[.slice none 0 0, .slice none 0 0]) ?_ 0 _ rfl; exact kb_ BK523.out) hb); replace HB := Aside0.mk (below_step bl_ hb); clear hb; have hcz65_0 : w64.cell? ⟨gb523, 0, none⟩ = some (.slice Ao58 t514.length co58) := bc_ BK523.out 0; have hcz65_1 : w64.cell? ⟨gb523, 1, none⟩ = some (.slice Ao57 y520.length co57) := bc_ BK523.out 1; have hfz65_0 := blk_frozen BK523.out 0; have hfz65_1 := blk_frozen BK523.out 1; have hnb66 := NB505_504.out; have hnc66 := NB504_505.out; have hcz67_0 : w64.cell? ⟨gb505, 0, none⟩ = some (.slice none 0 0) := bc_ BK505.out 0; have hcz67_1 : w64.cell? ⟨gb505, 1, none⟩ = some (.slice none 0 0) := bc_ BK505.out 1; have hfz67_0 := blk_frozen BK505.out 0; have hfz67_1 := blk_frozen BK505.out 1))
 refine bodyPost_ret (results_ct rfl _ _ gb505 29 #[.slice Ao58 t514.length co58, .slice Ao57 y520.length co57] (0, 0) _ rfl (by (with_reducible repeat (first | refine blk_drewN ?_ _ | refine blk_drew ?_ | refine blk_alloc ?_ _)); refine blk_put (cs := #[.slice Ao58 t514.length co58, .slice none 0 0]) ?_ 1 _ rfl; (with_reducible repeat (first | refine blk_drewN ?_ _ | refine blk_drew ?_ | refine blk_alloc ?_ _)); refine blk_put (cs := #[.slice none 0 0, .slice none 0 0]) ?_ 0 _ rfl; exact kb_ BK505.out) Try.underlying29 rfl (by kernel_rfl)) rfl ?_
 exact ⟨_, _, ng_, by exact kr_ (Kd.R_mono (Kd.R_far (p := ⟨gb505, 1, none⟩) (Kd.R_far (p := ⟨gb505, 0, none⟩) (Kd.R_types HO516.out BK505.out (by decide)) (fun _ hk => hk.2) (.slice Ao58 t514.length co58)) (fun _ hk => hk.2) (.slice Ao57 y520.length co57)) (fun _ hk => ⟨hk.1.1, hk.1.2⟩)), by exact kr_ (Kd.R_mono (Kd.R_far (p := ⟨gb505, 1, none⟩) (Kd.R_far (p := ⟨gb505, 0, none⟩) (Kd.R_types HO522.out BK505.out (by decide)) (fun _ hk => hk.2) (.slice Ao58 t514.length co58)) (fun _ hk => hk.2) (.slice Ao57 y520.length co57)) (fun _ hk => ⟨hk.1.1, hk.1.2⟩)), bl_⟩

end Go.Proofs.Ytdnapgnnliibfaa.PAT
