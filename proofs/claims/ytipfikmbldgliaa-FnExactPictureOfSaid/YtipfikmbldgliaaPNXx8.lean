/- What this text proves: the machine calls of these functions return what the plain functions say. Conditions: as each theorem says. Printed by a program of this session out of the translation. -/
import Derived.Test.YtipfikmbldgliaaPNXx0
import Derived.Test.YtipfikmbldgliaaPNXx6
import Derived.Test.YtipfikmbldgliaaPNXx7
namespace Go.Proofs.Ytipfikmbldgliaa.PNX
open Go.RowKit Go.Proofs.YtipfikmbldgliaaW.PrintWords Go.Proofs.YtipfikmbldgliaaW.PrintLast Go.Proofs.YtipfikmbldgliaaW.PrintMore
attribute [local go_sem] max2_int min2_int max_two min_two max_three min_three max_four min_four   -- for this text's walks alone
set_option linter.unusedVariables false
set_option linter.unusedSimpArgs false

/-! ### impl_isWay: function 97 -/
mutual
def impl_isWay.l0 : Nat → Bool → Bool → Int → List (S103) → Int → Int → Int → Int → List (S103) → Bool → List Int → Option (Bool)
 | 0, _, _, _, _, _, _, _, _, _, _, _ => none
 | k + 1, x1, x2, x7, x11, x12, x13, x223000, x223001, x223002, x223003, x223004 => if x13 < x12 then (if 0 ≤ x13 then (if x13 < (x11.length : Int) then (if (rd_T103 x11 x13).f0 = true then (if ((rd_T103 x11 x13).f1) = 0 then (if ((rd_T103 x11 x13).f0 = true) then (impl_isWay.j1 k x1 x2 x7 x11 x12 x13 false x223000 x223001 x223002 x223003 x223004 ((rd_T103 x11 x13).f0) ((rd_T103 x11 x13).f1)) else ((impl_in.f ((rd_T103 x11 x13).f1) 1 1000000).bind fun t225 => (impl_isWay.j1 k x1 x2 x7 x11 x12 x13 (!t225) x223000 x223001 x223002 x223003 x223004 ((rd_T103 x11 x13).f0) ((rd_T103 x11 x13).f1)))) else (impl_isWay.j1 k x1 x2 x7 x11 x12 x13 true x223000 x223001 x223002 x223003 x223004 ((rd_T103 x11 x13).f0) ((rd_T103 x11 x13).f1))) else (if ((rd_T103 x11 x13).f0 = true) then (impl_isWay.j1 k x1 x2 x7 x11 x12 x13 false x223000 x223001 x223002 x223003 x223004 ((rd_T103 x11 x13).f0) ((rd_T103 x11 x13).f1)) else ((impl_in.f ((rd_T103 x11 x13).f1) 1 1000000).bind fun t226 => (impl_isWay.j1 k x1 x2 x7 x11 x12 x13 (!t226) x223000 x223001 x223002 x223003 x223004 ((rd_T103 x11 x13).f0) ((rd_T103 x11 x13).f1))))) else (none)) else (none)) else (if (x223002.length : Int) > 20 then (impl_isWay.j2 k x1 x2 x7 true x223000 x223001 x223002 x223003 x223004) else (if x7 > 1 then (impl_isWay.j2 k x1 x2 x7 true x223000 x223001 x223002 x223003 x223004) else (if x7 > 0 then (if x1 = true then (if (x223004.length : Int) > 200 then (impl_isWay.j2 k x1 x2 x7 true x223000 x223001 x223002 x223003 x223004) else ((has_impl_isWay_1.f x223004).bind fun t227 => (impl_isWay.j2 k x1 x2 x7 t227 x223000 x223001 x223002 x223003 x223004))) else (impl_isWay.j2 k x1 x2 x7 true x223000 x223001 x223002 x223003 x223004)) else (if (x223004.length : Int) > 200 then (impl_isWay.j2 k x1 x2 x7 true x223000 x223001 x223002 x223003 x223004) else ((has_impl_isWay_1.f x223004).bind fun t228 => (impl_isWay.j2 k x1 x2 x7 t228 x223000 x223001 x223002 x223003 x223004))))))
def impl_isWay.j1 : Nat → Bool → Bool → Int → List (S103) → Int → Int → Bool → Int → Int → List (S103) → Bool → List Int → Bool → Int → Option (Bool)
 | 0, _, _, _, _, _, _, _, _, _, _, _, _, _, _ => none
 | k + 1, x1, x2, x7, x11, x12, x13, x34, x223000, x223001, x223002, x223003, x223004, x225000, x225001 => if x34 = true then (some false) else (if x225000 = true then (impl_isWay.l0 k x1 x2 (wrap64 (x7 + 1)) x11 x12 (wrap64 (x13 + 1)) x223000 x223001 x223002 x223003 x223004) else (impl_isWay.l0 k x1 x2 x7 x11 x12 (wrap64 (x13 + 1)) x223000 x223001 x223002 x223003 x223004))
def impl_isWay.j2 : Nat → Bool → Bool → Int → Bool → Int → Int → List (S103) → Bool → List Int → Option (Bool)
 | 0, _, _, _, _, _, _, _, _, _ => none
 | k + 1, x1, x2, x7, x66, x223000, x223001, x223002, x223003, x223004 => if x66 = true then (some false) else (if x2 = true then (if x1 = true then (some (x223003 == (x7 == 1))) else (some (x223003 == true))) else (if x223003 = true then (some false) else (if (x223004.length : Int) = 0 then (if x1 = true then (some (x7 == 1)) else (some true)) else (some false))))
end
def impl_isWay.f (k : Nat) (a0_0 : Int) (a0_1 : Int) (l0_2 : List (S103)) (a0_3 : Bool) (l0_4 : List Int) (a1 : Bool) (a2 : Bool) : Option (Bool) := impl_isWay.l0 k a1 a2 0 l0_2 (l0_2.length : Int) 0 a0_0 a0_1 l0_2 a0_3 l0_4
theorem impl_isWay.mono_l : ∀ k, (∀ y0 y1 y2 y3 y4 y5 y6 y7 y8 y9 y10, LeO (impl_isWay.l0 k y0 y1 y2 y3 y4 y5 y6 y7 y8 y9 y10) (impl_isWay.l0 (k + 1) y0 y1 y2 y3 y4 y5 y6 y7 y8 y9 y10)) ∧ (∀ y0 y1 y2 y3 y4 y5 y6 y7 y8 y9 y10 y11 y12 y13, LeO (impl_isWay.j1 k y0 y1 y2 y3 y4 y5 y6 y7 y8 y9 y10 y11 y12 y13) (impl_isWay.j1 (k + 1) y0 y1 y2 y3 y4 y5 y6 y7 y8 y9 y10 y11 y12 y13)) ∧ (∀ y0 y1 y2 y3 y4 y5 y6 y7 y8, LeO (impl_isWay.j2 k y0 y1 y2 y3 y4 y5 y6 y7 y8) (impl_isWay.j2 (k + 1) y0 y1 y2 y3 y4 y5 y6 y7 y8))
 | 0 => ⟨fun _ _ _ _ _ _ _ _ _ _ _ r h => by simp [impl_isWay.l0] at h, fun _ _ _ _ _ _ _ _ _ _ _ _ _ _ r h => by simp [impl_isWay.j1] at h, fun _ _ _ _ _ _ _ _ _ r h => by simp [impl_isWay.j2] at h⟩
 | k + 1 => by
  obtain ⟨ih0, ih1, ih2⟩ := impl_isWay.mono_l k
  refine ⟨?_, ?_, ?_⟩
  ·intro y0 y1 y2 y3 y4 y5 y6 y7 y8 y9 y10
   unfold impl_isWay.l0
   repeat' first
   | (with_reducible exact ih0 _ _ _ _ _ _ _ _ _ _ _)
   | (with_reducible exact ih1 _ _ _ _ _ _ _ _ _ _ _ _ _ _)
   | (with_reducible exact ih2 _ _ _ _ _ _ _ _ _)
   | (with_reducible exact LeO.refl _)
   | (with_reducible exact LeO.none _)
   | (with_reducible refine LeO.ite ?_ ?_)
   | (with_reducible refine LeO.bind ?_ (fun _ => ?_))
   | exact ih0 _ _ _ _ _ _ _ _ _ _ _
   | exact ih1 _ _ _ _ _ _ _ _ _ _ _ _ _ _
   | exact ih2 _ _ _ _ _ _ _ _ _
   | exact LeO.none _
   | refine LeO.ite ?_ ?_
   | refine LeO.bind ?_ (fun _ => ?_)
  ·intro y0 y1 y2 y3 y4 y5 y6 y7 y8 y9 y10 y11 y12 y13
   unfold impl_isWay.j1
   repeat' first
   | (with_reducible exact ih0 _ _ _ _ _ _ _ _ _ _ _)
   | (with_reducible exact ih1 _ _ _ _ _ _ _ _ _ _ _ _ _ _)
   | (with_reducible exact ih2 _ _ _ _ _ _ _ _ _)
   | (with_reducible exact LeO.refl _)
   | (with_reducible exact LeO.none _)
   | (with_reducible refine LeO.ite ?_ ?_)
   | (with_reducible refine LeO.bind ?_ (fun _ => ?_))
   | exact ih0 _ _ _ _ _ _ _ _ _ _ _
   | exact ih1 _ _ _ _ _ _ _ _ _ _ _ _ _ _
   | exact ih2 _ _ _ _ _ _ _ _ _
   | exact LeO.none _
   | refine LeO.ite ?_ ?_
   | refine LeO.bind ?_ (fun _ => ?_)
  ·intro y0 y1 y2 y3 y4 y5 y6 y7 y8
   unfold impl_isWay.j2
   repeat' first
   | (with_reducible exact ih0 _ _ _ _ _ _ _ _ _ _ _)
   | (with_reducible exact ih1 _ _ _ _ _ _ _ _ _ _ _ _ _ _)
   | (with_reducible exact ih2 _ _ _ _ _ _ _ _ _)
   | (with_reducible exact LeO.refl _)
   | (with_reducible exact LeO.none _)
   | (with_reducible refine LeO.ite ?_ ?_)
   | (with_reducible refine LeO.bind ?_ (fun _ => ?_))
   | exact ih0 _ _ _ _ _ _ _ _ _ _ _
   | exact ih1 _ _ _ _ _ _ _ _ _ _ _ _ _ _
   | exact ih2 _ _ _ _ _ _ _ _ _
   | exact LeO.none _
   | refine LeO.ite ?_ ?_
   | refine LeO.bind ?_ (fun _ => ?_)
theorem impl_isWay.mono : ∀ a0 a1 a2 a3 a4 a5 a6 k, LeO (impl_isWay.f k a0 a1 a2 a3 a4 a5 a6) (impl_isWay.f (k + 1) a0 a1 a2 a3 a4 a5 a6) := by
 intro a0 a1 a2 a3 a4 a5 a6 k
 obtain ⟨ih0, ih1, ih2⟩ := impl_isWay.mono_l k
 unfold impl_isWay.f
 repeat' first
   | (with_reducible exact ih0 _ _ _ _ _ _ _ _ _ _ _)
   | (with_reducible exact ih1 _ _ _ _ _ _ _ _ _ _ _ _ _ _)
   | (with_reducible exact ih2 _ _ _ _ _ _ _ _ _)
   | (with_reducible exact LeO.refl _)
   | (with_reducible exact LeO.none _)
   | (with_reducible refine LeO.ite ?_ ?_)
   | (with_reducible refine LeO.bind ?_ (fun _ => ?_))
   | exact ih0 _ _ _ _ _ _ _ _ _ _ _
   | exact ih1 _ _ _ _ _ _ _ _ _ _ _ _ _ _
   | exact ih2 _ _ _ _ _ _ _ _ _
   | exact LeO.none _
   | refine LeO.ite ?_ ?_
   | refine LeO.bind ?_ (fun _ => ?_)
set_option maxHeartbeats 8000000 in
set_option maxRecDepth 100000 in
theorem impl_isWay.calls (k : Nat) (a0_0 : Int) (a0_1 : Int) (A0_2 : Option Addr) (c0_2 : Nat) (l0_2 : List (S103)) (a0_3 : Bool) (A0_4 : Option Addr) (c0_4 : Nat) (l0_4 : List Int) (a1 : Bool) (a2 : Bool) (r : Bool) (w : World) (hr0_2 : Kd.C k103 w A0_2 l0_2.length l0_2) (hc0_2 : l0_2.length ≤ c0_2) (hr0_4 : Kd.C (Kd.int .i64) w A0_4 l0_4.length l0_4) (hc0_4 : l0_4.length ≤ c0_4) (h : impl_isWay.f k a0_0 a0_1 l0_2 a0_3 l0_4 a1 a2 = some r) :
  Calls Try.prog 97 #[.agg #[.int .i64 a0_0, .int .i64 a0_1, .slice A0_2 l0_2.length c0_2, .bool a0_3, .slice A0_4 l0_4.length c0_4], .bool a1, .bool a2] w fun e w' => e = .returned (.bool r) ∧ Below w.heap.size w w' := by
 have hu95 := Try.underlying95
 have hu103 := Try.underlying103
 have HR0_2 := Aside0.mk hr0_2
 have HC0_2 := Aside0.mk hc0_2
 clear hr0_2 hc0_2
 have HR0_4 := Aside0.mk hr0_4
 have HC0_4 := Aside0.mk hc0_4
 clear hr0_4 hc0_4
 have HB := Aside0.mk (Below.refl w.heap.size w)
 have H : (impl_isWay.l0 k a1 a2 0 l0_2 (l0_2.length : Int) 0 a0_0 a0_1 l0_2 a0_3 l0_4) = some r := h
 clear h
 have H' := Aside0.mk H
 clear H
 go_enter Try.func97, Try.ntmps97
 go_wp2_with (first | ((with_reducible refine gate_dst (N := 3) rfl ?_); (try (refine gate_guard (by rfl) ?_; dsimp only)); refine box_event rfl (N := 3) rfl (cs := #[.int .i64 a0_0, .int .i64 a0_1, .slice A0_2 l0_2.length c0_2, .bool a0_3, .slice A0_4 l0_4.length c0_4]) (t := 95) gs_ ?_; intro gb222 hg w4 hbox hb; have BK222 := Aside0.mk (hbox); have GW222 := Aside0.mk ((by rw [hg]; exact bz_ : w.heap.size ≤ gb222)); have GE222 := GW222; replace HB := Aside0.mk (below_step bl_ hb); clear hb hbox hg; have hcz5_0 : w4.cell? ⟨gb222, 0, none⟩ = some (.int .i64 a0_0) := bc_ BK222.out 0; have hcz5_1 : w4.cell? ⟨gb222, 1, none⟩ = some (.int .i64 a0_1) := bc_ BK222.out 1; have hcz5_2 : w4.cell? ⟨gb222, 2, none⟩ = some (.slice A0_2 l0_2.length c0_2) := bc_ BK222.out 2; have hcz5_3 : w4.cell? ⟨gb222, 3, none⟩ = some (.bool a0_3) := bc_ BK222.out 3; have hcz5_4 : w4.cell? ⟨gb222, 4, none⟩ = some (.slice A0_4 l0_4.length c0_4) := bc_ BK222.out 4; have hfz5_0 := blk_frozen BK222.out 0; have hfz5_1 := blk_frozen BK222.out 1; have hfz5_2 := blk_frozen BK222.out 2; have hfz5_3 := blk_frozen BK222.out 3; have hfz5_4 := blk_frozen BK222.out 4))
 go_loopg [7, 13] k (fun kq v7 v13 w' => ∃ (x7_1 : Int) (x13_1 : Int), v7 = .int .i64 x7_1 ∧ v13 = .int .i64 x13_1 ∧ Aside0 (impl_isWay.l0 kq a1 a2 x7_1 l0_2 (l0_2.length : Int) x13_1 a0_0 a0_1 l0_2 a0_3 l0_4 = some r) ∧ Aside0 (kq ≤ k) ∧ Aside0 (w'.heap[gb222]? = some (.cells #[.int .i64 a0_0, .int .i64 a0_1, (.slice A0_2 l0_2.length c0_2), .bool a0_3, (.slice A0_4 l0_4.length c0_4)] 95 (0, 0))) ∧ Aside0 (Below w.heap.size w w'))
 case atStart => exact ⟨(0), (0), (by first | rfl | (simp; done) | (simp [*]; done)), (by first | rfl | (simp; done) | (simp [*]; done)), H', ⟨Nat.le_refl _⟩, ⟨by exact kb_ BK222.out⟩, ⟨bl_⟩⟩
 clear H'
 try clear p2
 try clear hcz5_0
 try clear hcz5_1
 try clear hcz5_2
 try clear hcz5_3
 try clear hcz5_4
 try clear hfz5_0
 try clear hfz5_1
 try clear hfz5_2
 try clear hfz5_3
 try clear hfz5_4
 obtain ⟨x7_1, x13_1, rfl, rfl, HA, HK1, BK222, HB⟩ := hrel
 cases gk with
 | zero => exact absurd HA.out (by simp [impl_isWay.l0])
 | succ k1 => ?_
 have H := HA.out
 clear HA
 simp only [impl_isWay.l0] at H
 by_cases c6 : x13_1 < (l0_2.length : Int)
 ·rw [if_pos c6] at H
  have c6b0 : decide (x13_1 < (l0_2.length : Int)) = true := decide_eq_true c6
  clear c6
  by_cases c7 : 0 ≤ x13_1
  rotate_left
  ·rw [if_neg c7] at H
   exact absurd H (by simp)
  rw [if_pos c7] at H
  have c7b0 : decide (0 ≤ x13_1) = true := decide_eq_true c7
  clear c7
  by_cases c8 : x13_1 < (l0_2.length : Int)
  rotate_left
  ·rw [if_neg c8] at H
   exact absurd H (by simp)
  rw [if_pos c8] at H
  have c8b0 : decide (x13_1 < (l0_2.length : Int)) = true := decide_eq_true c8
  clear c8
  have HC9 := Aside0.mk H
  clear H
  have p223 : 0 ≤ (x13_1 : Int) := of_decide_eq_true (by first | (with_reducible assumption) | assumption)
  have q223 : x13_1 < (l0_2.length : Int) := of_decide_eq_true (by first | (with_reducible assumption) | assumption)
  obtain ⟨ad223, e223, hx223_0, hx223_1⟩ := at_T103 HR0_2.out x13_1 p223 q223
  cases e223
  replace hx223_0 := (HB.out.cell (World.block_lt_of_cell? w _ hx223_0)).trans hx223_0
  replace hx223_1 := (HB.out.cell (World.block_lt_of_cell? w _ hx223_1)).trans hx223_1
  replace p223 := eq_true p223
  replace q223 := eq_true q223
  go_upto_region 5 with (first | ((with_reducible refine gate_dst (N := 9) rfl ?_); (try (refine gate_guard (by rfl) ?_; dsimp only)); refine box_event rfl (N := 9) rfl (cs := #[.bool false, .int .i64 0]) (t := 103) gs_ ?_; intro gb224 hg w10 hbox hb; have BK224 := Aside0.mk (hbox); have GW224 := Aside0.mk ((by rw [hg]; exact bz_ : w.heap.size ≤ gb224)); have GE224 := GW224; replace HB := Aside0.mk (below_step bl_ hb); have NB222_224 := nl_ hg BK222; have NB224_222 := nm_ hg BK222; replace BK222 := bb_ BK222 hb; clear hb hbox hg; have hnb11 := NB224_222.out; have hnc11 := NB222_224.out; have hcz12_0 : w10.cell? ⟨gb224, 0, none⟩ = some (.bool false) := bc_ BK224.out 0; have hcz12_1 : w10.cell? ⟨gb224, 1, none⟩ = some (.int .i64 0) := bc_ BK224.out 1; have hfz12_0 := blk_frozen BK224.out 0; have hfz12_1 := blk_frozen BK224.out 1))
  (try simp only [Act.put, List.setIfInBounds_toArray, List.set_cons_zero, List.set_cons_succ])
  go_cut [34] (fun v34 wc => ∃ (kq : Nat) (x34_8 : Bool), v34 = .bool x34_8 ∧ Aside0 (impl_isWay.j1 kq a1 a2 x7_1 l0_2 (l0_2.length : Int) x13_1 x34_8 a0_0 a0_1 l0_2 a0_3 l0_4 ((rd_T103 l0_2 x13_1).f0) ((rd_T103 l0_2 x13_1).f1) = some r) ∧ Aside0 (kq ≤ k1) ∧ Aside0 (wc.heap[gb222]? = some (.cells #[.int .i64 a0_0, .int .i64 a0_1, (.slice (some ad223) l0_2.length c0_2), .bool a0_3, (.slice A0_4 l0_4.length c0_4)] 95 (0, 0))) ∧ Aside0 (wc.heap[gb224]? = some (.cells #[.bool ((rd_T103 l0_2 x13_1).f0), .int .i64 ((rd_T103 l0_2 x13_1).f1)] 103 (0, 0))) ∧ Aside0 (Below w.heap.size w wc))
  case first =>
   have H := HC9.out
   clear HC9
   obtain ⟨bq13, hbq13⟩ : ∃ b_ : Bool, b_ = ((rd_T103 l0_2 x13_1).f0) := ⟨_, rfl⟩
   replace H : (if bq13 = true then (if ((rd_T103 l0_2 x13_1).f1) = 0 then (if (bq13 = true) then (impl_isWay.j1 k1 a1 a2 x7_1 l0_2 (l0_2.length : Int) x13_1 false a0_0 a0_1 l0_2 a0_3 l0_4 bq13 ((rd_T103 l0_2 x13_1).f1)) else ((impl_in.f ((rd_T103 l0_2 x13_1).f1) 1 1000000).bind fun t225 => (impl_isWay.j1 k1 a1 a2 x7_1 l0_2 (l0_2.length : Int) x13_1 (!t225) a0_0 a0_1 l0_2 a0_3 l0_4 bq13 ((rd_T103 l0_2 x13_1).f1)))) else (impl_isWay.j1 k1 a1 a2 x7_1 l0_2 (l0_2.length : Int) x13_1 true a0_0 a0_1 l0_2 a0_3 l0_4 bq13 ((rd_T103 l0_2 x13_1).f1))) else (if (bq13 = true) then (impl_isWay.j1 k1 a1 a2 x7_1 l0_2 (l0_2.length : Int) x13_1 false a0_0 a0_1 l0_2 a0_3 l0_4 bq13 ((rd_T103 l0_2 x13_1).f1)) else ((impl_in.f ((rd_T103 l0_2 x13_1).f1) 1 1000000).bind fun t226 => (impl_isWay.j1 k1 a1 a2 x7_1 l0_2 (l0_2.length : Int) x13_1 (!t226) a0_0 a0_1 l0_2 a0_3 l0_4 bq13 ((rd_T103 l0_2 x13_1).f1))))) = some r := by rw [← hbq13] at H; exact H
   have Nbq13 := Aside0.mk hbq13
   clear hbq13
   (try rw [← Nbq13.out])
   by_cases c14 : bq13 = true
   rotate_left
   ·replace c14 := Bool.eq_false_iff.mpr c14
    subst c14
    have H1 : (if (false = true) then (impl_isWay.j1 k1 a1 a2 x7_1 l0_2 (l0_2.length : Int) x13_1 false a0_0 a0_1 l0_2 a0_3 l0_4 false ((rd_T103 l0_2 x13_1).f1)) else ((impl_in.f ((rd_T103 l0_2 x13_1).f1) 1 1000000).bind fun t226 => (impl_isWay.j1 k1 a1 a2 x7_1 l0_2 (l0_2.length : Int) x13_1 (!t226) a0_0 a0_1 l0_2 a0_3 l0_4 false ((rd_T103 l0_2 x13_1).f1)))) = some r := by rw [if_neg (show ¬ (false = true) by decide)] at H; exact H
    clear H
    have H := H1
    clear H1
    have H1 : ((impl_in.f ((rd_T103 l0_2 x13_1).f1) 1 1000000).bind fun t226 => (impl_isWay.j1 k1 a1 a2 x7_1 l0_2 (l0_2.length : Int) x13_1 (!t226) a0_0 a0_1 l0_2 a0_3 l0_4 false ((rd_T103 l0_2 x13_1).f1))) = some r := by rw [if_neg (show ¬ (false = true) by decide)] at H; exact H
    clear H
    have H := H1
    clear H1
    replace H := Option.bind_eq_some_iff.mp H
    obtain ⟨t226, A270, H⟩ := H
    replace H : (impl_isWay.j1 k1 a1 a2 x7_1 l0_2 (l0_2.length : Int) x13_1 (!t226) a0_0 a0_1 l0_2 a0_3 l0_4 false ((rd_T103 l0_2 x13_1).f1)) = some r := H
    have A27 := Aside0.mk A270
    clear A270
    have H' := Aside0.mk H
    clear H
    have hnb28 := NB224_222.out
    have hnc28 := NB222_224.out
    have hcz29_0 : w10.cell? ⟨gb224, 0, none⟩ = some (.bool false) := bc_ BK224.out 0
    have hcz29_1 : w10.cell? ⟨gb224, 1, none⟩ = some (.int .i64 0) := bc_ BK224.out 1
    have hfz29_0 := blk_frozen BK224.out 0
    have hfz29_1 := blk_frozen BK224.out 1
    go_wp2_with (first | (go_at_call 45; (with_reducible refine (impl_in.calls ((rd_T103 l0_2 x13_1).f1) 1 1000000 t226 _ A27.out).mono ?_); rintro e w' ⟨rfl, ⟨nd, rfl⟩⟩))
    go_meet
    case rel => exact ⟨_, (!t226), (by first | rfl | (simp; done) | (simp [*]; done)), (by first | exact H' | (rw [← Nbq13.out]; exact H')), ⟨by have := HK1.out; first | omega | exact Nat.le_refl _⟩, ⟨kz_⟩, ⟨by (with_reducible repeat (first | refine blk_drewN ?_ _ | refine blk_drew ?_ | refine blk_alloc ?_ _)); refine blk_put (cs := #[.bool (false), .int .i64 0]) ?_ 1 _ (by first | rfl | (rw [← Nbq13.out]; rfl)); (with_reducible repeat (first | refine blk_drewN ?_ _ | refine blk_drew ?_ | refine blk_alloc ?_ _)); refine blk_put (cs := #[.bool false, .int .i64 0]) ?_ 0 _ (by first | rfl | (rw [← Nbq13.out]; rfl)); exact kb_ BK224.out⟩, ⟨bl_⟩⟩
   subst c14
   have H1 : (if ((rd_T103 l0_2 x13_1).f1) = 0 then (if (true = true) then (impl_isWay.j1 k1 a1 a2 x7_1 l0_2 (l0_2.length : Int) x13_1 false a0_0 a0_1 l0_2 a0_3 l0_4 true ((rd_T103 l0_2 x13_1).f1)) else ((impl_in.f ((rd_T103 l0_2 x13_1).f1) 1 1000000).bind fun t225 => (impl_isWay.j1 k1 a1 a2 x7_1 l0_2 (l0_2.length : Int) x13_1 (!t225) a0_0 a0_1 l0_2 a0_3 l0_4 true ((rd_T103 l0_2 x13_1).f1)))) else (impl_isWay.j1 k1 a1 a2 x7_1 l0_2 (l0_2.length : Int) x13_1 true a0_0 a0_1 l0_2 a0_3 l0_4 true ((rd_T103 l0_2 x13_1).f1))) = some r := by rw [if_pos rfl] at H; exact H
   clear H
   have H := H1
   clear H1
   by_cases c15 : ((rd_T103 l0_2 x13_1).f1) = 0
   rotate_left
   ·rw [if_neg c15] at H
    have c15b0 : (((rd_T103 l0_2 x13_1).f1) == 0) = false := beq_eq_false_iff_ne.mpr c15
    have c15b1 : (((rd_T103 l0_2 x13_1).f1) != 0) = true := bne_iff_ne.mpr c15
    have H' := Aside0.mk H
    clear H
    have hnb22 := NB224_222.out
    have hnc22 := NB222_224.out
    have hcz23_0 : w10.cell? ⟨gb224, 0, none⟩ = some (.bool false) := bc_ BK224.out 0
    have hcz23_1 : w10.cell? ⟨gb224, 1, none⟩ = some (.int .i64 0) := bc_ BK224.out 1
    have hfz23_0 := blk_frozen BK224.out 0
    have hfz23_1 := blk_frozen BK224.out 1
    go_wp2
    go_meet
    case rel => exact ⟨_, (true), (by first | rfl | (simp; done) | (simp [*]; done)), (by first | exact H' | (rw [← Nbq13.out]; exact H')), ⟨by have := HK1.out; first | omega | exact Nat.le_refl _⟩, ⟨kz_⟩, ⟨by (with_reducible repeat (first | refine blk_drewN ?_ _ | refine blk_drew ?_ | refine blk_alloc ?_ _)); refine blk_put (cs := #[.bool (true), .int .i64 0]) ?_ 1 _ (by first | rfl | (rw [← Nbq13.out]; rfl)); (with_reducible repeat (first | refine blk_drewN ?_ _ | refine blk_drew ?_ | refine blk_alloc ?_ _)); refine blk_put (cs := #[.bool false, .int .i64 0]) ?_ 0 _ (by first | rfl | (rw [← Nbq13.out]; rfl)); exact kb_ BK224.out⟩, ⟨bl_⟩⟩
   rw [if_pos c15] at H
   have c15b0 : (((rd_T103 l0_2 x13_1).f1) == 0) = true := beq_iff_eq.mpr c15
   have c15b1 : (((rd_T103 l0_2 x13_1).f1) != 0) = false := bne_eq_false_iff_eq.mpr c15
   clear c15
   have H1 : (impl_isWay.j1 k1 a1 a2 x7_1 l0_2 (l0_2.length : Int) x13_1 false a0_0 a0_1 l0_2 a0_3 l0_4 true ((rd_T103 l0_2 x13_1).f1)) = some r := by rw [if_pos rfl] at H; exact H
   clear H
   have H := H1
   clear H1
   have H' := Aside0.mk H
   clear H
   have hnb17 := NB224_222.out
   have hnc17 := NB222_224.out
   have hcz18_0 : w10.cell? ⟨gb224, 0, none⟩ = some (.bool false) := bc_ BK224.out 0
   have hcz18_1 : w10.cell? ⟨gb224, 1, none⟩ = some (.int .i64 0) := bc_ BK224.out 1
   have hfz18_0 := blk_frozen BK224.out 0
   have hfz18_1 := blk_frozen BK224.out 1
   go_wp2
   go_meet
   case rel => exact ⟨_, (false), (by first | rfl | (simp; done) | (simp [*]; done)), (by first | exact H' | (rw [← Nbq13.out]; exact H')), ⟨by have := HK1.out; first | omega | exact Nat.le_refl _⟩, ⟨kz_⟩, ⟨by (with_reducible repeat (first | refine blk_drewN ?_ _ | refine blk_drew ?_ | refine blk_alloc ?_ _)); refine blk_put (cs := #[.bool (true), .int .i64 0]) ?_ 1 _ (by first | rfl | (rw [← Nbq13.out]; rfl)); (with_reducible repeat (first | refine blk_drewN ?_ _ | refine blk_drew ?_ | refine blk_alloc ?_ _)); refine blk_put (cs := #[.bool false, .int .i64 0]) ?_ 0 _ (by first | rfl | (rw [← Nbq13.out]; rfl)); exact kb_ BK224.out⟩, ⟨bl_⟩⟩
  clear HC9
  try clear c1
  try clear q1
  try clear c2
  try clear p2
  try clear q2
  try clear hx2
  try clear c6
  try clear c6b0
  try clear c7
  try clear c7b0
  try clear c8
  try clear c8b0
  try clear c9
  try clear c11
  try clear q13
  try clear c14
  try clear c15
  try clear c15b0
  try clear c15b1
  try clear c16
  try clear c17
  try clear c20
  try clear c22
  try clear p22
  try clear q22
  try clear hx22
  try clear c24
  try clear c25
  try clear c28
  try clear hcz12_0
  try clear hcz12_1
  try clear hcz18_0
  try clear hcz18_1
  try clear hcz21_0
  try clear hcz21_1
  try clear hcz23_0
  try clear hcz23_1
  try clear hcz26_0
  try clear hcz26_1
  try clear hcz29_0
  try clear hcz29_1
  try clear hcz5_0
  try clear hcz5_1
  try clear hcz5_2
  try clear hcz5_3
  try clear hcz5_4
  try clear hfz12_0
  try clear hfz12_1
  try clear hfz18_0
  try clear hfz18_1
  try clear hfz21_0
  try clear hfz21_1
  try clear hfz23_0
  try clear hfz23_1
  try clear hfz26_0
  try clear hfz26_1
  try clear hfz29_0
  try clear hfz29_1
  try clear hfz5_0
  try clear hfz5_1
  try clear hfz5_2
  try clear hfz5_3
  try clear hfz5_4
  try clear hx223_0
  try clear hx223_1
  try clear p2
  try clear p223
  try clear q223
  obtain ⟨kq, x34_8, rfl, HA, HJ8, BK222, BK224, HB⟩ := hcut
  cases kq with
  | zero => exact absurd HA.out (by simp [impl_isWay.j1])
  | succ kj8 => ?_
  have H := HA.out
  clear HA
  simp only [impl_isWay.j1] at H
  by_cases c30 : x34_8 = true
  ·subst c30
   have H1 : (some false) = some r := by rw [if_pos rfl] at H; exact H
   clear H
   have H := H1
   clear H1
   obtain rfl := Option.some.inj H
   go_wp2
   go_ret
   exact ⟨ng_, bl_⟩
  replace c30 := Bool.eq_false_iff.mpr c30
  subst c30
  have H1 : (if ((rd_T103 l0_2 x13_1).f0) = true then (impl_isWay.l0 kj8 a1 a2 (wrap64 (x7_1 + 1)) l0_2 (l0_2.length : Int) (wrap64 (x13_1 + 1)) a0_0 a0_1 l0_2 a0_3 l0_4) else (impl_isWay.l0 kj8 a1 a2 x7_1 l0_2 (l0_2.length : Int) (wrap64 (x13_1 + 1)) a0_0 a0_1 l0_2 a0_3 l0_4)) = some r := by rw [if_neg (show ¬ (false = true) by decide)] at H; exact H
  clear H
  have H := H1
  clear H1
  by_cases c31 : ((rd_T103 l0_2 x13_1).f0) = true
  ·rw [if_pos c31] at H
   have c31b0 : ((rd_T103 l0_2 x13_1).f0) = true := c31
   clear c31
   have H' := Aside0.mk H
   clear H
   have hnb32 := NB224_222.out
   have hnc32 := NB222_224.out
   have hcz33_0 : wc.cell? ⟨gb224, 0, none⟩ = some (.bool ((rd_T103 l0_2 x13_1).f0)) := bc_ BK224.out 0
   have hcz33_1 : wc.cell? ⟨gb224, 1, none⟩ = some (.int .i64 ((rd_T103 l0_2 x13_1).f1)) := bc_ BK224.out 1
   have hfz33_0 := blk_frozen BK224.out 0
   have hfz33_1 := blk_frozen BK224.out 1
   go_wp2
   go_roundg kj8
   case measure => have := HK1.out; have := HJ8.out; omega
   case rel => exact ⟨(wrap64 (x7_1 + 1)), (wrap64 (x13_1 + 1)), (by first | rfl | (simp; done) | (simp [*]; done)), (by first | rfl | (simp; done) | (simp [*]; done)), H', ⟨by have := HK1.out; have := HJ8.out; omega⟩, ⟨by exact kb_ BK222.out⟩, ⟨bl_⟩⟩
  rw [if_neg c31] at H
  have c31b0 : ((rd_T103 l0_2 x13_1).f0) = false := by simpa using c31
  clear c31
  have H' := Aside0.mk H
  clear H
  have hnb34 := NB224_222.out
  have hnc34 := NB222_224.out
  have hcz35_0 : wc.cell? ⟨gb224, 0, none⟩ = some (.bool ((rd_T103 l0_2 x13_1).f0)) := bc_ BK224.out 0
  have hcz35_1 : wc.cell? ⟨gb224, 1, none⟩ = some (.int .i64 ((rd_T103 l0_2 x13_1).f1)) := bc_ BK224.out 1
  have hfz35_0 := blk_frozen BK224.out 0
  have hfz35_1 := blk_frozen BK224.out 1
  go_wp2
  go_roundg kj8
  case measure => have := HK1.out; have := HJ8.out; omega
  case rel => exact ⟨(x7_1), (wrap64 (x13_1 + 1)), (by first | rfl | (simp; done) | (simp [*]; done)), (by first | rfl | (simp; done) | (simp [*]; done)), H', ⟨by have := HK1.out; have := HJ8.out; omega⟩, ⟨by exact kb_ BK222.out⟩, ⟨bl_⟩⟩
 rw [if_neg c6] at H
 have c6b0 : decide (x13_1 < (l0_2.length : Int)) = false := decide_eq_false c6
 clear c6
 have HC36 := Aside0.mk H
 clear H
 go_upto_region 10 with (fail)
 go_cut [66] (fun v66 wc => ∃ (kq : Nat) (x66_35 : Bool), v66 = .bool x66_35 ∧ Aside0 (impl_isWay.j2 kq a1 a2 x7_1 x66_35 a0_0 a0_1 l0_2 a0_3 l0_4 = some r) ∧ Aside0 (kq ≤ k1) ∧ Aside0 (wc.heap[gb222]? = some (.cells #[.int .i64 a0_0, .int .i64 a0_1, (.slice A0_2 l0_2.length c0_2), .bool a0_3, (.slice A0_4 l0_4.length c0_4)] 95 (0, 0))) ∧ Aside0 (Below w.heap.size w wc))
 case first =>
  have H := HC36.out
  clear HC36
  by_cases c37 : (l0_2.length : Int) > 20
  ·rw [if_pos c37] at H
   have c37b0 : decide (20 < (l0_2.length : Int)) = true := decide_eq_true c37
   have c37b1 : decide (20 < l0_2.length) = true := decide_eq_true (by omega)
   clear c37
   (first | rw [c37b0] | (simp only [i64_w, i32_w]; rw [c37b0]) | skip)
   have H' := Aside0.mk H
   clear H
   have hcz38_0 : wr.cell? ⟨gb222, 0, none⟩ = some (.int .i64 a0_0) := bc_ BK222.out 0
   have hcz38_1 : wr.cell? ⟨gb222, 1, none⟩ = some (.int .i64 a0_1) := bc_ BK222.out 1
   have hcz38_2 : wr.cell? ⟨gb222, 2, none⟩ = some (.slice A0_2 l0_2.length c0_2) := bc_ BK222.out 2
   have hcz38_3 : wr.cell? ⟨gb222, 3, none⟩ = some (.bool a0_3) := bc_ BK222.out 3
   have hcz38_4 : wr.cell? ⟨gb222, 4, none⟩ = some (.slice A0_4 l0_4.length c0_4) := bc_ BK222.out 4
   have hfz38_0 := blk_frozen BK222.out 0
   have hfz38_1 := blk_frozen BK222.out 1
   have hfz38_2 := blk_frozen BK222.out 2
   have hfz38_3 := blk_frozen BK222.out 3
   have hfz38_4 := blk_frozen BK222.out 4
   go_wp2
   go_meet
   case rel => exact ⟨_, (true), (by first | rfl | (simp; done) | (simp [*]; done)), H', ⟨by have := HK1.out; first | omega | exact Nat.le_refl _⟩, ⟨by exact kb_ BK222.out⟩, ⟨bl_⟩⟩
  rw [if_neg c37] at H
  have c37b0 : decide (20 < (l0_2.length : Int)) = false := decide_eq_false c37
  have c37b1 : decide (20 < l0_2.length) = false := decide_eq_false (by omega)
  clear c37
  (first | rw [c37b0] | (simp only [i64_w, i32_w]; rw [c37b0]) | skip)
  by_cases c39 : x7_1 > 1
  ·rw [if_pos c39] at H
   have c39b0 : decide (1 < x7_1) = true := decide_eq_true c39
   clear c39
   have H' := Aside0.mk H
   clear H
   have hcz40_0 : wr.cell? ⟨gb222, 0, none⟩ = some (.int .i64 a0_0) := bc_ BK222.out 0
   have hcz40_1 : wr.cell? ⟨gb222, 1, none⟩ = some (.int .i64 a0_1) := bc_ BK222.out 1
   have hcz40_2 : wr.cell? ⟨gb222, 2, none⟩ = some (.slice A0_2 l0_2.length c0_2) := bc_ BK222.out 2
   have hcz40_3 : wr.cell? ⟨gb222, 3, none⟩ = some (.bool a0_3) := bc_ BK222.out 3
   have hcz40_4 : wr.cell? ⟨gb222, 4, none⟩ = some (.slice A0_4 l0_4.length c0_4) := bc_ BK222.out 4
   have hfz40_0 := blk_frozen BK222.out 0
   have hfz40_1 := blk_frozen BK222.out 1
   have hfz40_2 := blk_frozen BK222.out 2
   have hfz40_3 := blk_frozen BK222.out 3
   have hfz40_4 := blk_frozen BK222.out 4
   go_wp2
   go_meet
   case rel => exact ⟨_, (true), (by first | rfl | (simp; done) | (simp [*]; done)), H', ⟨by have := HK1.out; first | omega | exact Nat.le_refl _⟩, ⟨by exact kb_ BK222.out⟩, ⟨bl_⟩⟩
  rw [if_neg c39] at H
  have c39b0 : decide (1 < x7_1) = false := decide_eq_false c39
  clear c39
  by_cases c41 : x7_1 > 0
  rotate_left
  ·rw [if_neg c41] at H
   have c41b0 : decide (0 < x7_1) = false := decide_eq_false c41
   clear c41
   by_cases c48 : (l0_4.length : Int) > 200
   ·rw [if_pos c48] at H
    have c48b0 : decide (200 < (l0_4.length : Int)) = true := decide_eq_true c48
    have c48b1 : decide (200 < l0_4.length) = true := decide_eq_true (by omega)
    clear c48
    have H' := Aside0.mk H
    clear H
    have hcz49_0 : wr.cell? ⟨gb222, 0, none⟩ = some (.int .i64 a0_0) := bc_ BK222.out 0
    have hcz49_1 : wr.cell? ⟨gb222, 1, none⟩ = some (.int .i64 a0_1) := bc_ BK222.out 1
    have hcz49_2 : wr.cell? ⟨gb222, 2, none⟩ = some (.slice A0_2 l0_2.length c0_2) := bc_ BK222.out 2
    have hcz49_3 : wr.cell? ⟨gb222, 3, none⟩ = some (.bool a0_3) := bc_ BK222.out 3
    have hcz49_4 : wr.cell? ⟨gb222, 4, none⟩ = some (.slice A0_4 l0_4.length c0_4) := bc_ BK222.out 4
    have hfz49_0 := blk_frozen BK222.out 0
    have hfz49_1 := blk_frozen BK222.out 1
    have hfz49_2 := blk_frozen BK222.out 2
    have hfz49_3 := blk_frozen BK222.out 3
    have hfz49_4 := blk_frozen BK222.out 4
    go_wp2
    go_meet
    case rel => exact ⟨_, (true), (by first | rfl | (simp; done) | (simp [*]; done)), H', ⟨by have := HK1.out; first | omega | exact Nat.le_refl _⟩, ⟨by exact kb_ BK222.out⟩, ⟨bl_⟩⟩
   rw [if_neg c48] at H
   have c48b0 : decide (200 < (l0_4.length : Int)) = false := decide_eq_false c48
   have c48b1 : decide (200 < l0_4.length) = false := decide_eq_false (by omega)
   clear c48
   replace H := Option.bind_eq_some_iff.mp H
   obtain ⟨t228, A500, H⟩ := H
   replace H : (impl_isWay.j2 k1 a1 a2 x7_1 t228 a0_0 a0_1 l0_2 a0_3 l0_4) = some r := H
   have A50 := Aside0.mk A500
   clear A500
   have H' := Aside0.mk H
   clear H
   have hcz51_0 : wr.cell? ⟨gb222, 0, none⟩ = some (.int .i64 a0_0) := bc_ BK222.out 0
   have hcz51_1 : wr.cell? ⟨gb222, 1, none⟩ = some (.int .i64 a0_1) := bc_ BK222.out 1
   have hcz51_2 : wr.cell? ⟨gb222, 2, none⟩ = some (.slice A0_2 l0_2.length c0_2) := bc_ BK222.out 2
   have hcz51_3 : wr.cell? ⟨gb222, 3, none⟩ = some (.bool a0_3) := bc_ BK222.out 3
   have hcz51_4 : wr.cell? ⟨gb222, 4, none⟩ = some (.slice A0_4 l0_4.length c0_4) := bc_ BK222.out 4
   have hfz51_0 := blk_frozen BK222.out 0
   have hfz51_1 := blk_frozen BK222.out 1
   have hfz51_2 := blk_frozen BK222.out 2
   have hfz51_3 := blk_frozen BK222.out 3
   have hfz51_4 := blk_frozen BK222.out 4
   go_wp2_with (first | (go_at_call 107; (with_reducible refine (has_impl_isWay_1.calls _ _ l0_4  t228 _ ?side1 ?side2 A50.out).mono ?_); (case side1 => exact kc_ (Kd.C_below HR0_4.out HB.out)); (case side2 => exact HC0_4.out); rintro e w' ⟨rfl, ⟨nd, rfl⟩⟩))
   go_meet
   case rel => exact ⟨_, (t228), (by first | rfl | (simp; done) | (simp [*]; done)), H', ⟨by have := HK1.out; first | omega | exact Nat.le_refl _⟩, ⟨by exact kb_ BK222.out⟩, ⟨bl_⟩⟩
  rw [if_pos c41] at H
  have c41b0 : decide (0 < x7_1) = true := decide_eq_true c41
  clear c41
  by_cases c42 : a1 = true
  rotate_left
  ·replace c42 := Bool.eq_false_iff.mpr c42
   subst c42
   have H1 : (impl_isWay.j2 k1 false a2 x7_1 true a0_0 a0_1 l0_2 a0_3 l0_4) = some r := by rw [if_neg (show ¬ (false = true) by decide)] at H; exact H
   clear H
   have H := H1
   clear H1
   have H' := Aside0.mk H
   clear H
   have hcz47_0 : wr.cell? ⟨gb222, 0, none⟩ = some (.int .i64 a0_0) := bc_ BK222.out 0
   have hcz47_1 : wr.cell? ⟨gb222, 1, none⟩ = some (.int .i64 a0_1) := bc_ BK222.out 1
   have hcz47_2 : wr.cell? ⟨gb222, 2, none⟩ = some (.slice A0_2 l0_2.length c0_2) := bc_ BK222.out 2
   have hcz47_3 : wr.cell? ⟨gb222, 3, none⟩ = some (.bool a0_3) := bc_ BK222.out 3
   have hcz47_4 : wr.cell? ⟨gb222, 4, none⟩ = some (.slice A0_4 l0_4.length c0_4) := bc_ BK222.out 4
   have hfz47_0 := blk_frozen BK222.out 0
   have hfz47_1 := blk_frozen BK222.out 1
   have hfz47_2 := blk_frozen BK222.out 2
   have hfz47_3 := blk_frozen BK222.out 3
   have hfz47_4 := blk_frozen BK222.out 4
   go_wp2
   go_meet
   case rel => exact ⟨_, (true), (by first | rfl | (simp; done) | (simp [*]; done)), H', ⟨by have := HK1.out; first | omega | exact Nat.le_refl _⟩, ⟨by exact kb_ BK222.out⟩, ⟨bl_⟩⟩
  subst c42
  have H1 : (if (l0_4.length : Int) > 200 then (impl_isWay.j2 k1 true a2 x7_1 true a0_0 a0_1 l0_2 a0_3 l0_4) else ((has_impl_isWay_1.f l0_4).bind fun t227 => (impl_isWay.j2 k1 true a2 x7_1 t227 a0_0 a0_1 l0_2 a0_3 l0_4))) = some r := by rw [if_pos rfl] at H; exact H
  clear H
  have H := H1
  clear H1
  by_cases c43 : (l0_4.length : Int) > 200
  ·rw [if_pos c43] at H
   have c43b0 : decide (200 < (l0_4.length : Int)) = true := decide_eq_true c43
   have c43b1 : decide (200 < l0_4.length) = true := decide_eq_true (by omega)
   clear c43
   have H' := Aside0.mk H
   clear H
   have hcz44_0 : wr.cell? ⟨gb222, 0, none⟩ = some (.int .i64 a0_0) := bc_ BK222.out 0
   have hcz44_1 : wr.cell? ⟨gb222, 1, none⟩ = some (.int .i64 a0_1) := bc_ BK222.out 1
   have hcz44_2 : wr.cell? ⟨gb222, 2, none⟩ = some (.slice A0_2 l0_2.length c0_2) := bc_ BK222.out 2
   have hcz44_3 : wr.cell? ⟨gb222, 3, none⟩ = some (.bool a0_3) := bc_ BK222.out 3
   have hcz44_4 : wr.cell? ⟨gb222, 4, none⟩ = some (.slice A0_4 l0_4.length c0_4) := bc_ BK222.out 4
   have hfz44_0 := blk_frozen BK222.out 0
   have hfz44_1 := blk_frozen BK222.out 1
   have hfz44_2 := blk_frozen BK222.out 2
   have hfz44_3 := blk_frozen BK222.out 3
   have hfz44_4 := blk_frozen BK222.out 4
   go_wp2
   go_meet
   case rel => exact ⟨_, (true), (by first | rfl | (simp; done) | (simp [*]; done)), H', ⟨by have := HK1.out; first | omega | exact Nat.le_refl _⟩, ⟨by exact kb_ BK222.out⟩, ⟨bl_⟩⟩
  rw [if_neg c43] at H
  have c43b0 : decide (200 < (l0_4.length : Int)) = false := decide_eq_false c43
  have c43b1 : decide (200 < l0_4.length) = false := decide_eq_false (by omega)
  clear c43
  replace H := Option.bind_eq_some_iff.mp H
  obtain ⟨t227, A450, H⟩ := H
  replace H : (impl_isWay.j2 k1 true a2 x7_1 t227 a0_0 a0_1 l0_2 a0_3 l0_4) = some r := H
  have A45 := Aside0.mk A450
  clear A450
  have H' := Aside0.mk H
  clear H
  have hcz46_0 : wr.cell? ⟨gb222, 0, none⟩ = some (.int .i64 a0_0) := bc_ BK222.out 0
  have hcz46_1 : wr.cell? ⟨gb222, 1, none⟩ = some (.int .i64 a0_1) := bc_ BK222.out 1
  have hcz46_2 : wr.cell? ⟨gb222, 2, none⟩ = some (.slice A0_2 l0_2.length c0_2) := bc_ BK222.out 2
  have hcz46_3 : wr.cell? ⟨gb222, 3, none⟩ = some (.bool a0_3) := bc_ BK222.out 3
  have hcz46_4 : wr.cell? ⟨gb222, 4, none⟩ = some (.slice A0_4 l0_4.length c0_4) := bc_ BK222.out 4
  have hfz46_0 := blk_frozen BK222.out 0
  have hfz46_1 := blk_frozen BK222.out 1
  have hfz46_2 := blk_frozen BK222.out 2
  have hfz46_3 := blk_frozen BK222.out 3
  have hfz46_4 := blk_frozen BK222.out 4
  go_wp2_with (first | (go_at_call 107; (with_reducible refine (has_impl_isWay_1.calls _ _ l0_4  t227 _ ?side1 ?side2 A45.out).mono ?_); (case side1 => exact kc_ (Kd.C_below HR0_4.out HB.out)); (case side2 => exact HC0_4.out); rintro e w' ⟨rfl, ⟨nd, rfl⟩⟩))
  go_meet
  case rel => exact ⟨_, (t227), (by first | rfl | (simp; done) | (simp [*]; done)), H', ⟨by have := HK1.out; first | omega | exact Nat.le_refl _⟩, ⟨by exact kb_ BK222.out⟩, ⟨bl_⟩⟩
 clear HC36
 try clear c1
 try clear q1
 try clear c2
 try clear p2
 try clear q2
 try clear hx2
 try clear c3
 try clear c4
 try clear c6
 try clear c6b0
 try clear p6
 try clear c7
 try clear c7b0
 try clear c8
 try clear c8b0
 try clear c9
 try clear c11
 try clear q13
 try clear c14
 try clear c15
 try clear c15b0
 try clear c15b1
 try clear c16
 try clear c17
 try clear c20
 try clear c22
 try clear p22
 try clear q22
 try clear hx22
 try clear c24
 try clear c25
 try clear c28
 try clear c30
 try clear c31
 try clear c31b0
 try clear c32
 try clear c34
 try clear c37
 try clear c37b0
 try clear c37b1
 try clear c39
 try clear c39b0
 try clear c41
 try clear c41b0
 try clear c42
 try clear c43
 try clear c43b0
 try clear c43b1
 try clear c48
 try clear c48b0
 try clear c48b1
 try clear hcz12_0
 try clear hcz12_1
 try clear hcz18_0
 try clear hcz18_1
 try clear hcz21_0
 try clear hcz21_1
 try clear hcz23_0
 try clear hcz23_1
 try clear hcz26_0
 try clear hcz26_1
 try clear hcz29_0
 try clear hcz29_1
 try clear hcz33_0
 try clear hcz33_1
 try clear hcz35_0
 try clear hcz35_1
 try clear hcz38_0
 try clear hcz38_1
 try clear hcz38_2
 try clear hcz38_3
 try clear hcz38_4
 try clear hcz40_0
 try clear hcz40_1
 try clear hcz40_2
 try clear hcz40_3
 try clear hcz40_4
 try clear hcz44_0
 try clear hcz44_1
 try clear hcz44_2
 try clear hcz44_3
 try clear hcz44_4
 try clear hcz46_0
 try clear hcz46_1
 try clear hcz46_2
 try clear hcz46_3
 try clear hcz46_4
 try clear hcz47_0
 try clear hcz47_1
 try clear hcz47_2
 try clear hcz47_3
 try clear hcz47_4
 try clear hcz49_0
 try clear hcz49_1
 try clear hcz49_2
 try clear hcz49_3
 try clear hcz49_4
 try clear hcz51_0
 try clear hcz51_1
 try clear hcz51_2
 try clear hcz51_3
 try clear hcz51_4
 try clear hcz5_0
 try clear hcz5_1
 try clear hcz5_2
 try clear hcz5_3
 try clear hcz5_4
 try clear hfz12_0
 try clear hfz12_1
 try clear hfz18_0
 try clear hfz18_1
 try clear hfz21_0
 try clear hfz21_1
 try clear hfz23_0
 try clear hfz23_1
 try clear hfz26_0
 try clear hfz26_1
 try clear hfz29_0
 try clear hfz29_1
 try clear hfz33_0
 try clear hfz33_1
 try clear hfz35_0
 try clear hfz35_1
 try clear hfz38_0
 try clear hfz38_1
 try clear hfz38_2
 try clear hfz38_3
 try clear hfz38_4
 try clear hfz40_0
 try clear hfz40_1
 try clear hfz40_2
 try clear hfz40_3
 try clear hfz40_4
 try clear hfz44_0
 try clear hfz44_1
 try clear hfz44_2
 try clear hfz44_3
 try clear hfz44_4
 try clear hfz46_0
 try clear hfz46_1
 try clear hfz46_2
 try clear hfz46_3
 try clear hfz46_4
 try clear hfz47_0
 try clear hfz47_1
 try clear hfz47_2
 try clear hfz47_3
 try clear hfz47_4
 try clear hfz49_0
 try clear hfz49_1
 try clear hfz49_2
 try clear hfz49_3
 try clear hfz49_4
 try clear hfz51_0
 try clear hfz51_1
 try clear hfz51_2
 try clear hfz51_3
 try clear hfz51_4
 try clear hfz5_0
 try clear hfz5_1
 try clear hfz5_2
 try clear hfz5_3
 try clear hfz5_4
 try clear hx223_0
 try clear hx223_1
 try clear p2
 try clear p22
 try clear p223
 try clear q1
 try clear q13
 try clear q2
 try clear q22
 try clear q223
 obtain ⟨kq, x66_35, rfl, HA, HJ35, BK222, HB⟩ := hcut
 cases kq with
 | zero => exact absurd HA.out (by simp [impl_isWay.j2])
 | succ kj35 => ?_
 have H := HA.out
 clear HA
 simp only [impl_isWay.j2] at H
 by_cases c52 : x66_35 = true
 ·subst c52
  have H1 : (some false) = some r := by rw [if_pos rfl] at H; exact H
  clear H
  have H := H1
  clear H1
  obtain rfl := Option.some.inj H
  go_wp2
  go_ret
  exact ⟨ng_, bl_⟩
 replace c52 := Bool.eq_false_iff.mpr c52
 subst c52
 have H1 : (if a2 = true then (if a1 = true then (some (a0_3 == (x7_1 == 1))) else (some (a0_3 == true))) else (if a0_3 = true then (some false) else (if (l0_4.length : Int) = 0 then (if a1 = true then (some (x7_1 == 1)) else (some true)) else (some false)))) = some r := by rw [if_neg (show ¬ (false = true) by decide)] at H; exact H
 clear H
 have H := H1
 clear H1
 by_cases c53 : a2 = true
 ·subst c53
  have H1 : (if a1 = true then (some (a0_3 == (x7_1 == 1))) else (some (a0_3 == true))) = some r := by rw [if_pos rfl] at H; exact H
  clear H
  have H := H1
  clear H1
  by_cases c54 : a1 = true
  ·subst c54
   have H1 : (some (a0_3 == (x7_1 == 1))) = some r := by rw [if_pos rfl] at H; exact H
   clear H
   have H := H1
   clear H1
   obtain rfl := Option.some.inj H
   have hcz55_0 : wc.cell? ⟨gb222, 0, none⟩ = some (.int .i64 a0_0) := bc_ BK222.out 0
   have hcz55_1 : wc.cell? ⟨gb222, 1, none⟩ = some (.int .i64 a0_1) := bc_ BK222.out 1
   have hcz55_2 : wc.cell? ⟨gb222, 2, none⟩ = some (.slice A0_2 l0_2.length c0_2) := bc_ BK222.out 2
   have hcz55_3 : wc.cell? ⟨gb222, 3, none⟩ = some (.bool a0_3) := bc_ BK222.out 3
   have hcz55_4 : wc.cell? ⟨gb222, 4, none⟩ = some (.slice A0_4 l0_4.length c0_4) := bc_ BK222.out 4
   have hfz55_0 := blk_frozen BK222.out 0
   have hfz55_1 := blk_frozen BK222.out 1
   have hfz55_2 := blk_frozen BK222.out 2
   have hfz55_3 := blk_frozen BK222.out 3
   have hfz55_4 := blk_frozen BK222.out 4
   go_wp2
   go_ret
   exact ⟨ng_, bl_⟩
  replace c54 := Bool.eq_false_iff.mpr c54
  subst c54
  have H1 : (some (a0_3 == true)) = some r := by rw [if_neg (show ¬ (false = true) by decide)] at H; exact H
  clear H
  have H := H1
  clear H1
  obtain rfl := Option.some.inj H
  have hcz56_0 : wc.cell? ⟨gb222, 0, none⟩ = some (.int .i64 a0_0) := bc_ BK222.out 0
  have hcz56_1 : wc.cell? ⟨gb222, 1, none⟩ = some (.int .i64 a0_1) := bc_ BK222.out 1
  have hcz56_2 : wc.cell? ⟨gb222, 2, none⟩ = some (.slice A0_2 l0_2.length c0_2) := bc_ BK222.out 2
  have hcz56_3 : wc.cell? ⟨gb222, 3, none⟩ = some (.bool a0_3) := bc_ BK222.out 3
  have hcz56_4 : wc.cell? ⟨gb222, 4, none⟩ = some (.slice A0_4 l0_4.length c0_4) := bc_ BK222.out 4
  have hfz56_0 := blk_frozen BK222.out 0
  have hfz56_1 := blk_frozen BK222.out 1
  have hfz56_2 := blk_frozen BK222.out 2
  have hfz56_3 := blk_frozen BK222.out 3
  have hfz56_4 := blk_frozen BK222.out 4
  go_wp2
  go_ret
  exact ⟨ng_, bl_⟩
 replace c53 := Bool.eq_false_iff.mpr c53
 subst c53
 have H1 : (if a0_3 = true then (some false) else (if (l0_4.length : Int) = 0 then (if a1 = true then (some (x7_1 == 1)) else (some true)) else (some false))) = some r := by rw [if_neg (show ¬ (false = true) by decide)] at H; exact H
 clear H
 have H := H1
 clear H1
 by_cases c57 : a0_3 = true
 ·subst c57
  have H1 : (some false) = some r := by rw [if_pos rfl] at H; exact H
  clear H
  have H := H1
  clear H1
  obtain rfl := Option.some.inj H
  have hcz58_0 : wc.cell? ⟨gb222, 0, none⟩ = some (.int .i64 a0_0) := bc_ BK222.out 0
  have hcz58_1 : wc.cell? ⟨gb222, 1, none⟩ = some (.int .i64 a0_1) := bc_ BK222.out 1
  have hcz58_2 : wc.cell? ⟨gb222, 2, none⟩ = some (.slice A0_2 l0_2.length c0_2) := bc_ BK222.out 2
  have hcz58_3 : wc.cell? ⟨gb222, 3, none⟩ = some (.bool true) := bc_ BK222.out 3
  have hcz58_4 : wc.cell? ⟨gb222, 4, none⟩ = some (.slice A0_4 l0_4.length c0_4) := bc_ BK222.out 4
  have hfz58_0 := blk_frozen BK222.out 0
  have hfz58_1 := blk_frozen BK222.out 1
  have hfz58_2 := blk_frozen BK222.out 2
  have hfz58_3 := blk_frozen BK222.out 3
  have hfz58_4 := blk_frozen BK222.out 4
  go_wp2
  go_ret
  exact ⟨ng_, bl_⟩
 replace c57 := Bool.eq_false_iff.mpr c57
 subst c57
 have H1 : (if (l0_4.length : Int) = 0 then (if a1 = true then (some (x7_1 == 1)) else (some true)) else (some false)) = some r := by rw [if_neg (show ¬ (false = true) by decide)] at H; exact H
 clear H
 have H := H1
 clear H1
 by_cases c59 : (l0_4.length : Int) = 0
 rotate_left
 ·rw [if_neg c59] at H
  have c59b0 : ((l0_4.length : Int) == 0) = false := beq_eq_false_iff_ne.mpr c59
  have c59b1 : ((l0_4.length : Int) != 0) = true := bne_iff_ne.mpr c59
  have c59b2 : ¬ (l0_4 = []) := fun h_ => c59 (by rw [h_]; rfl)
  obtain rfl := Option.some.inj H
  have hcz63_0 : wc.cell? ⟨gb222, 0, none⟩ = some (.int .i64 a0_0) := bc_ BK222.out 0
  have hcz63_1 : wc.cell? ⟨gb222, 1, none⟩ = some (.int .i64 a0_1) := bc_ BK222.out 1
  have hcz63_2 : wc.cell? ⟨gb222, 2, none⟩ = some (.slice A0_2 l0_2.length c0_2) := bc_ BK222.out 2
  have hcz63_3 : wc.cell? ⟨gb222, 3, none⟩ = some (.bool false) := bc_ BK222.out 3
  have hcz63_4 : wc.cell? ⟨gb222, 4, none⟩ = some (.slice A0_4 l0_4.length c0_4) := bc_ BK222.out 4
  have hfz63_0 := blk_frozen BK222.out 0
  have hfz63_1 := blk_frozen BK222.out 1
  have hfz63_2 := blk_frozen BK222.out 2
  have hfz63_3 := blk_frozen BK222.out 3
  have hfz63_4 := blk_frozen BK222.out 4
  go_wp2
  go_ret
  exact ⟨ng_, bl_⟩
 rw [if_pos c59] at H
 have c59b0 : ((l0_4.length : Int) == 0) = true := beq_iff_eq.mpr c59
 have c59b1 : ((l0_4.length : Int) != 0) = false := bne_eq_false_iff_eq.mpr c59
 clear c59
 by_cases c60 : a1 = true
 ·subst c60
  have H1 : (some (x7_1 == 1)) = some r := by rw [if_pos rfl] at H; exact H
  clear H
  have H := H1
  clear H1
  obtain rfl := Option.some.inj H
  have hcz61_0 : wc.cell? ⟨gb222, 0, none⟩ = some (.int .i64 a0_0) := bc_ BK222.out 0
  have hcz61_1 : wc.cell? ⟨gb222, 1, none⟩ = some (.int .i64 a0_1) := bc_ BK222.out 1
  have hcz61_2 : wc.cell? ⟨gb222, 2, none⟩ = some (.slice A0_2 l0_2.length c0_2) := bc_ BK222.out 2
  have hcz61_3 : wc.cell? ⟨gb222, 3, none⟩ = some (.bool false) := bc_ BK222.out 3
  have hcz61_4 : wc.cell? ⟨gb222, 4, none⟩ = some (.slice A0_4 l0_4.length c0_4) := bc_ BK222.out 4
  have hfz61_0 := blk_frozen BK222.out 0
  have hfz61_1 := blk_frozen BK222.out 1
  have hfz61_2 := blk_frozen BK222.out 2
  have hfz61_3 := blk_frozen BK222.out 3
  have hfz61_4 := blk_frozen BK222.out 4
  go_wp2
  go_ret
  exact ⟨ng_, bl_⟩
 replace c60 := Bool.eq_false_iff.mpr c60
 subst c60
 have H1 : (some true) = some r := by rw [if_neg (show ¬ (false = true) by decide)] at H; exact H
 clear H
 have H := H1
 clear H1
 obtain rfl := Option.some.inj H
 have hcz62_0 : wc.cell? ⟨gb222, 0, none⟩ = some (.int .i64 a0_0) := bc_ BK222.out 0
 have hcz62_1 : wc.cell? ⟨gb222, 1, none⟩ = some (.int .i64 a0_1) := bc_ BK222.out 1
 have hcz62_2 : wc.cell? ⟨gb222, 2, none⟩ = some (.slice A0_2 l0_2.length c0_2) := bc_ BK222.out 2
 have hcz62_3 : wc.cell? ⟨gb222, 3, none⟩ = some (.bool false) := bc_ BK222.out 3
 have hcz62_4 : wc.cell? ⟨gb222, 4, none⟩ = some (.slice A0_4 l0_4.length c0_4) := bc_ BK222.out 4
 have hfz62_0 := blk_frozen BK222.out 0
 have hfz62_1 := blk_frozen BK222.out 1
 have hfz62_2 := blk_frozen BK222.out 2
 have hfz62_3 := blk_frozen BK222.out 3
 have hfz62_4 := blk_frozen BK222.out 4
 go_wp2
 go_ret
 exact ⟨ng_, bl_⟩

end Go.Proofs.Ytipfikmbldgliaa.PNX
