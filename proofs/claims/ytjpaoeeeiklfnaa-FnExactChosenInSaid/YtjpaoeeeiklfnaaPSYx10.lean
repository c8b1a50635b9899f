/- What this text proves: the machine calls of these functions return what the plain functions say. Conditions: as each theorem says. Printed by a program of this session out of the translation. -/
import Derived.Test.YtjpaoeeeiklfnaaPSYx0
import Derived.Test.YtjpaoeeeiklfnaaPSYx1
import Derived.Test.YtjpaoeeeiklfnaaPSYx2
import Derived.Test.YtjpaoeeeiklfnaaPSYx3
import Derived.Test.YtjpaoeeeiklfnaaPSYx4
import Derived.Test.YtjpaoeeeiklfnaaPSYx5
import Derived.Test.YtjpaoeeeiklfnaaPSYx6
import Derived.Test.YtjpaoeeeiklfnaaPSYx7
import Derived.Test.YtjpaoeeeiklfnaaPSYx8
import Derived.Test.YtjpaoeeeiklfnaaPSYx9
import Derived.Test.YtjpaoeeeiklfnaaStrSort
namespace Go.Proofs.Ytjpaoeeeiklfnaa.PSY
open Go.RowKit Go.Proofs.YtjpaoeeeiklfnaaW.PrintWords Go.Proofs.YtjpaoeeeiklfnaaW.PrintLast Go.Proofs.YtjpaoeeeiklfnaaW.PrintMore
attribute [local go_sem] max2_int min2_int max_two min_two max_three min_three max_four min_four   -- for this text's walks alone
set_option linter.unusedVariables false
set_option linter.unusedSimpArgs false

/-! ### spec_ChosenIn: function 8 -/
mutual
def spec_ChosenIn.l0 : Nat → List (S57) → List (S54) → Int → Int → List (S70) → List (S54) → Option (List ByteArray × Bool)
 | 0, _, _, _, _, _, _ => none
 | k + 1, x4, x14, x15, x16, x186000, x186001 => if x16 < x15 then (if 0 ≤ x16 then (if x16 < (x14.length : Int) then (if (wrap64 (2 * (((rd_T54 x14 x16).f4).length : Int))) > (x186000.length : Int) then ((spec_l3Cells.f k x4 ((rd_T54 x14 x16).f3) (⟨#[]⟩ : ByteArray)).bind fun t189 => (spec_ChosenIn.l0 k t189 x14 x15 (wrap64 (x16 + 1)) x186000 x186001)) else (spec_ChosenIn.l0 k x4 x14 x15 (wrap64 (x16 + 1)) x186000 x186001)) else (none)) else (none)) else (spec_ChosenIn.l1 k ([] : List ByteArray) x4 (x4.length : Int) 0)
def spec_ChosenIn.l1 : Nat → List ByteArray → List (S57) → Int → Int → Option (List ByteArray × Bool)
 | 0, _, _, _, _ => none
 | k + 1, x5, x34, x35, x36 => if x36 < x35 then (if 0 ≤ x36 then (if x36 < (x34.length : Int) then (if x5.length < 8796093022208 then (spec_ChosenIn.l1 k (x5 ++ [(rd_T57 x34 x36).f0]) x34 x35 (wrap64 (x36 + 1))) else (none)) else (none)) else (none)) else (some (x5, true))
end
def spec_ChosenIn.f (k : Nat) (l0_0 : List (S70)) (l0_1 : List (S54)) : Option (List ByteArray × Bool) := (spec_GoodSynod.f k l0_0 l0_1).bind fun t186 => (if t186 = true then (spec_ChosenIn.l0 k ([] : List (S57)) l0_1 (l0_1.length : Int) 0 l0_0 l0_1) else (some (([] : List ByteArray), false)))
theorem spec_ChosenIn.mono_l : ∀ k, (∀ y0 y1 y2 y3 y4 y5, LeO (spec_ChosenIn.l0 k y0 y1 y2 y3 y4 y5) (spec_ChosenIn.l0 (k + 1) y0 y1 y2 y3 y4 y5)) ∧ (∀ y0 y1 y2 y3, LeO (spec_ChosenIn.l1 k y0 y1 y2 y3) (spec_ChosenIn.l1 (k + 1) y0 y1 y2 y3))
 | 0 => ⟨fun _ _ _ _ _ _ r h => by simp [spec_ChosenIn.l0] at h, fun _ _ _ _ r h => by simp [spec_ChosenIn.l1] at h⟩
 | k + 1 => by
  obtain ⟨ih0, ih1⟩ := spec_ChosenIn.mono_l k
  refine ⟨?_, ?_⟩
  ·intro y0 y1 y2 y3 y4 y5
   unfold spec_ChosenIn.l0
   repeat' first
   | (with_reducible exact ih0 _ _ _ _ _ _)
   | (with_reducible exact ih1 _ _ _ _)
   | (with_reducible exact spec_GoodSynod.mono _ _ _)
   | (with_reducible exact spec_l3Cells.mono _ _ _ _)
   | (with_reducible exact LeO.refl _)
   | (with_reducible exact LeO.none _)
   | (with_reducible refine LeO.ite ?_ ?_)
   | (with_reducible refine LeO.bind ?_ (fun _ => ?_))
   | exact ih0 _ _ _ _ _ _
   | exact ih1 _ _ _ _
   | exact spec_GoodSynod.mono _ _ _
   | exact spec_l3Cells.mono _ _ _ _
   | exact LeO.none _
   | refine LeO.ite ?_ ?_
   | refine LeO.bind ?_ (fun _ => ?_)
  ·intro y0 y1 y2 y3
   unfold spec_ChosenIn.l1
   repeat' first
   | (with_reducible exact ih0 _ _ _ _ _ _)
   | (with_reducible exact ih1 _ _ _ _)
   | (with_reducible exact spec_GoodSynod.mono _ _ _)
   | (with_reducible exact spec_l3Cells.mono _ _ _ _)
   | (with_reducible exact LeO.refl _)
   | (with_reducible exact LeO.none _)
   | (with_reducible refine LeO.ite ?_ ?_)
   | (with_reducible refine LeO.bind ?_ (fun _ => ?_))
   | exact ih0 _ _ _ _ _ _
   | exact ih1 _ _ _ _
   | exact spec_GoodSynod.mono _ _ _
   | exact spec_l3Cells.mono _ _ _ _
   | exact LeO.none _
   | refine LeO.ite ?_ ?_
   | refine LeO.bind ?_ (fun _ => ?_)
theorem spec_ChosenIn.mono : ∀ a0 a1 k, LeO (spec_ChosenIn.f k a0 a1) (spec_ChosenIn.f (k + 1) a0 a1) := by
 intro a0 a1 k
 obtain ⟨ih0, ih1⟩ := spec_ChosenIn.mono_l k
 unfold spec_ChosenIn.f
 repeat' first
   | (with_reducible exact ih0 _ _ _ _ _ _)
   | (with_reducible exact ih1 _ _ _ _)
   | (with_reducible exact spec_GoodSynod.mono _ _ _)
   | (with_reducible exact spec_l3Cells.mono _ _ _ _)
   | (with_reducible exact LeO.refl _)
   | (with_reducible exact LeO.none _)
   | (with_reducible refine LeO.ite ?_ ?_)
   | (with_reducible refine LeO.bind ?_ (fun _ => ?_))
   | exact ih0 _ _ _ _ _ _
   | exact ih1 _ _ _ _
   | exact spec_GoodSynod.mono _ _ _
   | exact spec_l3Cells.mono _ _ _ _
   | exact LeO.none _
   | refine LeO.ite ?_ ?_
   | refine LeO.bind ?_ (fun _ => ?_)
set_option maxHeartbeats 8000000 in
set_option maxRecDepth 100000 in
theorem spec_ChosenIn.calls (k : Nat) (A0_0 : Option Addr) (c0_0 : Nat) (l0_0 : List (S70)) (A0_1 : Option Addr) (c0_1 : Nat) (l0_1 : List (S54)) (r1 : List ByteArray) (r2 : Bool) (w : World) (hr0_0 : Kd.C k70 w A0_0 l0_0.length l0_0) (hc0_0 : l0_0.length ≤ c0_0) (hr0_1 : Kd.C k54 w A0_1 l0_1.length l0_1) (hc0_1 : l0_1.length ≤ c0_1) (h : spec_ChosenIn.f k l0_0 l0_1 = some (r1, r2)) :
  Calls Try.prog 8 #[.agg #[.slice A0_0 l0_0.length c0_0, .slice A0_1 l0_1.length c0_1]] w fun e w' => ∃ v0_ : Value, e = .returned (.tuple #[v0_, .bool r2]) ∧ Kd.R Kd.string 9 w' w.heap.size (fun _ => True) v0_ r1 ∧ Below w.heap.size w w' := by
 have hu33 := Try.underlying33
 have hu54 := Try.underlying54
 have hu57 := Try.underlying57
 have HR0_0 := Aside0.mk hr0_0
 have HC0_0 := Aside0.mk hc0_0
 clear hr0_0 hc0_0
 have HR0_1 := Aside0.mk hr0_1
 have HC0_1 := Aside0.mk hc0_1
 clear hr0_1 hc0_1
 have HB := Aside0.mk (Below.refl w.heap.size w)
 have H : ((spec_GoodSynod.f k l0_0 l0_1).bind fun t186 => (if t186 = true then (spec_ChosenIn.l0 k ([] : List (S57)) l0_1 (l0_1.length : Int) 0 l0_0 l0_1) else (some (([] : List ByteArray), false)))) = some (r1, r2) := h
 clear h
 replace H := Option.bind_eq_some_iff.mp H
 obtain ⟨t186, A20, H⟩ := H
 replace H : (if t186 = true then (spec_ChosenIn.l0 k ([] : List (S57)) l0_1 (l0_1.length : Int) 0 l0_0 l0_1) else (some (([] : List ByteArray), false))) = some (r1, r2) := H
 have A2 := Aside0.mk A20
 clear A20
 by_cases c3 : t186 = true
 rotate_left
 ·replace c3 := Bool.eq_false_iff.mpr c3
  subst c3
  have H1 : (some (([] : List ByteArray), false)) = some (r1, r2) := by rw [if_neg (show ¬ (false = true) by decide)] at H; exact H
  clear H
  have H := H1
  clear H1
  simp only [Option.some.injEq, Prod.mk.injEq] at H
  obtain ⟨rfl, rfl⟩ := H
  go_enter Try.func8, Try.ntmps8
  go_wp2_with (first | ((with_reducible refine gate_dst (N := 1) rfl ?_); refine box_event rfl (N := 1) rfl (cs := #[.slice A0_0 l0_0.length c0_0, .slice A0_1 l0_1.length c0_1]) (t := 33) gs_ ?_; intro gb185 hg w32 hbox hb; have BK185 := Aside0.mk (hbox); have GW185 := Aside0.mk ((by rw [hg]; exact bz_ : w.heap.size ≤ gb185)); have GE185 := GW185; replace HB := Aside0.mk (below_step bl_ hb); clear hb hbox hg; have hcz33_0 : w32.cell? ⟨gb185, 0, none⟩ = some (.slice A0_0 l0_0.length c0_0) := bc_ BK185.out 0; have hcz33_1 : w32.cell? ⟨gb185, 1, none⟩ = some (.slice A0_1 l0_1.length c0_1) := bc_ BK185.out 1; have hfz33_0 := blk_frozen BK185.out 0; have hfz33_1 := blk_frozen BK185.out 1) | ((with_reducible refine gate_callee (f := 21) rfl ?_); refine goesL_ (some 11) rfl rfl Try.func21 (by kernel_rfl) rfl #[.agg #[.slice A0_0 l0_0.length c0_0, .slice A0_1 l0_1.length c0_1]] rfl nc_ ?_; (with_reducible refine (spec_GoodSynod.calls k _ _ l0_0 _ _ l0_1 false _ ?side1 ?side2 ?side3 ?side4 A2.out).mono ?_); (case side1 => exact kc_ (Kd.C_below HR0_0.out HB.out)); (case side2 => exact HC0_0.out); (case side3 => exact kc_ (Kd.C_below HR0_1.out HB.out)); (case side4 => exact HC0_1.out); rintro e w34 ⟨rfl, hb⟩; refine ⟨_, rfl, ?_⟩; replace BK185 := bb_ BK185 hb; replace HB := Aside0.mk (below_step bl_ hb); clear hb))
  go_ret2
  exact ⟨_, ng_, by first | exact Kd.R_nil _ _ _ _ _ | exact Kd.N_nil _ _ _ _ _ | exact Kd.V_nil _ _ _ _ _ | exact Kd.Q_nil _ _ _ _ _ | exact Kd.S_nil _ _ _ _ _, bl_⟩
 subst c3
 have H1 : (spec_ChosenIn.l0 k ([] : List (S57)) l0_1 (l0_1.length : Int) 0 l0_0 l0_1) = some (r1, r2) := by rw [if_pos rfl] at H; exact H
 clear H
 have H := H1
 clear H1
 have H' := Aside0.mk H
 clear H
 go_enter Try.func8, Try.ntmps8
 go_wp2_with (first | ((with_reducible refine gate_dst (N := 1) rfl ?_); refine box_event rfl (N := 1) rfl (cs := #[.slice A0_0 l0_0.length c0_0, .slice A0_1 l0_1.length c0_1]) (t := 33) gs_ ?_; intro gb185 hg w4 hbox hb; have BK185 := Aside0.mk (hbox); have GW185 := Aside0.mk ((by rw [hg]; exact bz_ : w.heap.size ≤ gb185)); have GE185 := GW185; replace HB := Aside0.mk (below_step bl_ hb); clear hb hbox hg; have hcz5_0 : w4.cell? ⟨gb185, 0, none⟩ = some (.slice A0_0 l0_0.length c0_0) := bc_ BK185.out 0; have hcz5_1 : w4.cell? ⟨gb185, 1, none⟩ = some (.slice A0_1 l0_1.length c0_1) := bc_ BK185.out 1; have hfz5_0 := blk_frozen BK185.out 0; have hfz5_1 := blk_frozen BK185.out 1) | ((with_reducible refine gate_callee (f := 21) rfl ?_); refine goesL_ (some 11) rfl rfl Try.func21 (by kernel_rfl) rfl #[.agg #[.slice A0_0 l0_0.length c0_0, .slice A0_1 l0_1.length c0_1]] rfl nc_ ?_; (with_reducible refine (spec_GoodSynod.calls k _ _ l0_0 _ _ l0_1 true _ ?side1 ?side2 ?side3 ?side4 A2.out).mono ?_); (case side1 => exact kc_ (Kd.C_below HR0_0.out HB.out)); (case side2 => exact HC0_0.out); (case side3 => exact kc_ (Kd.C_below HR0_1.out HB.out)); (case side4 => exact HC0_1.out); rintro e w6 ⟨rfl, hb⟩; refine ⟨_, rfl, ?_⟩; replace BK185 := bb_ BK185 hb; replace HB := Aside0.mk (below_step bl_ hb); clear hb; have hcz7_0 : w6.cell? ⟨gb185, 0, none⟩ = some (.slice A0_0 l0_0.length c0_0) := bc_ BK185.out 0; have hcz7_1 : w6.cell? ⟨gb185, 1, none⟩ = some (.slice A0_1 l0_1.length c0_1) := bc_ BK185.out 1; have hfz7_0 := blk_frozen BK185.out 0; have hfz7_1 := blk_frozen BK185.out 1))
 go_loopg [4, 16] k (fun kq v4 v16 w' => ∃ (x4_1 : List (S57)) (x16_1 : Int), v16 = .int .i64 x16_1 ∧ Aside0 (spec_ChosenIn.l0 kq x4_1 l0_1 (l0_1.length : Int) x16_1 l0_0 l0_1 = some (r1, r2)) ∧ Aside0 (kq ≤ k) ∧ Aside0 (Kd.R k57 57 w' w.heap.size (fun _ => True) v4 x4_1) ∧ Aside0 (w'.heap[gb185]? = some (.cells #[(.slice A0_0 l0_0.length c0_0), (.slice A0_1 l0_1.length c0_1)] 33 (0, 0))) ∧ Aside0 (Below w.heap.size w w'))
 case atStart => exact ⟨(([] : List (S57))), (0), (by first | rfl | (simp; done) | (simp [*]; done)), H', ⟨Nat.le_refl _⟩, ⟨by first | exact Kd.R_nil _ _ _ _ _ | exact Kd.N_nil _ _ _ _ _ | exact Kd.V_nil _ _ _ _ _ | exact Kd.Q_nil _ _ _ _ _ | exact Kd.S_nil _ _ _ _ _⟩, ⟨by exact kb_ BK185.out⟩, ⟨bl_⟩⟩
 clear H'
 try clear c2
 try clear p2
 try clear c3
 try clear hcz5_0
 try clear hcz5_1
 try clear hcz7_0
 try clear hcz7_1
 try clear hfz5_0
 try clear hfz5_1
 try clear hfz7_0
 try clear hfz7_1
 obtain ⟨x4_1, x16_1, rfl, HA, HK1, HO_4, BK185, HB⟩ := hrel
 cases gk with
 | zero => exact absurd HA.out (by simp [spec_ChosenIn.l0])
 | succ k1 => ?_
 have H := HA.out
 clear HA
 simp only [spec_ChosenIn.l0] at H
 by_cases c8 : x16_1 < (l0_1.length : Int)
 rotate_left
 ·rw [if_neg c8] at H
  have c8b0 : decide (x16_1 < (l0_1.length : Int)) = false := decide_eq_false c8
  clear c8
  have H' := Aside0.mk H
  clear H
  obtain ⟨Ao23, co23, eo23⟩ := Kd.R_slice HO_4.out
  subst eo23
  go_wp2
  go_loopg [5, 36] k1 (fun kq v5 v36 w' => ∃ (x5_2 : List ByteArray) (x36_2 : Int), v36 = .int .i64 x36_2 ∧ Aside0 (spec_ChosenIn.l1 kq x5_2 x4_1 (x4_1.length : Int) x36_2 = some (r1, r2)) ∧ Aside0 (kq ≤ k1) ∧ Aside0 (Kd.R Kd.string 9 w' w.heap.size (fun _ => True) v5 x5_2) ∧ Aside0 (Kd.R k57 57 w' w.heap.size (fun _ => True) (.slice Ao23 x4_1.length co23) x4_1) ∧ Aside0 (w'.heap[gb185]? = some (.cells #[(.slice A0_0 l0_0.length c0_0), (.slice A0_1 l0_1.length c0_1)] 33 (0, 0))) ∧ Aside0 (Below w.heap.size w w'))
  case atStart => exact ⟨(([] : List ByteArray)), (0), (by first | rfl | (simp; done) | (simp [*]; done)), H', ⟨Nat.le_refl _⟩, ⟨by first | exact Kd.R_nil _ _ _ _ _ | exact Kd.N_nil _ _ _ _ _ | exact Kd.V_nil _ _ _ _ _ | exact Kd.Q_nil _ _ _ _ _ | exact Kd.S_nil _ _ _ _ _⟩, ⟨by exact kr_ HO_4.out⟩, ⟨by exact kb_ BK185.out⟩, ⟨bl_⟩⟩
  clear H'
  try clear c1
  try clear p1
  try clear q1
  try clear hx1
  try clear c2
  try clear p2
  try clear c3
  try clear p6
  try clear c8
  try clear c8b0
  try clear c9
  try clear c9b0
  try clear c10
  try clear c10b0
  try clear c11
  try clear c11b0
  try clear c14
  try clear c18
  try clear p18
  try clear q18
  try clear hx18
  try clear c20
  try clear c21
  try clear hcz15_0
  try clear hcz15_1
  try clear hcz15_2
  try clear hcz15_3
  try clear hcz15_4
  try clear hcz16_0
  try clear hcz16_1
  try clear hcz21_0
  try clear hcz21_1
  try clear hcz21_2
  try clear hcz21_3
  try clear hcz21_4
  try clear hcz22_0
  try clear hcz22_1
  try clear hcz5_0
  try clear hcz5_1
  try clear hcz7_0
  try clear hcz7_1
  try clear hfz15_0
  try clear hfz15_1
  try clear hfz15_2
  try clear hfz15_3
  try clear hfz15_4
  try clear hfz16_0
  try clear hfz16_1
  try clear hfz21_0
  try clear hfz21_1
  try clear hfz21_2
  try clear hfz21_3
  try clear hfz21_4
  try clear hfz22_0
  try clear hfz22_1
  try clear hfz5_0
  try clear hfz5_1
  try clear hfz7_0
  try clear hfz7_1
  try clear hx187_0
  try clear hx187_1
  try clear hx187_2
  try clear hx187_3
  try clear hx187_4
  try clear p187
  try clear p2
  try clear q187
  obtain ⟨x5_2, x36_2, rfl, HA, HK2, HO_5, HO_34, BK185, HB⟩ := hrel
  cases gk with
  | zero => exact absurd HA.out (by simp [spec_ChosenIn.l1])
  | succ k2 => ?_
  have H := HA.out
  clear HA
  simp only [spec_ChosenIn.l1] at H
  by_cases c24 : x36_2 < (x4_1.length : Int)
  rotate_left
  ·rw [if_neg c24] at H
   have c24b0 : decide (x36_2 < (x4_1.length : Int)) = false := decide_eq_false c24
   clear c24
   simp only [Option.some.injEq, Prod.mk.injEq] at H
   obtain ⟨rfl, rfl⟩ := H
   go_wp2
   go_ret2
   exact ⟨_, ng_, by exact kr_ HO_5.out, bl_⟩
  rw [if_pos c24] at H
  have c24b0 : decide (x36_2 < (x4_1.length : Int)) = true := decide_eq_true c24
  clear c24
  by_cases c25 : 0 ≤ x36_2
  rotate_left
  ·rw [if_neg c25] at H
   exact absurd H (by simp)
  rw [if_pos c25] at H
  have c25b0 : decide (0 ≤ x36_2) = true := decide_eq_true c25
  clear c25
  by_cases c26 : x36_2 < (x4_1.length : Int)
  rotate_left
  ·rw [if_neg c26] at H
   exact absurd H (by simp)
  rw [if_pos c26] at H
  have c26b0 : decide (x36_2 < (x4_1.length : Int)) = true := decide_eq_true c26
  clear c26
  by_cases c27 : x5_2.length < 8796093022208
  rotate_left
  ·rw [if_neg c27] at H
   exact absurd H (by simp)
  rw [if_pos c27] at H
  have LMc27 := Aside0.mk c27
  clear c27
  obtain ⟨y194, hy194⟩ : ∃ y_ : List ByteArray, y_ = (x5_2 ++ [(rd_T57 x4_1 x36_2).f0]) := ⟨_, rfl⟩
  replace H : (spec_ChosenIn.l1 k2 y194 x4_1 (x4_1.length : Int) (wrap64 (x36_2 + 1))) = some (r1, r2) := by first | (rw [hy194]; with_reducible exact H) | (have H2_ := (Option.bind_some _ _).symm.trans H; rw [hy194]; with_reducible exact H2_) | (have H2_ := (Option.bind_some _ _).symm.trans H; with_reducible exact H2_) | with_reducible exact H | (rw [hy194]; exact H) | exact H
  have Ny194 := Aside0.mk hy194
  clear hy194
  have H' := Aside0.mk H
  clear H
  have p192 : 0 ≤ (x36_2 : Int) := of_decide_eq_true (by first | (with_reducible assumption) | assumption)
  have q192 : x36_2 < (x4_1.length : Int) := of_decide_eq_true (by first | (with_reducible assumption) | assumption)
  obtain ⟨ad192, e192, hx192_0, hx192_1⟩ := at_T57 (Kd.R_reads' HO_34.out).2.2 x36_2 p192 q192
  cases e192
  replace p192 := eq_true p192
  replace q192 := eq_true q192
  go_wp2_with (first | ((with_reducible refine gate_dst (N := 9) rfl ?_); refine box_event rfl (N := 9) rfl (cs := #[.string (⟨#[]⟩ : ByteArray), .string (⟨#[]⟩ : ByteArray)]) (t := 57) gs_ ?_; intro gb193 hg w28 hbox hb; replace HO_5 := rb_ HO_5 hb; replace HO_34 := Aside0.mk (Kd.R_below (Kd.R_elderB (kr_ HO_34.out) gb193 (Nat.le_of_eq hg.symm)) hb); have BK193 := Aside0.mk (hbox); have GW193 := Aside0.mk ((by rw [hg]; exact bz_ : w.heap.size ≤ gb193)); have GE193 := GW193; replace HB := Aside0.mk (below_step bl_ hb); have NB185_193 := nl_ hg BK185; have NB193_185 := nm_ hg BK185; replace BK185 := bb_ BK185 hb; clear hb hbox hg; have hnb29 := NB193_185.out; have hnc29 := NB185_193.out; have hcz30_0 : w28.cell? ⟨gb193, 0, none⟩ = some (.string (⟨#[]⟩ : ByteArray)) := bc_ BK193.out 0; have hcz30_1 : w28.cell? ⟨gb193, 1, none⟩ = some (.string (⟨#[]⟩ : ByteArray)) := bc_ BK193.out 1; have hfz30_0 := blk_frozen BK193.out 0; have hfz30_1 := blk_frozen BK193.out 1) | ((with_reducible refine gate_builtin (b := .append) (xs := #[.tmp 40, .tmp 43]) rfl ?_); at_builtin; refine Kd.R_append Kd.string (w0 := w) w.heap.size rfl (.tmp 40) (.tmp 43) 27 9 (.string ⟨#[]⟩) 16 rfl Try.underlying27 info9 rfl (by decide) (by omega) u5 x5_2 ((rd_T57 x4_1 x36_2).f0) [.string ((rd_T57 x4_1 x36_2).f0)] (fun _ => True) (fun _ => False) rfl (by first | (go_simp; done) | (go_simp; rfl)) ?aP (fun _ hk => hk.elim) ?aF ?aO ?aB ?aS ?aL ?_; (case aP => exact rfl); (case aB => exact bl_); (case aF => exact (fun _ _ => trivial)); (case aO => exact (by exact kr_ (Kd.R_mono (Kd.R_far (p := ⟨gb193, 1, none⟩) (Kd.R_far (p := ⟨gb193, 0, none⟩) (Kd.R_types HO_5.out BK193.out (by decide)) (fun _ hk => hk.2) (.string ((rd_T57 x4_1 x36_2).f0))) (fun _ hk => hk.2) (.string ((rd_T57 x4_1 x36_2).f1))) (fun _ hk => trivial)))); (case aS => exact bz_); (case aL => have := LMc27.out; omega); intro v195 w31 ho hb hg hat; rw [← Ny194.out] at ho; replace HO_34 := Aside0.mk (Kd.R_over' (by exact kr_ ((Kd.R_mono (Kd.R_far (p := ⟨gb193, 1, none⟩) (Kd.R_far (p := ⟨gb193, 0, none⟩) (Kd.R_mono HO_34.out (fun k_ hk => (⟨hk, hk.2⟩ : _ ∧ k_ ≠ gb193))) (fun _ hk => hk.2) (.string ((rd_T57 x4_1 x36_2).f0))) (fun _ hk => hk.2) (.string ((rd_T57 x4_1 x36_2).f1))) (fun _ h_ => h_.1)))) (Kd.R_typed (by exact kr_ ((Kd.R_mono (Kd.R_far (p := ⟨gb193, 1, none⟩) (Kd.R_far (p := ⟨gb193, 0, none⟩) (Kd.R_types HO_5.out BK193.out (by decide)) (fun _ hk => hk.2) (.string ((rd_T57 x4_1 x36_2).f0))) (fun _ hk => hk.2) (.string ((rd_T57 x4_1 x36_2).f1))) (fun _ h_ => h_.1))))) (by decide) hg); replace BK185 := Aside0.mk (blk_grown (g := gb185) (o := .cells #[.slice A0_0 l0_0.length c0_0, .slice A0_1 l0_1.length c0_1] 33 (0, 0)) kz_ hg (Kd.R_ne HO_5.out BK185.out (by decide))); replace BK193 := Aside0.mk (blk_grown (g := gb193) (o := .cells #[.string ((rd_T57 x4_1 x36_2).f0), .string ((rd_T57 x4_1 x36_2).f1)] 57 (0, 0)) (by (with_reducible repeat (first | refine blk_drewN ?_ _ | refine blk_drew ?_ | refine blk_alloc ?_ _)); refine blk_put (cs := #[.string ((rd_T57 x4_1 x36_2).f0), .string (⟨#[]⟩ : ByteArray)]) ?_ 1 _ rfl; (with_reducible repeat (first | refine blk_drewN ?_ _ | refine blk_drew ?_ | refine blk_alloc ?_ _)); refine blk_put (cs := #[.string (⟨#[]⟩ : ByteArray), .string (⟨#[]⟩ : ByteArray)]) ?_ 0 _ rfl; exact kb_ BK193.out) hg (Kd.R_ne HO_5.out BK193.out (by decide))); replace HB := Aside0.mk (hb); have HO196 := Aside0.mk (ho); clear HO_5 ho hb hg hat))
  go_roundg k2
  case measure => have := HK1.out; have := HK2.out; omega
  case rel => exact ⟨(y194), (wrap64 (x36_2 + 1)), (by first | rfl | (simp; done) | (simp [*]; done)), H', ⟨by have := HK1.out; have := HK2.out; omega⟩, ⟨by exact kr_ HO196.out⟩, ⟨by exact kr_ (Kd.R_mono HO_34.out (fun _ hk => trivial))⟩, ⟨by exact kb_ BK185.out⟩, ⟨bl_⟩⟩
 rw [if_pos c8] at H
 have c8b0 : decide (x16_1 < (l0_1.length : Int)) = true := decide_eq_true c8
 clear c8
 by_cases c9 : 0 ≤ x16_1
 rotate_left
 ·rw [if_neg c9] at H
  exact absurd H (by simp)
 rw [if_pos c9] at H
 have c9b0 : decide (0 ≤ x16_1) = true := decide_eq_true c9
 clear c9
 by_cases c10 : x16_1 < (l0_1.length : Int)
 rotate_left
 ·rw [if_neg c10] at H
  exact absurd H (by simp)
 rw [if_pos c10] at H
 have c10b0 : decide (x16_1 < (l0_1.length : Int)) = true := decide_eq_true c10
 clear c10
 by_cases c11 : (wrap64 (2 * (((rd_T54 l0_1 x16_1).f4).length : Int))) > (l0_0.length : Int)
 rotate_left
 ·rw [if_neg c11] at H
  have c11b0 : decide ((l0_0.length : Int) < (wrap64 (2 * (((rd_T54 l0_1 x16_1).f4).length : Int)))) = false := decide_eq_false c11
  clear c11
  have H' := Aside0.mk H
  clear H
  have p187 : 0 ≤ (x16_1 : Int) := of_decide_eq_true (by first | (with_reducible assumption) | assumption)
  have q187 : x16_1 < (l0_1.length : Int) := of_decide_eq_true (by first | (with_reducible assumption) | assumption)
  obtain ⟨ad187, A187_1, c187_1, A187_4, c187_4, e187, hx187_0, hx187_1, hx187_2, hx187_3, hx187_4, hl187_1, hi187_1, hl187_4, hi187_4⟩ := at_T54 HR0_1.out x16_1 p187 q187
  cases e187
  replace hx187_0 := (HB.out.cell (World.block_lt_of_cell? w _ hx187_0)).trans hx187_0
  replace hx187_1 := (HB.out.cell (World.block_lt_of_cell? w _ hx187_1)).trans hx187_1
  replace hx187_2 := (HB.out.cell (World.block_lt_of_cell? w _ hx187_2)).trans hx187_2
  replace hx187_3 := (HB.out.cell (World.block_lt_of_cell? w _ hx187_3)).trans hx187_3
  replace hx187_4 := (HB.out.cell (World.block_lt_of_cell? w _ hx187_4)).trans hx187_4
  have HR187_1 := Aside0.mk hi187_1
  have HC187_1 := Aside0.mk hl187_1
  clear hi187_1 hl187_1
  have HR187_4 := Aside0.mk hi187_4
  have HC187_4 := Aside0.mk hl187_4
  clear hi187_4 hl187_4
  replace p187 := eq_true p187
  replace q187 := eq_true q187
  go_wp2_with (first | ((with_reducible refine gate_dst (N := 7) rfl ?_); refine box_event rfl (N := 7) rfl (cs := #[.string (⟨#[]⟩ : ByteArray), .slice none 0 0, .bool false, .string (⟨#[]⟩ : ByteArray), .slice none 0 0]) (t := 54) gs_ ?_; intro gb188 hg w19 hbox hb; replace HO_4 := rb_ HO_4 hb; have BK188 := Aside0.mk (hbox); have GW188 := Aside0.mk ((by rw [hg]; exact bz_ : w.heap.size ≤ gb188)); have GE188 := GW188; replace HB := Aside0.mk (below_step bl_ hb); have NB185_188 := nl_ hg BK185; have NB188_185 := nm_ hg BK185; replace BK185 := bb_ BK185 hb; clear hb hbox hg; have hnb20 := NB188_185.out; have hnc20 := NB185_188.out; have hcz21_0 : w19.cell? ⟨gb188, 0, none⟩ = some (.string (⟨#[]⟩ : ByteArray)) := bc_ BK188.out 0; have hcz21_1 : w19.cell? ⟨gb188, 1, none⟩ = some (.slice none 0 0) := bc_ BK188.out 1; have hcz21_2 : w19.cell? ⟨gb188, 2, none⟩ = some (.bool false) := bc_ BK188.out 2; have hcz21_3 : w19.cell? ⟨gb188, 3, none⟩ = some (.string (⟨#[]⟩ : ByteArray)) := bc_ BK188.out 3; have hcz21_4 : w19.cell? ⟨gb188, 4, none⟩ = some (.slice none 0 0) := bc_ BK188.out 4; have hfz21_0 := blk_frozen BK188.out 0; have hfz21_1 := blk_frozen BK188.out 1; have hfz21_2 := blk_frozen BK188.out 2; have hfz21_3 := blk_frozen BK188.out 3; have hfz21_4 := blk_frozen BK188.out 4; have hcz22_0 : w19.cell? ⟨gb185, 0, none⟩ = some (.slice A0_0 l0_0.length c0_0) := bc_ BK185.out 0; have hcz22_1 : w19.cell? ⟨gb185, 1, none⟩ = some (.slice (some ad187) l0_1.length c0_1) := bc_ BK185.out 1; have hfz22_0 := blk_frozen BK185.out 0; have hfz22_1 := blk_frozen BK185.out 1))
  go_roundg k1
  case measure => have := HK1.out; omega
  case rel => exact ⟨(x4_1), (wrap64 (x16_1 + 1)), (by first | rfl | (simp; done) | (simp [*]; done)), H', ⟨by have := HK1.out; omega⟩, ⟨by exact kr_ (Kd.R_mono (Kd.R_far (p := ⟨gb188, 4, none⟩) (Kd.R_far (p := ⟨gb188, 3, none⟩) (Kd.R_far (p := ⟨gb188, 2, none⟩) (Kd.R_far (p := ⟨gb188, 1, none⟩) (Kd.R_far (p := ⟨gb188, 0, none⟩) (Kd.R_types HO_4.out BK188.out (by decide)) (fun _ hk => hk.2) (.string ((rd_T54 l0_1 x16_1).f0))) (fun _ hk => hk.2) (.slice A187_1 ((rd_T54 l0_1 x16_1).f1).length c187_1)) (fun _ hk => hk.2) (.bool ((rd_T54 l0_1 x16_1).f2))) (fun _ hk => hk.2) (.string ((rd_T54 l0_1 x16_1).f3))) (fun _ hk => hk.2) (.slice A187_4 ((rd_T54 l0_1 x16_1).f4).length c187_4)) (fun _ hk => trivial))⟩, ⟨kz_⟩, ⟨bl_⟩⟩
 rw [if_pos c11] at H
 have c11b0 : decide ((l0_0.length : Int) < (wrap64 (2 * (((rd_T54 l0_1 x16_1).f4).length : Int)))) = true := decide_eq_true c11
 clear c11
 replace H := Option.bind_eq_some_iff.mp H
 obtain ⟨t189, A120, H⟩ := H
 replace H : (spec_ChosenIn.l0 k1 t189 l0_1 (l0_1.length : Int) (wrap64 (x16_1 + 1)) l0_0 l0_1) = some (r1, r2) := H
 have A12 := Aside0.mk A120
 clear A120
 have H' := Aside0.mk H
 clear H
 have p187 : 0 ≤ (x16_1 : Int) := of_decide_eq_true (by first | (with_reducible assumption) | assumption)
 have q187 : x16_1 < (l0_1.length : Int) := of_decide_eq_true (by first | (with_reducible assumption) | assumption)
 obtain ⟨ad187, A187_1, c187_1, A187_4, c187_4, e187, hx187_0, hx187_1, hx187_2, hx187_3, hx187_4, hl187_1, hi187_1, hl187_4, hi187_4⟩ := at_T54 HR0_1.out x16_1 p187 q187
 cases e187
 replace hx187_0 := (HB.out.cell (World.block_lt_of_cell? w _ hx187_0)).trans hx187_0
 replace hx187_1 := (HB.out.cell (World.block_lt_of_cell? w _ hx187_1)).trans hx187_1
 replace hx187_2 := (HB.out.cell (World.block_lt_of_cell? w _ hx187_2)).trans hx187_2
 replace hx187_3 := (HB.out.cell (World.block_lt_of_cell? w _ hx187_3)).trans hx187_3
 replace hx187_4 := (HB.out.cell (World.block_lt_of_cell? w _ hx187_4)).trans hx187_4
 have HR187_1 := Aside0.mk hi187_1
 have HC187_1 := Aside0.mk hl187_1
 clear hi187_1 hl187_1
 have HR187_4 := Aside0.mk hi187_4
 have HC187_4 := Aside0.mk hl187_4
 clear hi187_4 hl187_4
 replace p187 := eq_true p187
 replace q187 := eq_true q187
 go_wp2_with (first | ((with_reducible refine gate_dst (N := 7) rfl ?_); refine box_event rfl (N := 7) rfl (cs := #[.string (⟨#[]⟩ : ByteArray), .slice none 0 0, .bool false, .string (⟨#[]⟩ : ByteArray), .slice none 0 0]) (t := 54) gs_ ?_; intro gb188 hg w13 hbox hb; replace HO_4 := rb_ HO_4 hb; have BK188 := Aside0.mk (hbox); have GW188 := Aside0.mk ((by rw [hg]; exact bz_ : w.heap.size ≤ gb188)); have GE188 := GW188; replace HB := Aside0.mk (below_step bl_ hb); have NB185_188 := nl_ hg BK185; have NB188_185 := nm_ hg BK185; replace BK185 := bb_ BK185 hb; clear hb hbox hg; have hnb14 := NB188_185.out; have hnc14 := NB185_188.out; have hcz15_0 : w13.cell? ⟨gb188, 0, none⟩ = some (.string (⟨#[]⟩ : ByteArray)) := bc_ BK188.out 0; have hcz15_1 : w13.cell? ⟨gb188, 1, none⟩ = some (.slice none 0 0) := bc_ BK188.out 1; have hcz15_2 : w13.cell? ⟨gb188, 2, none⟩ = some (.bool false) := bc_ BK188.out 2; have hcz15_3 : w13.cell? ⟨gb188, 3, none⟩ = some (.string (⟨#[]⟩ : ByteArray)) := bc_ BK188.out 3; have hcz15_4 : w13.cell? ⟨gb188, 4, none⟩ = some (.slice none 0 0) := bc_ BK188.out 4; have hfz15_0 := blk_frozen BK188.out 0; have hfz15_1 := blk_frozen BK188.out 1; have hfz15_2 := blk_frozen BK188.out 2; have hfz15_3 := blk_frozen BK188.out 3; have hfz15_4 := blk_frozen BK188.out 4; have hcz16_0 : w13.cell? ⟨gb185, 0, none⟩ = some (.slice A0_0 l0_0.length c0_0) := bc_ BK185.out 0; have hcz16_1 : w13.cell? ⟨gb185, 1, none⟩ = some (.slice (some ad187) l0_1.length c0_1) := bc_ BK185.out 1; have hfz16_0 := blk_frozen BK185.out 0; have hfz16_1 := blk_frozen BK185.out 1; obtain ⟨Ao17, co17, eo17⟩ := Kd.R_slice HO_4.out; subst eo17) | ((with_reducible refine gate_callee (f := 27) rfl ?_); refine goesL_ (some 32) rfl rfl Try.func27 (by kernel_rfl) rfl #[.slice Ao17 x4_1.length co17, .agg #[.string ((rd_T54 l0_1 x16_1).f3), .string (⟨#[]⟩ : ByteArray)]] rfl nc_ ?_; (with_reducible refine (spec_l3Cells.calls k1 _ _ x4_1 ((rd_T54 l0_1 x16_1).f3) (⟨#[]⟩ : ByteArray) t189 _ ?side1 ?side2 A12.out).mono ?_); (case side1 => refine (Kd.R_reads' (e := 57) (base := w.heap.size) (ok := fun k_ => True) (n := x4_1.length) (c := co17) ?_).2.2; exact (by exact kr_ ((Kd.R_mono (Kd.R_far (p := ⟨gb188, 4, none⟩) (Kd.R_far (p := ⟨gb188, 3, none⟩) (Kd.R_far (p := ⟨gb188, 2, none⟩) (Kd.R_far (p := ⟨gb188, 1, none⟩) (Kd.R_far (p := ⟨gb188, 0, none⟩) (Kd.R_types HO_4.out BK188.out (by decide)) (fun _ hk => hk.2) (.string ((rd_T54 l0_1 x16_1).f0))) (fun _ hk => hk.2) (.slice A187_1 ((rd_T54 l0_1 x16_1).f1).length c187_1)) (fun _ hk => hk.2) (.bool ((rd_T54 l0_1 x16_1).f2))) (fun _ hk => hk.2) (.string ((rd_T54 l0_1 x16_1).f3))) (fun _ hk => hk.2) (.slice A187_4 ((rd_T54 l0_1 x16_1).f4).length c187_4)) (fun _ h_ => h_.1))))); (case side2 => exact (Kd.R_reads' HO_4.out).2.1); rintro e w18 ⟨v190, rfl, ho0, hb⟩; refine ⟨_, rfl, ?_⟩; have HO191 := Aside0.mk (Kd.R_lower (Kd.R_new' ho0 (Kd.R_lt (by exact kr_ ((Kd.R_mono (Kd.R_far (p := ⟨gb188, 4, none⟩) (Kd.R_far (p := ⟨gb188, 3, none⟩) (Kd.R_far (p := ⟨gb188, 2, none⟩) (Kd.R_far (p := ⟨gb188, 1, none⟩) (Kd.R_far (p := ⟨gb188, 0, none⟩) (Kd.R_types HO_4.out BK188.out (by decide)) (fun _ hk => hk.2) (.string ((rd_T54 l0_1 x16_1).f0))) (fun _ hk => hk.2) (.slice A187_1 ((rd_T54 l0_1 x16_1).f1).length c187_1)) (fun _ hk => hk.2) (.bool ((rd_T54 l0_1 x16_1).f2))) (fun _ hk => hk.2) (.string ((rd_T54 l0_1 x16_1).f3))) (fun _ hk => hk.2) (.slice A187_4 ((rd_T54 l0_1 x16_1).f4).length c187_4)) (fun _ h_ => h_.1)))))) bz_); replace HO_4 := Aside0.mk (Kd.R_elder' (by exact kr_ ((Kd.R_mono (Kd.R_far (p := ⟨gb188, 4, none⟩) (Kd.R_far (p := ⟨gb188, 3, none⟩) (Kd.R_far (p := ⟨gb188, 2, none⟩) (Kd.R_far (p := ⟨gb188, 1, none⟩) (Kd.R_far (p := ⟨gb188, 0, none⟩) (Kd.R_types HO_4.out BK188.out (by decide)) (fun _ hk => hk.2) (.string ((rd_T54 l0_1 x16_1).f0))) (fun _ hk => hk.2) (.slice A187_1 ((rd_T54 l0_1 x16_1).f1).length c187_1)) (fun _ hk => hk.2) (.bool ((rd_T54 l0_1 x16_1).f2))) (fun _ hk => hk.2) (.string ((rd_T54 l0_1 x16_1).f3))) (fun _ hk => hk.2) (.slice A187_4 ((rd_T54 l0_1 x16_1).f4).length c187_4)) (fun _ h_ => h_.1)))) (Kd.R_base ho0) hb); replace BK185 := Aside0.mk (blk_below (g := gb185) (o := .cells #[.slice A0_0 l0_0.length c0_0, .slice (some ad187) l0_1.length c0_1] 33 (0, 0)) kz_ hb); replace BK188 := Aside0.mk (blk_below (g := gb188) (o := .cells #[.string ((rd_T54 l0_1 x16_1).f0), .slice A187_1 ((rd_T54 l0_1 x16_1).f1).length c187_1, .bool ((rd_T54 l0_1 x16_1).f2), .string ((rd_T54 l0_1 x16_1).f3), .slice A187_4 ((rd_T54 l0_1 x16_1).f4).length c187_4] 54 (0, 0)) (by (with_reducible repeat (first | refine blk_drewN ?_ _ | refine blk_drew ?_ | refine blk_alloc ?_ _)); refine blk_put (cs := #[.string ((rd_T54 l0_1 x16_1).f0), .slice A187_1 ((rd_T54 l0_1 x16_1).f1).length c187_1, .bool ((rd_T54 l0_1 x16_1).f2), .string ((rd_T54 l0_1 x16_1).f3), .slice none 0 0]) ?_ 4 _ rfl; (with_reducible repeat (first | refine blk_drewN ?_ _ | refine blk_drew ?_ | refine blk_alloc ?_ _)); refine blk_put (cs := #[.string ((rd_T54 l0_1 x16_1).f0), .slice A187_1 ((rd_T54 l0_1 x16_1).f1).length c187_1, .bool ((rd_T54 l0_1 x16_1).f2), .string (⟨#[]⟩ : ByteArray), .slice none 0 0]) ?_ 3 _ rfl; (with_reducible repeat (first | refine blk_drewN ?_ _ | refine blk_drew ?_ | refine blk_alloc ?_ _)); refine blk_put (cs := #[.string ((rd_T54 l0_1 x16_1).f0), .slice A187_1 ((rd_T54 l0_1 x16_1).f1).length c187_1, .bool false, .string (⟨#[]⟩ : ByteArray), .slice none 0 0]) ?_ 2 _ rfl; (with_reducible repeat (first | refine blk_drewN ?_ _ | refine blk_drew ?_ | refine blk_alloc ?_ _)); refine blk_put (cs := #[.string ((rd_T54 l0_1 x16_1).f0), .slice none 0 0, .bool false, .string (⟨#[]⟩ : ByteArray), .slice none 0 0]) ?_ 1 _ rfl; (with_reducible repeat (first | refine blk_drewN ?_ _ | refine blk_drew ?_ | refine blk_alloc ?_ _)); refine blk_put (cs := #[.string (⟨#[]⟩ : ByteArray), .slice none 0 0, .bool false, .string (⟨#[]⟩ : ByteArray), .slice none 0 0]) ?_ 0 _ rfl; exact kb_ BK188.out) hb); replace HB := Aside0.mk (below_step bl_ hb); clear hb ho0))
 go_roundg k1
 case measure => have := HK1.out; omega
 case rel => exact ⟨(t189), (wrap64 (x16_1 + 1)), (by first | rfl | (simp; done) | (simp [*]; done)), H', ⟨by have := HK1.out; omega⟩, ⟨by exact kr_ (Kd.R_mono HO191.out (fun _ hk => trivial))⟩, ⟨by exact kb_ BK185.out⟩, ⟨bl_⟩⟩

/-! ### impl_ChosenIn: function 10 -/
def impl_ChosenIn.l0 : Nat → List ByteArray → List (S54) → Int → Int → List (S70) → List (S54) → Option (List ByteArray × Bool)
 | 0, _, _, _, _, _, _ => none
 | k + 1, x4, x12, x13, x14, x418000, x418001 => if x14 < x13 then (if 0 ≤ x14 then (if x14 < (x12.length : Int) then (if (wrap64 (2 * (((rd_T54 x12 x14).f4).length : Int))) > (x418000.length : Int) then (if x4.length < 8796093022208 then (impl_ChosenIn.l0 k (x4 ++ [(rd_T54 x12 x14).f3]) x12 x13 (wrap64 (x14 + 1)) x418000 x418001) else (none)) else (impl_ChosenIn.l0 k x4 x12 x13 (wrap64 (x14 + 1)) x418000 x418001)) else (none)) else (none)) else (if x4.length ≤ 1048576 then some (StrSort.cmpct (StrSort.srt x4), true) else none)
def impl_ChosenIn.f (k : Nat) (l0_0 : List (S70)) (l0_1 : List (S54)) : Option (List ByteArray × Bool) := (impl_isSynod.f k l0_0 l0_1).bind fun t418 => (if t418 = true then (impl_ChosenIn.l0 k (([] : List ByteArray)) l0_1 (l0_1.length : Int) 0 l0_0 l0_1) else (some (([] : List ByteArray), false)))
theorem impl_ChosenIn.mono_l : ∀ k, (∀ y0 y1 y2 y3 y4 y5, LeO (impl_ChosenIn.l0 k y0 y1 y2 y3 y4 y5) (impl_ChosenIn.l0 (k + 1) y0 y1 y2 y3 y4 y5))
 | 0 => fun _ _ _ _ _ _ r h => by simp [impl_ChosenIn.l0] at h
 | k + 1 => by
  have ih0 := impl_ChosenIn.mono_l k
  ·intro y0 y1 y2 y3 y4 y5
   unfold impl_ChosenIn.l0
   repeat' first
   | (with_reducible exact ih0 _ _ _ _ _ _)
   | (with_reducible exact impl_isSynod.mono _ _ _)
   | (with_reducible exact LeO.refl _)
   | (with_reducible exact LeO.none _)
   | (with_reducible refine LeO.ite ?_ ?_)
   | (with_reducible refine LeO.bind ?_ (fun _ => ?_))
   | exact ih0 _ _ _ _ _ _
   | exact impl_isSynod.mono _ _ _
   | exact LeO.none _
   | refine LeO.ite ?_ ?_
   | refine LeO.bind ?_ (fun _ => ?_)
theorem impl_ChosenIn.mono : ∀ a0 a1 k, LeO (impl_ChosenIn.f k a0 a1) (impl_ChosenIn.f (k + 1) a0 a1) := by
 intro a0 a1 k
 have ih0 := impl_ChosenIn.mono_l k
 unfold impl_ChosenIn.f
 repeat' first
   | (with_reducible exact ih0 _ _ _ _ _ _)
   | (with_reducible exact impl_isSynod.mono _ _ _)
   | (with_reducible exact LeO.refl _)
   | (with_reducible exact LeO.none _)
   | (with_reducible refine LeO.ite ?_ ?_)
   | (with_reducible refine LeO.bind ?_ (fun _ => ?_))
   | exact ih0 _ _ _ _ _ _
   | exact impl_isSynod.mono _ _ _
   | exact LeO.none _
   | refine LeO.ite ?_ ?_
   | refine LeO.bind ?_ (fun _ => ?_)
set_option maxHeartbeats 8000000 in
set_option maxRecDepth 100000 in
theorem impl_ChosenIn.calls (k : Nat) (A0_0 : Option Addr) (c0_0 : Nat) (l0_0 : List (S70)) (A0_1 : Option Addr) (c0_1 : Nat) (l0_1 : List (S54)) (r1 : List ByteArray) (r2 : Bool) (w : World) (hr0_0 : Kd.C k70 w A0_0 l0_0.length l0_0) (hc0_0 : l0_0.length ≤ c0_0) (hr0_1 : Kd.C k54 w A0_1 l0_1.length l0_1) (hc0_1 : l0_1.length ≤ c0_1) (h : impl_ChosenIn.f k l0_0 l0_1 = some (r1, r2)) :
  Calls Try.prog 10 #[.agg #[.slice A0_0 l0_0.length c0_0, .slice A0_1 l0_1.length c0_1]] w fun e w' => ∃ v0_ : Value, e = .returned (.tuple #[v0_, .bool r2]) ∧ Kd.R Kd.string 9 w' w.heap.size (fun _ => True) v0_ r1 ∧ Below w.heap.size w w' := by
 have hu33 := Try.underlying33
 have hu54 := Try.underlying54
 have HR0_0 := Aside0.mk hr0_0
 have HC0_0 := Aside0.mk hc0_0
 clear hr0_0 hc0_0
 have HR0_1 := Aside0.mk hr0_1
 have HC0_1 := Aside0.mk hc0_1
 clear hr0_1 hc0_1
 have HB := Aside0.mk (Below.refl w.heap.size w)
 have H : ((impl_isSynod.f k l0_0 l0_1).bind fun t418 => (if t418 = true then (impl_ChosenIn.l0 k (([] : List ByteArray)) l0_1 (l0_1.length : Int) 0 l0_0 l0_1) else (some (([] : List ByteArray), false)))) = some (r1, r2) := h
 clear h
 replace H := Option.bind_eq_some_iff.mp H
 obtain ⟨t418, A20, H⟩ := H
 replace H : (if t418 = true then (impl_ChosenIn.l0 k (([] : List ByteArray)) l0_1 (l0_1.length : Int) 0 l0_0 l0_1) else (some (([] : List ByteArray), false))) = some (r1, r2) := H
 have A2 := Aside0.mk A20
 clear A20
 by_cases c3 : t418 = true
 rotate_left
 ·replace c3 := Bool.eq_false_iff.mpr c3
  subst c3
  have H1 : (some (([] : List ByteArray), false)) = some (r1, r2) := by rw [if_neg (show ¬ (false = true) by decide)] at H; exact H
  clear H
  have H := H1
  clear H1
  simp only [Option.some.injEq, Prod.mk.injEq] at H
  obtain ⟨rfl, rfl⟩ := H
  go_enter Try.func10, Try.ntmps10
  go_wp2_with (first | ((with_reducible refine gate_dst (N := 1) rfl ?_); refine box_event rfl (N := 1) rfl (cs := #[.slice A0_0 l0_0.length c0_0, .slice A0_1 l0_1.length c0_1]) (t := 33) gs_ ?_; intro gb417 hg w24 hbox hb; have BK417 := Aside0.mk (hbox); have GW417 := Aside0.mk ((by rw [hg]; exact bz_ : w.heap.size ≤ gb417)); have GE417 := GW417; replace HB := Aside0.mk (below_step bl_ hb); clear hb hbox hg; have hcz25_0 : w24.cell? ⟨gb417, 0, none⟩ = some (.slice A0_0 l0_0.length c0_0) := bc_ BK417.out 0; have hcz25_1 : w24.cell? ⟨gb417, 1, none⟩ = some (.slice A0_1 l0_1.length c0_1) := bc_ BK417.out 1; have hfz25_0 := blk_frozen BK417.out 0; have hfz25_1 := blk_frozen BK417.out 1) | ((with_reducible refine gate_callee (f := 30) rfl ?_); refine goesL_ (some 8) rfl rfl Try.func30 (by kernel_rfl) rfl #[.agg #[.slice A0_0 l0_0.length c0_0, .slice A0_1 l0_1.length c0_1]] rfl nc_ ?_; (with_reducible refine (impl_isSynod.calls k _ _ l0_0 _ _ l0_1 false _ ?side1 ?side2 ?side3 ?side4 A2.out).mono ?_); (case side1 => exact kc_ (Kd.C_below HR0_0.out HB.out)); (case side2 => exact HC0_0.out); (case side3 => exact kc_ (Kd.C_below HR0_1.out HB.out)); (case side4 => exact HC0_1.out); rintro e w26 ⟨rfl, hb⟩; refine ⟨_, rfl, ?_⟩; replace BK417 := bb_ BK417 hb; replace HB := Aside0.mk (below_step bl_ hb); clear hb))
  go_ret2
  exact ⟨_, ng_, by first | exact Kd.R_nil _ _ _ _ _ | exact Kd.N_nil _ _ _ _ _ | exact Kd.V_nil _ _ _ _ _ | exact Kd.Q_nil _ _ _ _ _ | exact Kd.S_nil _ _ _ _ _, bl_⟩
 subst c3
 have H1 : (impl_ChosenIn.l0 k (([] : List ByteArray)) l0_1 (l0_1.length : Int) 0 l0_0 l0_1) = some (r1, r2) := by rw [if_pos rfl] at H; exact H
 clear H
 have H := H1
 clear H1
 obtain ⟨y419, hy419⟩ : ∃ y_ : List ByteArray, y_ = (([] : List ByteArray)) := ⟨_, rfl⟩
 replace H : (impl_ChosenIn.l0 k y419 l0_1 (l0_1.length : Int) 0 l0_0 l0_1) = some (r1, r2) := by first | (rw [hy419]; with_reducible exact H) | (have H2_ := (Option.bind_some _ _).symm.trans H; rw [hy419]; with_reducible exact H2_) | (have H2_ := (Option.bind_some _ _).symm.trans H; with_reducible exact H2_) | with_reducible exact H | (rw [hy419]; exact H) | exact H
 have Ny419 := Aside0.mk hy419
 clear hy419
 have H' := Aside0.mk H
 clear H
 go_enter Try.func10, Try.ntmps10
 go_wp2_with (first | ((with_reducible refine gate_dst (N := 1) rfl ?_); refine box_event rfl (N := 1) rfl (cs := #[.slice A0_0 l0_0.length c0_0, .slice A0_1 l0_1.length c0_1]) (t := 33) gs_ ?_; intro gb417 hg w4 hbox hb; have BK417 := Aside0.mk (hbox); have GW417 := Aside0.mk ((by rw [hg]; exact bz_ : w.heap.size ≤ gb417)); have GE417 := GW417; replace HB := Aside0.mk (below_step bl_ hb); clear hb hbox hg; have hcz5_0 : w4.cell? ⟨gb417, 0, none⟩ = some (.slice A0_0 l0_0.length c0_0) := bc_ BK417.out 0; have hcz5_1 : w4.cell? ⟨gb417, 1, none⟩ = some (.slice A0_1 l0_1.length c0_1) := bc_ BK417.out 1; have hfz5_0 := blk_frozen BK417.out 0; have hfz5_1 := blk_frozen BK417.out 1) | ((with_reducible refine gate_callee (f := 30) rfl ?_); refine goesL_ (some 8) rfl rfl Try.func30 (by kernel_rfl) rfl #[.agg #[.slice A0_0 l0_0.length c0_0, .slice A0_1 l0_1.length c0_1]] rfl nc_ ?_; (with_reducible refine (impl_isSynod.calls k _ _ l0_0 _ _ l0_1 true _ ?side1 ?side2 ?side3 ?side4 A2.out).mono ?_); (case side1 => exact kc_ (Kd.C_below HR0_0.out HB.out)); (case side2 => exact HC0_0.out); (case side3 => exact kc_ (Kd.C_below HR0_1.out HB.out)); (case side4 => exact HC0_1.out); rintro e w6 ⟨rfl, hb⟩; refine ⟨_, rfl, ?_⟩; replace BK417 := bb_ BK417 hb; replace HB := Aside0.mk (below_step bl_ hb); clear hb) | ((with_reducible refine gate_dst (N := 10) rfl ?_); refine Kd.R_lit Kd.string _ 9 rfl (N := 10) rfl (xs := ([] : List ByteArray)) (inner := []) (ok := fun _ => True) (okp := fun _ => True) gs_ ?hp (fun _ hk => hk) trivial (Below.refl _ _) (Nat.le_refl _) (by simp) ?_; (case hp => exact (Reps.none _ _)); intro v420 w7 ho8 hb hg_ hnew_; clear hg_ hnew_; (first | rw [← Ny419.out] at ho8 | (simp only [Int.reduceToNat] at ho8; rw [← Ny419.out] at ho8)); have HO421 := Aside0.mk (Kd.R_lower ho8 bz_); replace BK417 := bb_ BK417 hb; replace HB := Aside0.mk (below_step bl_ hb); clear hb ho8; have hcz9_0 : w7.cell? ⟨gb417, 0, none⟩ = some (.slice A0_0 l0_0.length c0_0) := bc_ BK417.out 0; have hcz9_1 : w7.cell? ⟨gb417, 1, none⟩ = some (.slice A0_1 l0_1.length c0_1) := bc_ BK417.out 1; have hfz9_0 := blk_frozen BK417.out 0; have hfz9_1 := blk_frozen BK417.out 1))
 go_loopg [4, 14] k (fun kq v4 v14 w' => ∃ (x4_1 : List ByteArray) (x14_1 : Int), v14 = .int .i64 x14_1 ∧ Aside0 (impl_ChosenIn.l0 kq x4_1 l0_1 (l0_1.length : Int) x14_1 l0_0 l0_1 = some (r1, r2)) ∧ Aside0 (kq ≤ k) ∧ Aside0 (Kd.R Kd.string 9 w' w.heap.size (fun _ => True) v4 x4_1) ∧ Aside0 (w'.heap[gb417]? = some (.cells #[(.slice A0_0 l0_0.length c0_0), (.slice A0_1 l0_1.length c0_1)] 33 (0, 0))) ∧ Aside0 (Below w.heap.size w w'))
 case atStart => exact ⟨(y419), (0), (by first | rfl | (simp; done) | (simp [*]; done)), H', ⟨Nat.le_refl _⟩, ⟨by exact kr_ HO421.out⟩, ⟨by exact kb_ BK417.out⟩, ⟨bl_⟩⟩
 clear H'
 try clear c1
 try clear p2
 try clear c3
 try clear hcz5_0
 try clear hcz5_1
 try clear hcz9_0
 try clear hcz9_1
 try clear hfz5_0
 try clear hfz5_1
 try clear hfz9_0
 try clear hfz9_1
 obtain ⟨x4_1, x14_1, rfl, HA, HK1, HO_4, BK417, HB⟩ := hrel
 cases gk with
 | zero => exact absurd HA.out (by simp [impl_ChosenIn.l0])
 | succ k1 => ?_
 have H := HA.out
 clear HA
 simp only [impl_ChosenIn.l0] at H
 by_cases c10 : x14_1 < (l0_1.length : Int)
 rotate_left
 ·rw [if_neg c10] at H
  have c10b0 : decide (x14_1 < (l0_1.length : Int)) = false := decide_eq_false c10
  clear c10
  obtain ⟨hL, hE⟩ : x4_1.length ≤ 1048576 ∧ (StrSort.cmpct (StrSort.srt x4_1), true) = (r1, r2) := by
   split at H
   ·rename_i g; exact ⟨g, Option.some.inj H⟩
   ·cases H
  clear H
  simp only [Prod.mk.injEq] at hE
  obtain ⟨rfl, rfl⟩ := hE
  have NL := Aside0.mk hL
  have NL2 := Aside0.mk (show (StrSort.srt x4_1).length ≤ 1048576 by rw [StrSort.srt_length]; exact hL)
  clear hL
  go_wp2_with (first | (go_at_call 31; (with_reducible refine (StrSort.sort_calls (base := w.heap.size) (ok := fun _ => True) ?s1 NL.out).mono ?_); (case s1 => exact kr_ HO_4.out); rintro e w91 ⟨rfl, ho2, hg2⟩; have n1_ := Aside0.mk (Below.grown bl_ hg2 bz_ (Kd.R_base HO_4.out)); have n2_ := Aside0.mk ho2; clear HB HO_4; have HB := n1_; have HO_4 := n2_; clear n1_ n2_ ho2 hg2) | (go_at_call 32; (with_reducible refine (StrSort.compact_calls (base := w.heap.size) (ok := fun _ => True) ?s1 NL2.out).mono ?_); (case s1 => exact kr_ HO_4.out); rintro e w92 ⟨v92, rfl, ho2, hob, hg2⟩; have n1_ := Aside0.mk (Below.grown bl_ hg2 bz_ (Kd.R_base HO_4.out)); have n2_ := Aside0.mk ho2; clear HB HO_4; have HB := n1_; have HO_4 := n2_; clear n1_ n2_ ho2 hob hg2))
  go_ret2
  exact ⟨_, ng_, by exact kr_ HO_4.out, bl_⟩
 rw [if_pos c10] at H
 have c10b0 : decide (x14_1 < (l0_1.length : Int)) = true := decide_eq_true c10
 clear c10
 by_cases c11 : 0 ≤ x14_1
 rotate_left
 ·rw [if_neg c11] at H
  exact absurd H (by simp)
 rw [if_pos c11] at H
 have c11b0 : decide (0 ≤ x14_1) = true := decide_eq_true c11
 clear c11
 by_cases c12 : x14_1 < (l0_1.length : Int)
 rotate_left
 ·rw [if_neg c12] at H
  exact absurd H (by simp)
 rw [if_pos c12] at H
 have c12b0 : decide (x14_1 < (l0_1.length : Int)) = true := decide_eq_true c12
 clear c12
 by_cases c13 : (wrap64 (2 * (((rd_T54 l0_1 x14_1).f4).length : Int))) > (l0_0.length : Int)
 rotate_left
 ·rw [if_neg c13] at H
  have c13b0 : decide ((l0_0.length : Int) < (wrap64 (2 * (((rd_T54 l0_1 x14_1).f4).length : Int)))) = false := decide_eq_false c13
  clear c13
  have H' := Aside0.mk H
  clear H
  have p422 : 0 ≤ (x14_1 : Int) := of_decide_eq_true (by first | (with_reducible assumption) | assumption)
  have q422 : x14_1 < (l0_1.length : Int) := of_decide_eq_true (by first | (with_reducible assumption) | assumption)
  obtain ⟨ad422, A422_1, c422_1, A422_4, c422_4, e422, hx422_0, hx422_1, hx422_2, hx422_3, hx422_4, hl422_1, hi422_1, hl422_4, hi422_4⟩ := at_T54 HR0_1.out x14_1 p422 q422
  cases e422
  replace hx422_0 := (HB.out.cell (World.block_lt_of_cell? w _ hx422_0)).trans hx422_0
  replace hx422_1 := (HB.out.cell (World.block_lt_of_cell? w _ hx422_1)).trans hx422_1
  replace hx422_2 := (HB.out.cell (World.block_lt_of_cell? w _ hx422_2)).trans hx422_2
  replace hx422_3 := (HB.out.cell (World.block_lt_of_cell? w _ hx422_3)).trans hx422_3
  replace hx422_4 := (HB.out.cell (World.block_lt_of_cell? w _ hx422_4)).trans hx422_4
  have HR422_1 := Aside0.mk hi422_1
  have HC422_1 := Aside0.mk hl422_1
  clear hi422_1 hl422_1
  have HR422_4 := Aside0.mk hi422_4
  have HC422_4 := Aside0.mk hl422_4
  clear hi422_4 hl422_4
  replace p422 := eq_true p422
  replace q422 := eq_true q422
  go_wp2_with (first | ((with_reducible refine gate_dst (N := 6) rfl ?_); refine box_event rfl (N := 6) rfl (cs := #[.string (⟨#[]⟩ : ByteArray), .slice none 0 0, .bool false, .string (⟨#[]⟩ : ByteArray), .slice none 0 0]) (t := 54) gs_ ?_; intro gb423 hg w20 hbox hb; replace HO_4 := rb_ HO_4 hb; have BK423 := Aside0.mk (hbox); have GW423 := Aside0.mk ((by rw [hg]; exact bz_ : w.heap.size ≤ gb423)); have GE423 := GW423; replace HB := Aside0.mk (below_step bl_ hb); have NB417_423 := nl_ hg BK417; have NB423_417 := nm_ hg BK417; replace BK417 := bb_ BK417 hb; clear hb hbox hg; have hnb21 := NB423_417.out; have hnc21 := NB417_423.out; have hcz22_0 : w20.cell? ⟨gb423, 0, none⟩ = some (.string (⟨#[]⟩ : ByteArray)) := bc_ BK423.out 0; have hcz22_1 : w20.cell? ⟨gb423, 1, none⟩ = some (.slice none 0 0) := bc_ BK423.out 1; have hcz22_2 : w20.cell? ⟨gb423, 2, none⟩ = some (.bool false) := bc_ BK423.out 2; have hcz22_3 : w20.cell? ⟨gb423, 3, none⟩ = some (.string (⟨#[]⟩ : ByteArray)) := bc_ BK423.out 3; have hcz22_4 : w20.cell? ⟨gb423, 4, none⟩ = some (.slice none 0 0) := bc_ BK423.out 4; have hfz22_0 := blk_frozen BK423.out 0; have hfz22_1 := blk_frozen BK423.out 1; have hfz22_2 := blk_frozen BK423.out 2; have hfz22_3 := blk_frozen BK423.out 3; have hfz22_4 := blk_frozen BK423.out 4; have hcz23_0 : w20.cell? ⟨gb417, 0, none⟩ = some (.slice A0_0 l0_0.length c0_0) := bc_ BK417.out 0; have hcz23_1 : w20.cell? ⟨gb417, 1, none⟩ = some (.slice (some ad422) l0_1.length c0_1) := bc_ BK417.out 1; have hfz23_0 := blk_frozen BK417.out 0; have hfz23_1 := blk_frozen BK417.out 1))
  go_roundg k1
  case measure => have := HK1.out; omega
  case rel => exact ⟨(x4_1), (wrap64 (x14_1 + 1)), (by first | rfl | (simp; done) | (simp [*]; done)), H', ⟨by have := HK1.out; omega⟩, ⟨by exact kr_ (Kd.R_mono (Kd.R_far (p := ⟨gb423, 4, none⟩) (Kd.R_far (p := ⟨gb423, 3, none⟩) (Kd.R_far (p := ⟨gb423, 2, none⟩) (Kd.R_far (p := ⟨gb423, 1, none⟩) (Kd.R_far (p := ⟨gb423, 0, none⟩) (Kd.R_types HO_4.out BK423.out (by decide)) (fun _ hk => hk.2) (.string ((rd_T54 l0_1 x14_1).f0))) (fun _ hk => hk.2) (.slice A422_1 ((rd_T54 l0_1 x14_1).f1).length c422_1)) (fun _ hk => hk.2) (.bool ((rd_T54 l0_1 x14_1).f2))) (fun _ hk => hk.2) (.string ((rd_T54 l0_1 x14_1).f3))) (fun _ hk => hk.2) (.slice A422_4 ((rd_T54 l0_1 x14_1).f4).length c422_4)) (fun _ hk => trivial))⟩, ⟨kz_⟩, ⟨bl_⟩⟩
 rw [if_pos c13] at H
 have c13b0 : decide ((l0_0.length : Int) < (wrap64 (2 * (((rd_T54 l0_1 x14_1).f4).length : Int)))) = true := decide_eq_true c13
 clear c13
 by_cases c14 : x4_1.length < 8796093022208
 rotate_left
 ·rw [if_neg c14] at H
  exact absurd H (by simp)
 rw [if_pos c14] at H
 have LMc14 := Aside0.mk c14
 clear c14
 obtain ⟨y424, hy424⟩ : ∃ y_ : List ByteArray, y_ = (x4_1 ++ [(rd_T54 l0_1 x14_1).f3]) := ⟨_, rfl⟩
 replace H : (impl_ChosenIn.l0 k1 y424 l0_1 (l0_1.length : Int) (wrap64 (x14_1 + 1)) l0_0 l0_1) = some (r1, r2) := by first | (rw [hy424]; with_reducible exact H) | (have H2_ := (Option.bind_some _ _).symm.trans H; rw [hy424]; with_reducible exact H2_) | (have H2_ := (Option.bind_some _ _).symm.trans H; with_reducible exact H2_) | with_reducible exact H | (rw [hy424]; exact H) | exact H
 have Ny424 := Aside0.mk hy424
 clear hy424
 have H' := Aside0.mk H
 clear H
 have p422 : 0 ≤ (x14_1 : Int) := of_decide_eq_true (by first | (with_reducible assumption) | assumption)
 have q422 : x14_1 < (l0_1.length : Int) := of_decide_eq_true (by first | (with_reducible assumption) | assumption)
 obtain ⟨ad422, A422_1, c422_1, A422_4, c422_4, e422, hx422_0, hx422_1, hx422_2, hx422_3, hx422_4, hl422_1, hi422_1, hl422_4, hi422_4⟩ := at_T54 HR0_1.out x14_1 p422 q422
 cases e422
 replace hx422_0 := (HB.out.cell (World.block_lt_of_cell? w _ hx422_0)).trans hx422_0
 replace hx422_1 := (HB.out.cell (World.block_lt_of_cell? w _ hx422_1)).trans hx422_1
 replace hx422_2 := (HB.out.cell (World.block_lt_of_cell? w _ hx422_2)).trans hx422_2
 replace hx422_3 := (HB.out.cell (World.block_lt_of_cell? w _ hx422_3)).trans hx422_3
 replace hx422_4 := (HB.out.cell (World.block_lt_of_cell? w _ hx422_4)).trans hx422_4
 have HR422_1 := Aside0.mk hi422_1
 have HC422_1 := Aside0.mk hl422_1
 clear hi422_1 hl422_1
 have HR422_4 := Aside0.mk hi422_4
 have HC422_4 := Aside0.mk hl422_4
 clear hi422_4 hl422_4
 replace p422 := eq_true p422
 replace q422 := eq_true q422
 go_wp2_with (first | ((with_reducible refine gate_dst (N := 6) rfl ?_); refine box_event rfl (N := 6) rfl (cs := #[.string (⟨#[]⟩ : ByteArray), .slice none 0 0, .bool false, .string (⟨#[]⟩ : ByteArray), .slice none 0 0]) (t := 54) gs_ ?_; intro gb423 hg w15 hbox hb; replace HO_4 := rb_ HO_4 hb; have BK423 := Aside0.mk (hbox); have GW423 := Aside0.mk ((by rw [hg]; exact bz_ : w.heap.size ≤ gb423)); have GE423 := GW423; replace HB := Aside0.mk (below_step bl_ hb); have NB417_423 := nl_ hg BK417; have NB423_417 := nm_ hg BK417; replace BK417 := bb_ BK417 hb; clear hb hbox hg; have hnb16 := NB423_417.out; have hnc16 := NB417_423.out; have hcz17_0 : w15.cell? ⟨gb423, 0, none⟩ = some (.string (⟨#[]⟩ : ByteArray)) := bc_ BK423.out 0; have hcz17_1 : w15.cell? ⟨gb423, 1, none⟩ = some (.slice none 0 0) := bc_ BK423.out 1; have hcz17_2 : w15.cell? ⟨gb423, 2, none⟩ = some (.bool false) := bc_ BK423.out 2; have hcz17_3 : w15.cell? ⟨gb423, 3, none⟩ = some (.string (⟨#[]⟩ : ByteArray)) := bc_ BK423.out 3; have hcz17_4 : w15.cell? ⟨gb423, 4, none⟩ = some (.slice none 0 0) := bc_ BK423.out 4; have hfz17_0 := blk_frozen BK423.out 0; have hfz17_1 := blk_frozen BK423.out 1; have hfz17_2 := blk_frozen BK423.out 2; have hfz17_3 := blk_frozen BK423.out 3; have hfz17_4 := blk_frozen BK423.out 4; have hcz18_0 : w15.cell? ⟨gb417, 0, none⟩ = some (.slice A0_0 l0_0.length c0_0) := bc_ BK417.out 0; have hcz18_1 : w15.cell? ⟨gb417, 1, none⟩ = some (.slice (some ad422) l0_1.length c0_1) := bc_ BK417.out 1; have hfz18_0 := blk_frozen BK417.out 0; have hfz18_1 := blk_frozen BK417.out 1) | ((with_reducible refine gate_builtin (b := .append) (xs := #[.tmp 26, .tmp 29]) rfl ?_); at_builtin; refine Kd.R_append Kd.string (w0 := w) w.heap.size rfl (.tmp 26) (.tmp 29) 27 9 (.string ⟨#[]⟩) 16 rfl Try.underlying27 info9 rfl (by decide) (by omega) u4 x4_1 ((rd_T54 l0_1 x14_1).f3) [.string ((rd_T54 l0_1 x14_1).f3)] (fun _ => True) (fun _ => False) rfl (by first | (go_simp; done) | (go_simp; rfl)) ?aP (fun _ hk => hk.elim) ?aF ?aO ?aB ?aS ?aL ?_; (case aP => exact rfl); (case aB => exact bl_); (case aF => exact (fun _ _ => trivial)); (case aO => exact (by exact kr_ (Kd.R_mono (Kd.R_far (p := ⟨gb423, 4, none⟩) (Kd.R_far (p := ⟨gb423, 3, none⟩) (Kd.R_far (p := ⟨gb423, 2, none⟩) (Kd.R_far (p := ⟨gb423, 1, none⟩) (Kd.R_far (p := ⟨gb423, 0, none⟩) (Kd.R_types HO_4.out BK423.out (by decide)) (fun _ hk => hk.2) (.string ((rd_T54 l0_1 x14_1).f0))) (fun _ hk => hk.2) (.slice A422_1 ((rd_T54 l0_1 x14_1).f1).length c422_1)) (fun _ hk => hk.2) (.bool ((rd_T54 l0_1 x14_1).f2))) (fun _ hk => hk.2) (.string ((rd_T54 l0_1 x14_1).f3))) (fun _ hk => hk.2) (.slice A422_4 ((rd_T54 l0_1 x14_1).f4).length c422_4)) (fun _ hk => trivial)))); (case aS => exact bz_); (case aL => have := LMc14.out; omega); intro v425 w19 ho hb hg hat; rw [← Ny424.out] at ho; replace BK417 := Aside0.mk (blk_grown (g := gb417) (o := .cells #[.slice A0_0 l0_0.length c0_0, .slice (some ad422) l0_1.length c0_1] 33 (0, 0)) kz_ hg (Kd.R_ne HO_4.out BK417.out (by decide))); replace BK423 := Aside0.mk (blk_grown (g := gb423) (o := .cells #[.string ((rd_T54 l0_1 x14_1).f0), .slice A422_1 ((rd_T54 l0_1 x14_1).f1).length c422_1, .bool ((rd_T54 l0_1 x14_1).f2), .string ((rd_T54 l0_1 x14_1).f3), .slice A422_4 ((rd_T54 l0_1 x14_1).f4).length c422_4] 54 (0, 0)) (by (with_reducible repeat (first | refine blk_drewN ?_ _ | refine blk_drew ?_ | refine blk_alloc ?_ _)); refine blk_put (cs := #[.string ((rd_T54 l0_1 x14_1).f0), .slice A422_1 ((rd_T54 l0_1 x14_1).f1).length c422_1, .bool ((rd_T54 l0_1 x14_1).f2), .string ((rd_T54 l0_1 x14_1).f3), .slice none 0 0]) ?_ 4 _ rfl; (with_reducible repeat (first | refine blk_drewN ?_ _ | refine blk_drew ?_ | refine blk_alloc ?_ _)); refine blk_put (cs := #[.string ((rd_T54 l0_1 x14_1).f0), .slice A422_1 ((rd_T54 l0_1 x14_1).f1).length c422_1, .bool ((rd_T54 l0_1 x14_1).f2), .string (⟨#[]⟩ : ByteArray), .slice none 0 0]) ?_ 3 _ rfl; (with_reducible repeat (first | refine blk_drewN ?_ _ | refine blk_drew ?_ | refine blk_alloc ?_ _)); refine blk_put (cs := #[.string ((rd_T54 l0_1 x14_1).f0), .slice A422_1 ((rd_T54 l0_1 x14_1).f1).length c422_1, .bool false, .string (⟨#[]⟩ : ByteArray), .slice none 0 0]) ?_ 2 _ rfl; (with_reducible repeat (first | refine blk_drewN ?_ _ | refine blk_drew ?_ | refine blk_alloc ?_ _)); refine blk_put (cs := #[.string ((rd_T54 l0_1 x14_1).f0), .slice none 0 0, .bool false, .string (⟨#[]⟩ : ByteArray), .slice none 0 0]) ?_ 1 _ rfl; (with_reducible repeat (first | refine blk_drewN ?_ _ | refine blk_drew ?_ | refine blk_alloc ?_ _)); refine blk_put (cs := #[.string (⟨#[]⟩ : ByteArray), .slice none 0 0, .bool false, .string (⟨#[]⟩ : ByteArray), .slice none 0 0]) ?_ 0 _ rfl; exact kb_ BK423.out) hg (Kd.R_ne HO_4.out BK423.out (by decide))); replace HB := Aside0.mk (hb); have HO426 := Aside0.mk (ho); clear HO_4 ho hb hg hat))
 go_roundg k1
 case measure => have := HK1.out; omega
 case rel => exact ⟨(y424), (wrap64 (x14_1 + 1)), (by first | rfl | (simp; done) | (simp [*]; done)), H', ⟨by have := HK1.out; omega⟩, ⟨by exact kr_ HO426.out⟩, ⟨by exact kb_ BK417.out⟩, ⟨bl_⟩⟩

end Go.Proofs.Ytjpaoeeeiklfnaa.PSY
