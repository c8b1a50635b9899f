/- What this text proves: the machine calls of these functions return what the plain functions say. Conditions: as each theorem says. Printed by a program of this session out of the translation. -/
import Derived.Test.YtbnadnfggpnbgaaPSLx0
import Derived.Test.YtbnadnfggpnbgaaPSLx2
namespace Go.Proofs.Ytbnadnfggpnbgaa.PSL
open Go.RowKit Go.Proofs.YtbnadnfggpnbgaaW.PrintWords Go.Proofs.YtbnadnfggpnbgaaW.PrintLast Go.Proofs.YtbnadnfggpnbgaaW.PrintMore
attribute [local go_sem] max2_int min2_int max_two min_two max_three min_three max_four min_four   -- for this text's walks alone
set_option linter.unusedVariables false
set_option linter.unusedSimpArgs false

/-! ### spec_GoodLeases: function 18 -/
mutual
def spec_GoodLeases.j0 : Nat → Bool → Int → Int → List Int → Int → Int → List Int → Option (Bool)
 | 0, _, _, _, _, _, _, _ => none
 | k + 1, x44, x136000, x136001, x136002, x136003, x136004, x136005 => if x44 = true then (some false) else (spec_GoodLeases.l0 k x136002 (x136002.length : Int) 0 x136000 x136001 x136002 x136003 x136004 x136005)
def spec_GoodLeases.l0 : Nat → List Int → Int → Int → Int → Int → List Int → Int → Int → List Int → Option (Bool)
 | 0, _, _, _, _, _, _, _, _, _ => none
 | k + 1, x46, x47, x48, x136000, x136001, x136002, x136003, x136004, x136005 => if x48 < x47 then (if 0 ≤ x48 then (if x48 < (x46.length : Int) then (if (rd x46 x48) < 0 then (some false) else ((spec_l1In.f (rd x46 x48) (wrap64 (x136001 - x136000)) (wrap64 (x136001 + x136000))).bind fun t142 => (if t142 = true then (if x48 < (x136005.length : Int) then ((spec_l1In.f (rd x136005 x48) 0 x136004).bind fun t144 => (if t144 = true then (if x48 = x136003 then (spec_GoodLeases.l0 k x46 x47 (wrap64 (x48 + 1)) x136000 x136001 x136002 x136003 x136004 x136005) else (if (rd x136005 x48) > x136001 then (some false) else (spec_GoodLeases.l0 k x46 x47 (wrap64 (x48 + 1)) x136000 x136001 x136002 x136003 x136004 x136005))) else (some false))) else (none)) else (some false)))) else (none)) else (none)) else (some true)
end
def spec_GoodLeases.f (k : Nat) (a0_0 : Int) (a0_1 : Int) (l0_2 : List Int) (a0_3 : Int) (a0_4 : Int) (l0_5 : List Int) : Option (Bool) := (spec_l1In.f a0_0 0 1000).bind fun t136 => (if t136 = true then ((spec_l1In.f a0_1 0 1000000).bind fun t137 => (if t137 = true then ((spec_l8Nodes.f (l0_2.length : Int)).bind fun t138 => (if t138 = true then (if (l0_5.length : Int) = (l0_2.length : Int) then ((spec_l1In.f a0_3 (-1) (wrap64 ((l0_2.length : Int) - 1))).bind fun t139 => (if t139 = true then ((spec_l1In.f a0_4 0 2000000).bind fun t140 => (spec_GoodLeases.j0 k (!t140) a0_0 a0_1 l0_2 a0_3 a0_4 l0_5)) else (spec_GoodLeases.j0 k true a0_0 a0_1 l0_2 a0_3 a0_4 l0_5))) else (spec_GoodLeases.j0 k true a0_0 a0_1 l0_2 a0_3 a0_4 l0_5)) else (spec_GoodLeases.j0 k true a0_0 a0_1 l0_2 a0_3 a0_4 l0_5))) else (spec_GoodLeases.j0 k true a0_0 a0_1 l0_2 a0_3 a0_4 l0_5))) else (spec_GoodLeases.j0 k true a0_0 a0_1 l0_2 a0_3 a0_4 l0_5))
theorem spec_GoodLeases.mono_l : ∀ k, (∀ y0 y1 y2 y3 y4 y5 y6, LeO (spec_GoodLeases.j0 k y0 y1 y2 y3 y4 y5 y6) (spec_GoodLeases.j0 (k + 1) y0 y1 y2 y3 y4 y5 y6)) ∧ (∀ y0 y1 y2 y3 y4 y5 y6 y7 y8, LeO (spec_GoodLeases.l0 k y0 y1 y2 y3 y4 y5 y6 y7 y8) (spec_GoodLeases.l0 (k + 1) y0 y1 y2 y3 y4 y5 y6 y7 y8))
 | 0 => ⟨fun _ _ _ _ _ _ _ r h => by simp [spec_GoodLeases.j0] at h, fun _ _ _ _ _ _ _ _ _ r h => by simp [spec_GoodLeases.l0] at h⟩
 | k + 1 => by
  obtain ⟨ih0, ih1⟩ := spec_GoodLeases.mono_l k
  refine ⟨?_, ?_⟩
  ·intro y0 y1 y2 y3 y4 y5 y6
   unfold spec_GoodLeases.j0
   repeat' first
   | (with_reducible exact ih0 _ _ _ _ _ _ _)
   | (with_reducible exact ih1 _ _ _ _ _ _ _ _ _)
   | (with_reducible exact LeO.refl _)
   | (with_reducible exact LeO.none _)
   | (with_reducible refine LeO.ite ?_ ?_)
   | (with_reducible refine LeO.bind ?_ (fun _ => ?_))
   | exact ih0 _ _ _ _ _ _ _
   | exact ih1 _ _ _ _ _ _ _ _ _
   | exact LeO.none _
   | refine LeO.ite ?_ ?_
   | refine LeO.bind ?_ (fun _ => ?_)
  ·intro y0 y1 y2 y3 y4 y5 y6 y7 y8
   unfold spec_GoodLeases.l0
   repeat' first
   | (with_reducible exact ih0 _ _ _ _ _ _ _)
   | (with_reducible exact ih1 _ _ _ _ _ _ _ _ _)
   | (with_reducible exact LeO.refl _)
   | (with_reducible exact LeO.none _)
   | (with_reducible refine LeO.ite ?_ ?_)
   | (with_reducible refine LeO.bind ?_ (fun _ => ?_))
   | exact ih0 _ _ _ _ _ _ _
   | exact ih1 _ _ _ _ _ _ _ _ _
   | exact LeO.none _
   | refine LeO.ite ?_ ?_
   | refine LeO.bind ?_ (fun _ => ?_)
theorem spec_GoodLeases.mono : ∀ a0 a1 a2 a3 a4 a5 k, LeO (spec_GoodLeases.f k a0 a1 a2 a3 a4 a5) (spec_GoodLeases.f (k + 1) a0 a1 a2 a3 a4 a5) := by
 intro a0 a1 a2 a3 a4 a5 k
 obtain ⟨ih0, ih1⟩ := spec_GoodLeases.mono_l k
 unfold spec_GoodLeases.f
 repeat' first
   | (with_reducible exact ih0 _ _ _ _ _ _ _)
   | (with_reducible exact ih1 _ _ _ _ _ _ _ _ _)
   | (with_reducible exact LeO.refl _)
   | (with_reducible exact LeO.none _)
   | (with_reducible refine LeO.ite ?_ ?_)
   | (with_reducible refine LeO.bind ?_ (fun _ => ?_))
   | exact ih0 _ _ _ _ _ _ _
   | exact ih1 _ _ _ _ _ _ _ _ _
   | exact LeO.none _
   | refine LeO.ite ?_ ?_
   | refine LeO.bind ?_ (fun _ => ?_)
def spec_GoodLeases.T7 : Bool × List (List Nat × List Nat) := (true, [([], []), ([0], [0]), ([1], [1]), ([2], [2]), ([2], [2]), ([4, 2], [2, 4]), ([2], [2]), ([6, 2], [2, 6]), ([5, 7, 2], [2, 5, 7]), ([2], [2]), ([9, 2], [2, 9]), ([2], [2]), ([11, 2], [2, 11]), ([10, 12, 2], [2, 10, 12]), ([3, 8, 13, 2, 2], [2, 3, 8, 13]), ([14, 2], [2, 14]), ([2, 15], [2, 15]), ([16, 14], [16]), ([17], [17]), ([18, 17], [17, 18]), ([17], [17]), ([19, 20, 17], [17, 19, 20]), ([21, 17], [17, 21]), ([17], [17]), ([23, 17], [17, 23]), ([22, 24, 17, 17], [17, 22, 24]), ([25, 17], [17, 25]), ([17, 26], [17, 26]), ([27, 25], [27]), ([28], [28]), ([28], [28]), ([30, 28], [28, 30]), ([29, 31, 28], [28, 29, 31]), ([32, 28, 28], [28, 32]), ([33], [33]), ([34, 33], [33, 34]), ([33], [33]), ([35, 36, 33], [33, 35, 36]), ([37, 33], [33, 37]), ([33], [33]), ([39, 33], [33, 39]), ([38, 40, 33], [33, 38, 40]), ([33, 41, 28], [28, 33, 41]), ([28, 42], [28, 42])])
def spec_GoodLeases.B7 : List Nat := [0, 1, 3, 7, 7, 23, 7, 71, 247, 7, 519, 7, 2055, 7687, 16383, 32767, 65535, 131071, 262143, 524287, 262143, 2097151, 4194303, 262143, 8650751, 33554431, 67108863, 134217727, 268435455, 536870911, 536870911, 1610612735, 4294967295, 8589934591, 17179869183, 34359738367, 17179869183, 137438953471, 274877906943, 17179869183, 566935683071, 2199023255551, 4398046511103, 8796093022207]
theorem spec_GoodLeases.tab7 : rtab .any (opsOf Try.f18 7) = spec_GoodLeases.T7 := by kernel_rfl
theorem spec_GoodLeases.bits7 : waitsOk spec_GoodLeases.T7.2 spec_GoodLeases.B7 = true := by kernel_rfl
set_option maxHeartbeats 8000000 in
set_option maxRecDepth 100000 in
theorem spec_GoodLeases.calls (k : Nat) (a0_0 : Int) (a0_1 : Int) (A0_2 : Option Addr) (c0_2 : Nat) (l0_2 : List Int) (a0_3 : Int) (a0_4 : Int) (A0_5 : Option Addr) (c0_5 : Nat) (l0_5 : List Int) (r : Bool) (w : World) (hr0_2 : Kd.C (Kd.int .i64) w A0_2 l0_2.length l0_2) (hc0_2 : l0_2.length ≤ c0_2) (hr0_5 : Kd.C (Kd.int .i64) w A0_5 l0_5.length l0_5) (hc0_5 : l0_5.length ≤ c0_5) (h : spec_GoodLeases.f k a0_0 a0_1 l0_2 a0_3 a0_4 l0_5 = some r) :
  Calls Try.prog 18 #[.agg #[.int .i64 a0_0, .int .i64 a0_1, .slice A0_2 l0_2.length c0_2, .int .i64 a0_3, .int .i64 a0_4, .slice A0_5 l0_5.length c0_5]] w fun e w' => e = .returned (.bool r) ∧ Below w.heap.size w w' := by
 have hu24 := Try.underlying24
 have HR0_2 := Aside0.mk hr0_2
 have HC0_2 := Aside0.mk hc0_2
 clear hr0_2 hc0_2
 have HR0_5 := Aside0.mk hr0_5
 have HC0_5 := Aside0.mk hc0_5
 clear hr0_5 hc0_5
 have HB := Aside0.mk (Below.refl w.heap.size w)
 have H : ((spec_l1In.f a0_0 0 1000).bind fun t136 => (if t136 = true then ((spec_l1In.f a0_1 0 1000000).bind fun t137 => (if t137 = true then ((spec_l8Nodes.f (l0_2.length : Int)).bind fun t138 => (if t138 = true then (if (l0_5.length : Int) = (l0_2.length : Int) then ((spec_l1In.f a0_3 (-1) (wrap64 ((l0_2.length : Int) - 1))).bind fun t139 => (if t139 = true then ((spec_l1In.f a0_4 0 2000000).bind fun t140 => (spec_GoodLeases.j0 k (!t140) a0_0 a0_1 l0_2 a0_3 a0_4 l0_5)) else (spec_GoodLeases.j0 k true a0_0 a0_1 l0_2 a0_3 a0_4 l0_5))) else (spec_GoodLeases.j0 k true a0_0 a0_1 l0_2 a0_3 a0_4 l0_5)) else (spec_GoodLeases.j0 k true a0_0 a0_1 l0_2 a0_3 a0_4 l0_5))) else (spec_GoodLeases.j0 k true a0_0 a0_1 l0_2 a0_3 a0_4 l0_5))) else (spec_GoodLeases.j0 k true a0_0 a0_1 l0_2 a0_3 a0_4 l0_5))) = some r := h
 clear h
 have HC2 := Aside0.mk H
 clear H
 go_enter Try.func18, Try.ntmps18
 go_upto_region 2 with (first | ((with_reducible refine gate_dst (N := 1) rfl ?_); (try (refine gate_guard (by rfl) ?_; dsimp only)); refine box_event rfl (N := 1) rfl (cs := #[.int .i64 a0_0, .int .i64 a0_1, .slice A0_2 l0_2.length c0_2, .int .i64 a0_3, .int .i64 a0_4, .slice A0_5 l0_5.length c0_5]) (t := 24) gs_ ?_; intro gb135 hg w3 hbox hb; have BK135 := Aside0.mk (hbox); have GW135 := Aside0.mk ((by rw [hg]; exact bz_ : w.heap.size ≤ gb135)); have GE135 := GW135; replace HB := Aside0.mk (below_step bl_ hb); clear hb hbox hg; have hcz4_0 : w3.cell? ⟨gb135, 0, none⟩ = some (.int .i64 a0_0) := bc_ BK135.out 0; have hcz4_1 : w3.cell? ⟨gb135, 1, none⟩ = some (.int .i64 a0_1) := bc_ BK135.out 1; have hcz4_2 : w3.cell? ⟨gb135, 2, none⟩ = some (.slice A0_2 l0_2.length c0_2) := bc_ BK135.out 2; have hcz4_3 : w3.cell? ⟨gb135, 3, none⟩ = some (.int .i64 a0_3) := bc_ BK135.out 3; have hcz4_4 : w3.cell? ⟨gb135, 4, none⟩ = some (.int .i64 a0_4) := bc_ BK135.out 4; have hcz4_5 : w3.cell? ⟨gb135, 5, none⟩ = some (.slice A0_5 l0_5.length c0_5) := bc_ BK135.out 5; have hfz4_0 := blk_frozen BK135.out 0; have hfz4_1 := blk_frozen BK135.out 1; have hfz4_2 := blk_frozen BK135.out 2; have hfz4_3 := blk_frozen BK135.out 3; have hfz4_4 := blk_frozen BK135.out 4; have hfz4_5 := blk_frozen BK135.out 5))
 (try simp only [Act.put, List.setIfInBounds_toArray, List.set_cons_zero, List.set_cons_succ])
 go_cut [44] (fun v44 wc => ∃ (kq : Nat) (x44_1 : Bool), v44 = .bool x44_1 ∧ Aside0 (spec_GoodLeases.j0 kq x44_1 a0_0 a0_1 l0_2 a0_3 a0_4 l0_5 = some r) ∧ Aside0 (kq ≤ k) ∧ Aside0 (wc.heap[gb135]? = some (.cells #[.int .i64 a0_0, .int .i64 a0_1, (.slice A0_2 l0_2.length c0_2), .int .i64 a0_3, .int .i64 a0_4, (.slice A0_5 l0_5.length c0_5)] 24 (0, 0))) ∧ Aside0 (Below w.heap.size w wc))
 case first =>
  have H := HC2.out
  clear HC2
  replace H := Option.bind_eq_some_iff.mp H
  obtain ⟨t136, A50, H⟩ := H
  replace H : (if t136 = true then ((spec_l1In.f a0_1 0 1000000).bind fun t137 => (if t137 = true then ((spec_l8Nodes.f (l0_2.length : Int)).bind fun t138 => (if t138 = true then (if (l0_5.length : Int) = (l0_2.length : Int) then ((spec_l1In.f a0_3 (-1) (wrap64 ((l0_2.length : Int) - 1))).bind fun t139 => (if t139 = true then ((spec_l1In.f a0_4 0 2000000).bind fun t140 => (spec_GoodLeases.j0 k (!t140) a0_0 a0_1 l0_2 a0_3 a0_4 l0_5)) else (spec_GoodLeases.j0 k true a0_0 a0_1 l0_2 a0_3 a0_4 l0_5))) else (spec_GoodLeases.j0 k true a0_0 a0_1 l0_2 a0_3 a0_4 l0_5)) else (spec_GoodLeases.j0 k true a0_0 a0_1 l0_2 a0_3 a0_4 l0_5))) else (spec_GoodLeases.j0 k true a0_0 a0_1 l0_2 a0_3 a0_4 l0_5))) else (spec_GoodLeases.j0 k true a0_0 a0_1 l0_2 a0_3 a0_4 l0_5)) = some r := H
  have A5 := Aside0.mk A50
  clear A50
  by_cases c6 : t136 = true
  rotate_left
  ·replace c6 := Bool.eq_false_iff.mpr c6
   subst c6
   have H1 : (spec_GoodLeases.j0 k true a0_0 a0_1 l0_2 a0_3 a0_4 l0_5) = some r := by rw [if_neg (show ¬ (false = true) by decide)] at H; exact H
   clear H
   have H := H1
   clear H1
   have H' := Aside0.mk H
   clear H
   have hcz20_0 : w3.cell? ⟨gb135, 0, none⟩ = some (.int .i64 a0_0) := bc_ BK135.out 0
   have hcz20_1 : w3.cell? ⟨gb135, 1, none⟩ = some (.int .i64 a0_1) := bc_ BK135.out 1
   have hcz20_2 : w3.cell? ⟨gb135, 2, none⟩ = some (.slice A0_2 l0_2.length c0_2) := bc_ BK135.out 2
   have hcz20_3 : w3.cell? ⟨gb135, 3, none⟩ = some (.int .i64 a0_3) := bc_ BK135.out 3
   have hcz20_4 : w3.cell? ⟨gb135, 4, none⟩ = some (.int .i64 a0_4) := bc_ BK135.out 4
   have hcz20_5 : w3.cell? ⟨gb135, 5, none⟩ = some (.slice A0_5 l0_5.length c0_5) := bc_ BK135.out 5
   have hfz20_0 := blk_frozen BK135.out 0
   have hfz20_1 := blk_frozen BK135.out 1
   have hfz20_2 := blk_frozen BK135.out 2
   have hfz20_3 := blk_frozen BK135.out 3
   have hfz20_4 := blk_frozen BK135.out 4
   have hfz20_5 := blk_frozen BK135.out 5
   go_wp2_with (first | ((with_reducible refine gate_callee (f := 45) rfl ?_); refine goesL_ (some 11) rfl rfl Try.func45 (by kernel_rfl) rfl #[.int .i64 a0_0, .int .i64 0, .int .i64 1000] rfl nc_ ?_; (with_reducible refine (spec_l1In.calls a0_0 0 1000 false _ A5.out).mono ?_); rintro e w' ⟨rfl, ⟨nd, rfl⟩⟩; refine ⟨_, rfl, ?_⟩))
   go_meet
   case rel => exact ⟨_, (true), (by first | rfl | (simp; done) | (simp [*]; done)), H', ⟨by first | omega | exact Nat.le_refl _⟩, ⟨by exact kb_ BK135.out⟩, ⟨bl_⟩⟩
  subst c6
  have H1 : ((spec_l1In.f a0_1 0 1000000).bind fun t137 => (if t137 = true then ((spec_l8Nodes.f (l0_2.length : Int)).bind fun t138 => (if t138 = true then (if (l0_5.length : Int) = (l0_2.length : Int) then ((spec_l1In.f a0_3 (-1) (wrap64 ((l0_2.length : Int) - 1))).bind fun t139 => (if t139 = true then ((spec_l1In.f a0_4 0 2000000).bind fun t140 => (spec_GoodLeases.j0 k (!t140) a0_0 a0_1 l0_2 a0_3 a0_4 l0_5)) else (spec_GoodLeases.j0 k true a0_0 a0_1 l0_2 a0_3 a0_4 l0_5))) else (spec_GoodLeases.j0 k true a0_0 a0_1 l0_2 a0_3 a0_4 l0_5)) else (spec_GoodLeases.j0 k true a0_0 a0_1 l0_2 a0_3 a0_4 l0_5))) else (spec_GoodLeases.j0 k true a0_0 a0_1 l0_2 a0_3 a0_4 l0_5))) = some r := by rw [if_pos rfl] at H; exact H
  clear H
  have H := H1
  clear H1
  replace H := Option.bind_eq_some_iff.mp H
  obtain ⟨t137, A70, H⟩ := H
  replace H : (if t137 = true then ((spec_l8Nodes.f (l0_2.length : Int)).bind fun t138 => (if t138 = true then (if (l0_5.length : Int) = (l0_2.length : Int) then ((spec_l1In.f a0_3 (-1) (wrap64 ((l0_2.length : Int) - 1))).bind fun t139 => (if t139 = true then ((spec_l1In.f a0_4 0 2000000).bind fun t140 => (spec_GoodLeases.j0 k (!t140) a0_0 a0_1 l0_2 a0_3 a0_4 l0_5)) else (spec_GoodLeases.j0 k true a0_0 a0_1 l0_2 a0_3 a0_4 l0_5))) else (spec_GoodLeases.j0 k true a0_0 a0_1 l0_2 a0_3 a0_4 l0_5)) else (spec_GoodLeases.j0 k true a0_0 a0_1 l0_2 a0_3 a0_4 l0_5))) else (spec_GoodLeases.j0 k true a0_0 a0_1 l0_2 a0_3 a0_4 l0_5)) = some r := H
  have A7 := Aside0.mk A70
  clear A70
  by_cases c8 : t137 = true
  rotate_left
  ·replace c8 := Bool.eq_false_iff.mpr c8
   subst c8
   have H1 : (spec_GoodLeases.j0 k true a0_0 a0_1 l0_2 a0_3 a0_4 l0_5) = some r := by rw [if_neg (show ¬ (false = true) by decide)] at H; exact H
   clear H
   have H := H1
   clear H1
   have H' := Aside0.mk H
   clear H
   have hcz19_0 : w3.cell? ⟨gb135, 0, none⟩ = some (.int .i64 a0_0) := bc_ BK135.out 0
   have hcz19_1 : w3.cell? ⟨gb135, 1, none⟩ = some (.int .i64 a0_1) := bc_ BK135.out 1
   have hcz19_2 : w3.cell? ⟨gb135, 2, none⟩ = some (.slice A0_2 l0_2.length c0_2) := bc_ BK135.out 2
   have hcz19_3 : w3.cell? ⟨gb135, 3, none⟩ = some (.int .i64 a0_3) := bc_ BK135.out 3
   have hcz19_4 : w3.cell? ⟨gb135, 4, none⟩ = some (.int .i64 a0_4) := bc_ BK135.out 4
   have hcz19_5 : w3.cell? ⟨gb135, 5, none⟩ = some (.slice A0_5 l0_5.length c0_5) := bc_ BK135.out 5
   have hfz19_0 := blk_frozen BK135.out 0
   have hfz19_1 := blk_frozen BK135.out 1
   have hfz19_2 := blk_frozen BK135.out 2
   have hfz19_3 := blk_frozen BK135.out 3
   have hfz19_4 := blk_frozen BK135.out 4
   have hfz19_5 := blk_frozen BK135.out 5
   go_wp2_with (first | ((with_reducible refine gate_callee (f := 45) rfl ?_); refine goesL_ (some 11) rfl rfl Try.func45 (by kernel_rfl) rfl #[.int .i64 a0_0, .int .i64 0, .int .i64 1000] rfl nc_ ?_; (with_reducible refine (spec_l1In.calls a0_0 0 1000 true _ A5.out).mono ?_); rintro e w' ⟨rfl, ⟨nd, rfl⟩⟩; refine ⟨_, rfl, ?_⟩) | (go_at_call 45; (with_reducible refine (spec_l1In.calls a0_1 0 1000000 false _ A7.out).mono ?_); rintro e w' ⟨rfl, ⟨nd, rfl⟩⟩))
   go_meet
   case rel => exact ⟨_, (true), (by first | rfl | (simp; done) | (simp [*]; done)), H', ⟨by first | omega | exact Nat.le_refl _⟩, ⟨by exact kb_ BK135.out⟩, ⟨bl_⟩⟩
  subst c8
  have H1 : ((spec_l8Nodes.f (l0_2.length : Int)).bind fun t138 => (if t138 = true then (if (l0_5.length : Int) = (l0_2.length : Int) then ((spec_l1In.f a0_3 (-1) (wrap64 ((l0_2.length : Int) - 1))).bind fun t139 => (if t139 = true then ((spec_l1In.f a0_4 0 2000000).bind fun t140 => (spec_GoodLeases.j0 k (!t140) a0_0 a0_1 l0_2 a0_3 a0_4 l0_5)) else (spec_GoodLeases.j0 k true a0_0 a0_1 l0_2 a0_3 a0_4 l0_5))) else (spec_GoodLeases.j0 k true a0_0 a0_1 l0_2 a0_3 a0_4 l0_5)) else (spec_GoodLeases.j0 k true a0_0 a0_1 l0_2 a0_3 a0_4 l0_5))) = some r := by rw [if_pos rfl] at H; exact H
  clear H
  have H := H1
  clear H1
  replace H := Option.bind_eq_some_iff.mp H
  obtain ⟨t138, A90, H⟩ := H
  replace H : (if t138 = true then (if (l0_5.length : Int) = (l0_2.length : Int) then ((spec_l1In.f a0_3 (-1) (wrap64 ((l0_2.length : Int) - 1))).bind fun t139 => (if t139 = true then ((spec_l1In.f a0_4 0 2000000).bind fun t140 => (spec_GoodLeases.j0 k (!t140) a0_0 a0_1 l0_2 a0_3 a0_4 l0_5)) else (spec_GoodLeases.j0 k true a0_0 a0_1 l0_2 a0_3 a0_4 l0_5))) else (spec_GoodLeases.j0 k true a0_0 a0_1 l0_2 a0_3 a0_4 l0_5)) else (spec_GoodLeases.j0 k true a0_0 a0_1 l0_2 a0_3 a0_4 l0_5)) = some r := H
  have A9 := Aside0.mk A90
  clear A90
  by_cases c10 : t138 = true
  rotate_left
  ·replace c10 := Bool.eq_false_iff.mpr c10
   subst c10
   have H1 : (spec_GoodLeases.j0 k true a0_0 a0_1 l0_2 a0_3 a0_4 l0_5) = some r := by rw [if_neg (show ¬ (false = true) by decide)] at H; exact H
   clear H
   have H := H1
   clear H1
   have H' := Aside0.mk H
   clear H
   have hcz18_0 : w3.cell? ⟨gb135, 0, none⟩ = some (.int .i64 a0_0) := bc_ BK135.out 0
   have hcz18_1 : w3.cell? ⟨gb135, 1, none⟩ = some (.int .i64 a0_1) := bc_ BK135.out 1
   have hcz18_2 : w3.cell? ⟨gb135, 2, none⟩ = some (.slice A0_2 l0_2.length c0_2) := bc_ BK135.out 2
   have hcz18_3 : w3.cell? ⟨gb135, 3, none⟩ = some (.int .i64 a0_3) := bc_ BK135.out 3
   have hcz18_4 : w3.cell? ⟨gb135, 4, none⟩ = some (.int .i64 a0_4) := bc_ BK135.out 4
   have hcz18_5 : w3.cell? ⟨gb135, 5, none⟩ = some (.slice A0_5 l0_5.length c0_5) := bc_ BK135.out 5
   have hfz18_0 := blk_frozen BK135.out 0
   have hfz18_1 := blk_frozen BK135.out 1
   have hfz18_2 := blk_frozen BK135.out 2
   have hfz18_3 := blk_frozen BK135.out 3
   have hfz18_4 := blk_frozen BK135.out 4
   have hfz18_5 := blk_frozen BK135.out 5
   go_wp2_with (first | ((with_reducible refine gate_callee (f := 45) rfl ?_); refine goesL_ (some 11) rfl rfl Try.func45 (by kernel_rfl) rfl #[.int .i64 a0_0, .int .i64 0, .int .i64 1000] rfl nc_ ?_; (with_reducible refine (spec_l1In.calls a0_0 0 1000 true _ A5.out).mono ?_); rintro e w' ⟨rfl, ⟨nd, rfl⟩⟩; refine ⟨_, rfl, ?_⟩) | (go_at_call 45; (with_reducible refine (spec_l1In.calls a0_1 0 1000000 true _ A7.out).mono ?_); rintro e w' ⟨rfl, ⟨nd, rfl⟩⟩) | (go_at_call 44; (with_reducible refine (spec_l8Nodes.calls (l0_2.length : Int) false _ A9.out).mono ?_); rintro e w' ⟨rfl, ⟨nd, rfl⟩⟩))
   go_meet
   case rel => exact ⟨_, (true), (by first | rfl | (simp; done) | (simp [*]; done)), H', ⟨by first | omega | exact Nat.le_refl _⟩, ⟨by exact kb_ BK135.out⟩, ⟨bl_⟩⟩
  subst c10
  have H1 : (if (l0_5.length : Int) = (l0_2.length : Int) then ((spec_l1In.f a0_3 (-1) (wrap64 ((l0_2.length : Int) - 1))).bind fun t139 => (if t139 = true then ((spec_l1In.f a0_4 0 2000000).bind fun t140 => (spec_GoodLeases.j0 k (!t140) a0_0 a0_1 l0_2 a0_3 a0_4 l0_5)) else (spec_GoodLeases.j0 k true a0_0 a0_1 l0_2 a0_3 a0_4 l0_5))) else (spec_GoodLeases.j0 k true a0_0 a0_1 l0_2 a0_3 a0_4 l0_5)) = some r := by rw [if_pos rfl] at H; exact H
  clear H
  have H := H1
  clear H1
  by_cases c11 : (l0_5.length : Int) = (l0_2.length : Int)
  rotate_left
  ·rw [if_neg c11] at H
   have c11b0 : ((l0_5.length : Int) == (l0_2.length : Int)) = false := beq_eq_false_iff_ne.mpr c11
   have c11b1 : ((l0_5.length : Int) != (l0_2.length : Int)) = true := bne_iff_ne.mpr c11
   have c11b2 : (l0_5.length == l0_2.length) = false := by first | simpa using c11 | (simp at c11 ⊢; omega)
   (first | rw [c11b0] | (simp only [i64_w, i32_w]; rw [c11b0]) | skip)
   have H' := Aside0.mk H
   clear H
   have hcz17_0 : w3.cell? ⟨gb135, 0, none⟩ = some (.int .i64 a0_0) := bc_ BK135.out 0
   have hcz17_1 : w3.cell? ⟨gb135, 1, none⟩ = some (.int .i64 a0_1) := bc_ BK135.out 1
   have hcz17_2 : w3.cell? ⟨gb135, 2, none⟩ = some (.slice A0_2 l0_2.length c0_2) := bc_ BK135.out 2
   have hcz17_3 : w3.cell? ⟨gb135, 3, none⟩ = some (.int .i64 a0_3) := bc_ BK135.out 3
   have hcz17_4 : w3.cell? ⟨gb135, 4, none⟩ = some (.int .i64 a0_4) := bc_ BK135.out 4
   have hcz17_5 : w3.cell? ⟨gb135, 5, none⟩ = some (.slice A0_5 l0_5.length c0_5) := bc_ BK135.out 5
   have hfz17_0 := blk_frozen BK135.out 0
   have hfz17_1 := blk_frozen BK135.out 1
   have hfz17_2 := blk_frozen BK135.out 2
   have hfz17_3 := blk_frozen BK135.out 3
   have hfz17_4 := blk_frozen BK135.out 4
   have hfz17_5 := blk_frozen BK135.out 5
   go_wp2_with (first | ((with_reducible refine gate_callee (f := 45) rfl ?_); refine goesL_ (some 11) rfl rfl Try.func45 (by kernel_rfl) rfl #[.int .i64 a0_0, .int .i64 0, .int .i64 1000] rfl nc_ ?_; (with_reducible refine (spec_l1In.calls a0_0 0 1000 true _ A5.out).mono ?_); rintro e w' ⟨rfl, ⟨nd, rfl⟩⟩; refine ⟨_, rfl, ?_⟩) | (go_at_call 45; (with_reducible refine (spec_l1In.calls a0_1 0 1000000 true _ A7.out).mono ?_); rintro e w' ⟨rfl, ⟨nd, rfl⟩⟩) | (go_at_call 44; (with_reducible refine (spec_l8Nodes.calls (l0_2.length : Int) true _ A9.out).mono ?_); rintro e w' ⟨rfl, ⟨nd, rfl⟩⟩))
   go_meet
   case rel => exact ⟨_, (true), (by first | rfl | (simp; done) | (simp [*]; done)), H', ⟨by first | omega | exact Nat.le_refl _⟩, ⟨by exact kb_ BK135.out⟩, ⟨bl_⟩⟩
  rw [if_pos c11] at H
  have c11b0 : ((l0_5.length : Int) == (l0_2.length : Int)) = true := beq_iff_eq.mpr c11
  have c11b1 : ((l0_5.length : Int) != (l0_2.length : Int)) = false := bne_eq_false_iff_eq.mpr c11
  have c11b2 : (l0_5.length == l0_2.length) = true := by first | simpa using c11 | (simp at c11 ⊢; omega)
  clear c11
  (first | rw [c11b0] | (simp only [i64_w, i32_w]; rw [c11b0]) | skip)
  replace H := Option.bind_eq_some_iff.mp H
  obtain ⟨t139, A120, H⟩ := H
  replace H : (if t139 = true then ((spec_l1In.f a0_4 0 2000000).bind fun t140 => (spec_GoodLeases.j0 k (!t140) a0_0 a0_1 l0_2 a0_3 a0_4 l0_5)) else (spec_GoodLeases.j0 k true a0_0 a0_1 l0_2 a0_3 a0_4 l0_5)) = some r := H
  have A12 := Aside0.mk A120
  clear A120
  by_cases c13 : t139 = true
  rotate_left
  ·replace c13 := Bool.eq_false_iff.mpr c13
   subst c13
   have H1 : (spec_GoodLeases.j0 k true a0_0 a0_1 l0_2 a0_3 a0_4 l0_5) = some r := by rw [if_neg (show ¬ (false = true) by decide)] at H; exact H
   clear H
   have H := H1
   clear H1
   have H' := Aside0.mk H
   clear H
   have hcz16_0 : w3.cell? ⟨gb135, 0, none⟩ = some (.int .i64 a0_0) := bc_ BK135.out 0
   have hcz16_1 : w3.cell? ⟨gb135, 1, none⟩ = some (.int .i64 a0_1) := bc_ BK135.out 1
   have hcz16_2 : w3.cell? ⟨gb135, 2, none⟩ = some (.slice A0_2 l0_2.length c0_2) := bc_ BK135.out 2
   have hcz16_3 : w3.cell? ⟨gb135, 3, none⟩ = some (.int .i64 a0_3) := bc_ BK135.out 3
   have hcz16_4 : w3.cell? ⟨gb135, 4, none⟩ = some (.int .i64 a0_4) := bc_ BK135.out 4
   have hcz16_5 : w3.cell? ⟨gb135, 5, none⟩ = some (.slice A0_5 l0_5.length c0_5) := bc_ BK135.out 5
   have hfz16_0 := blk_frozen BK135.out 0
   have hfz16_1 := blk_frozen BK135.out 1
   have hfz16_2 := blk_frozen BK135.out 2
   have hfz16_3 := blk_frozen BK135.out 3
   have hfz16_4 := blk_frozen BK135.out 4
   have hfz16_5 := blk_frozen BK135.out 5
   go_wp2_with (first | ((with_reducible refine gate_callee (f := 45) rfl ?_); refine goesL_ (some 11) rfl rfl Try.func45 (by kernel_rfl) rfl #[.int .i64 a0_0, .int .i64 0, .int .i64 1000] rfl nc_ ?_; (with_reducible refine (spec_l1In.calls a0_0 0 1000 true _ A5.out).mono ?_); rintro e w' ⟨rfl, ⟨nd, rfl⟩⟩; refine ⟨_, rfl, ?_⟩) | (go_at_call 45; (with_reducible refine (spec_l1In.calls a0_1 0 1000000 true _ A7.out).mono ?_); rintro e w' ⟨rfl, ⟨nd, rfl⟩⟩) | (go_at_call 44; (with_reducible refine (spec_l8Nodes.calls (l0_2.length : Int) true _ A9.out).mono ?_); rintro e w' ⟨rfl, ⟨nd, rfl⟩⟩) | (go_at_call 45; (with_reducible refine (spec_l1In.calls a0_3 (-1) (wrap64 ((l0_2.length : Int) - 1)) false _ A12.out).mono ?_); rintro e w' ⟨rfl, ⟨nd, rfl⟩⟩))
   go_meet
   case rel => exact ⟨_, (true), (by first | rfl | (simp; done) | (simp [*]; done)), H', ⟨by first | omega | exact Nat.le_refl _⟩, ⟨by exact kb_ BK135.out⟩, ⟨bl_⟩⟩
  subst c13
  have H1 : ((spec_l1In.f a0_4 0 2000000).bind fun t140 => (spec_GoodLeases.j0 k (!t140) a0_0 a0_1 l0_2 a0_3 a0_4 l0_5)) = some r := by rw [if_pos rfl] at H; exact H
  clear H
  have H := H1
  clear H1
  replace H := Option.bind_eq_some_iff.mp H
  obtain ⟨t140, A140, H⟩ := H
  replace H : (spec_GoodLeases.j0 k (!t140) a0_0 a0_1 l0_2 a0_3 a0_4 l0_5) = some r := H
  have A14 := Aside0.mk A140
  clear A140
  have H' := Aside0.mk H
  clear H
  have hcz15_0 : w3.cell? ⟨gb135, 0, none⟩ = some (.int .i64 a0_0) := bc_ BK135.out 0
  have hcz15_1 : w3.cell? ⟨gb135, 1, none⟩ = some (.int .i64 a0_1) := bc_ BK135.out 1
  have hcz15_2 : w3.cell? ⟨gb135, 2, none⟩ = some (.slice A0_2 l0_2.length c0_2) := bc_ BK135.out 2
  have hcz15_3 : w3.cell? ⟨gb135, 3, none⟩ = some (.int .i64 a0_3) := bc_ BK135.out 3
  have hcz15_4 : w3.cell? ⟨gb135, 4, none⟩ = some (.int .i64 a0_4) := bc_ BK135.out 4
  have hcz15_5 : w3.cell? ⟨gb135, 5, none⟩ = some (.slice A0_5 l0_5.length c0_5) := bc_ BK135.out 5
  have hfz15_0 := blk_frozen BK135.out 0
  have hfz15_1 := blk_frozen BK135.out 1
  have hfz15_2 := blk_frozen BK135.out 2
  have hfz15_3 := blk_frozen BK135.out 3
  have hfz15_4 := blk_frozen BK135.out 4
  have hfz15_5 := blk_frozen BK135.out 5
  go_wp2_with (first | ((with_reducible refine gate_callee (f := 45) rfl ?_); refine goesL_ (some 11) rfl rfl Try.func45 (by kernel_rfl) rfl #[.int .i64 a0_0, .int .i64 0, .int .i64 1000] rfl nc_ ?_; (with_reducible refine (spec_l1In.calls a0_0 0 1000 true _ A5.out).mono ?_); rintro e w' ⟨rfl, ⟨nd, rfl⟩⟩; refine ⟨_, rfl, ?_⟩) | (go_at_call 45; (with_reducible refine (spec_l1In.calls a0_1 0 1000000 true _ A7.out).mono ?_); rintro e w' ⟨rfl, ⟨nd, rfl⟩⟩) | (go_at_call 44; (with_reducible refine (spec_l8Nodes.calls (l0_2.length : Int) true _ A9.out).mono ?_); rintro e w' ⟨rfl, ⟨nd, rfl⟩⟩) | (go_at_call 45; (with_reducible refine (spec_l1In.calls a0_3 (-1) (wrap64 ((l0_2.length : Int) - 1)) true _ A12.out).mono ?_); rintro e w' ⟨rfl, ⟨nd, rfl⟩⟩) | (go_at_call 45; (with_reducible refine (spec_l1In.calls a0_4 0 2000000 t140 _ A14.out).mono ?_); rintro e w' ⟨rfl, ⟨nd, rfl⟩⟩))
  go_meet
  case rel => exact ⟨_, (!t140), (by first | rfl | (simp; done) | (simp [*]; done)), H', ⟨by first | omega | exact Nat.le_refl _⟩, ⟨by exact kb_ BK135.out⟩, ⟨bl_⟩⟩
 clear HC2
 try clear c1
 try clear p2
 try clear c4
 try clear c6
 try clear p6
 try clear c8
 try clear c10
 try clear c11
 try clear c11b0
 try clear c11b1
 try clear c11b2
 try clear c13
 try clear c18
 try clear hcz15_0
 try clear hcz15_1
 try clear hcz15_2
 try clear hcz15_3
 try clear hcz15_4
 try clear hcz15_5
 try clear hcz16_0
 try clear hcz16_1
 try clear hcz16_2
 try clear hcz16_3
 try clear hcz16_4
 try clear hcz16_5
 try clear hcz17_0
 try clear hcz17_1
 try clear hcz17_2
 try clear hcz17_3
 try clear hcz17_4
 try clear hcz17_5
 try clear hcz18_0
 try clear hcz18_1
 try clear hcz18_2
 try clear hcz18_3
 try clear hcz18_4
 try clear hcz18_5
 try clear hcz19_0
 try clear hcz19_1
 try clear hcz19_2
 try clear hcz19_3
 try clear hcz19_4
 try clear hcz19_5
 try clear hcz20_0
 try clear hcz20_1
 try clear hcz20_2
 try clear hcz20_3
 try clear hcz20_4
 try clear hcz20_5
 try clear hcz4_0
 try clear hcz4_1
 try clear hcz4_2
 try clear hcz4_3
 try clear hcz4_4
 try clear hcz4_5
 try clear hfz15_0
 try clear hfz15_1
 try clear hfz15_2
 try clear hfz15_3
 try clear hfz15_4
 try clear hfz15_5
 try clear hfz16_0
 try clear hfz16_1
 try clear hfz16_2
 try clear hfz16_3
 try clear hfz16_4
 try clear hfz16_5
 try clear hfz17_0
 try clear hfz17_1
 try clear hfz17_2
 try clear hfz17_3
 try clear hfz17_4
 try clear hfz17_5
 try clear hfz18_0
 try clear hfz18_1
 try clear hfz18_2
 try clear hfz18_3
 try clear hfz18_4
 try clear hfz18_5
 try clear hfz19_0
 try clear hfz19_1
 try clear hfz19_2
 try clear hfz19_3
 try clear hfz19_4
 try clear hfz19_5
 try clear hfz20_0
 try clear hfz20_1
 try clear hfz20_2
 try clear hfz20_3
 try clear hfz20_4
 try clear hfz20_5
 try clear hfz4_0
 try clear hfz4_1
 try clear hfz4_2
 try clear hfz4_3
 try clear hfz4_4
 try clear hfz4_5
 obtain ⟨kq, x44_1, rfl, HA, HJ1, BK135, HB⟩ := hcut
 cases kq with
 | zero => exact absurd HA.out (by simp [spec_GoodLeases.j0])
 | succ kj1 => ?_
 have H := HA.out
 clear HA
 simp only [spec_GoodLeases.j0] at H
 by_cases c21 : x44_1 = true
 ·subst c21
  have H1 : (some false) = some r := by rw [if_pos rfl] at H; exact H
  clear H
  have H := H1
  clear H1
  obtain rfl := Option.some.inj H
  go_wp2
  go_ret
  exact ⟨ng_, bl_⟩
 replace c21 := Bool.eq_false_iff.mpr c21
 subst c21
 have H1 : (spec_GoodLeases.l0 kj1 l0_2 (l0_2.length : Int) 0 a0_0 a0_1 l0_2 a0_3 a0_4 l0_5) = some r := by rw [if_neg (show ¬ (false = true) by decide)] at H; exact H
 clear H
 have H := H1
 clear H1
 have H' := Aside0.mk H
 clear H
 have hcz22_0 : wc.cell? ⟨gb135, 0, none⟩ = some (.int .i64 a0_0) := bc_ BK135.out 0
 have hcz22_1 : wc.cell? ⟨gb135, 1, none⟩ = some (.int .i64 a0_1) := bc_ BK135.out 1
 have hcz22_2 : wc.cell? ⟨gb135, 2, none⟩ = some (.slice A0_2 l0_2.length c0_2) := bc_ BK135.out 2
 have hcz22_3 : wc.cell? ⟨gb135, 3, none⟩ = some (.int .i64 a0_3) := bc_ BK135.out 3
 have hcz22_4 : wc.cell? ⟨gb135, 4, none⟩ = some (.int .i64 a0_4) := bc_ BK135.out 4
 have hcz22_5 : wc.cell? ⟨gb135, 5, none⟩ = some (.slice A0_5 l0_5.length c0_5) := bc_ BK135.out 5
 have hfz22_0 := blk_frozen BK135.out 0
 have hfz22_1 := blk_frozen BK135.out 1
 have hfz22_2 := blk_frozen BK135.out 2
 have hfz22_3 := blk_frozen BK135.out 3
 have hfz22_4 := blk_frozen BK135.out 4
 have hfz22_5 := blk_frozen BK135.out 5
 go_wp2
 go_loopg [48] kj1 (fun kq v48 w' => ∃ (x48_2 : Int), v48 = .int .i64 x48_2 ∧ Aside0 (spec_GoodLeases.l0 kq l0_2 (l0_2.length : Int) x48_2 a0_0 a0_1 l0_2 a0_3 a0_4 l0_5 = some r) ∧ Aside0 (kq ≤ kj1) ∧ Aside0 (w'.heap[gb135]? = some (.cells #[.int .i64 a0_0, .int .i64 a0_1, (.slice A0_2 l0_2.length c0_2), .int .i64 a0_3, .int .i64 a0_4, (.slice A0_5 l0_5.length c0_5)] 24 (0, 0))) ∧ Aside0 (Below w.heap.size w w'))
 case atStart => exact ⟨(0), (by first | rfl | (simp; done) | (simp [*]; done)), H', ⟨Nat.le_refl _⟩, ⟨by exact kb_ BK135.out⟩, ⟨bl_⟩⟩
 clear H'
 try clear c1
 try clear c2
 try clear p2
 try clear c4
 try clear c6
 try clear p6
 try clear c8
 try clear c10
 try clear c11
 try clear c11b0
 try clear c11b1
 try clear c11b2
 try clear c13
 try clear c18
 try clear c21
 try clear hcz15_0
 try clear hcz15_1
 try clear hcz15_2
 try clear hcz15_3
 try clear hcz15_4
 try clear hcz15_5
 try clear hcz16_0
 try clear hcz16_1
 try clear hcz16_2
 try clear hcz16_3
 try clear hcz16_4
 try clear hcz16_5
 try clear hcz17_0
 try clear hcz17_1
 try clear hcz17_2
 try clear hcz17_3
 try clear hcz17_4
 try clear hcz17_5
 try clear hcz18_0
 try clear hcz18_1
 try clear hcz18_2
 try clear hcz18_3
 try clear hcz18_4
 try clear hcz18_5
 try clear hcz19_0
 try clear hcz19_1
 try clear hcz19_2
 try clear hcz19_3
 try clear hcz19_4
 try clear hcz19_5
 try clear hcz20_0
 try clear hcz20_1
 try clear hcz20_2
 try clear hcz20_3
 try clear hcz20_4
 try clear hcz20_5
 try clear hcz22_0
 try clear hcz22_1
 try clear hcz22_2
 try clear hcz22_3
 try clear hcz22_4
 try clear hcz22_5
 try clear hcz4_0
 try clear hcz4_1
 try clear hcz4_2
 try clear hcz4_3
 try clear hcz4_4
 try clear hcz4_5
 try clear hfz15_0
 try clear hfz15_1
 try clear hfz15_2
 try clear hfz15_3
 try clear hfz15_4
 try clear hfz15_5
 try clear hfz16_0
 try clear hfz16_1
 try clear hfz16_2
 try clear hfz16_3
 try clear hfz16_4
 try clear hfz16_5
 try clear hfz17_0
 try clear hfz17_1
 try clear hfz17_2
 try clear hfz17_3
 try clear hfz17_4
 try clear hfz17_5
 try clear hfz18_0
 try clear hfz18_1
 try clear hfz18_2
 try clear hfz18_3
 try clear hfz18_4
 try clear hfz18_5
 try clear hfz19_0
 try clear hfz19_1
 try clear hfz19_2
 try clear hfz19_3
 try clear hfz19_4
 try clear hfz19_5
 try clear hfz20_0
 try clear hfz20_1
 try clear hfz20_2
 try clear hfz20_3
 try clear hfz20_4
 try clear hfz20_5
 try clear hfz22_0
 try clear hfz22_1
 try clear hfz22_2
 try clear hfz22_3
 try clear hfz22_4
 try clear hfz22_5
 try clear hfz4_0
 try clear hfz4_1
 try clear hfz4_2
 try clear hfz4_3
 try clear hfz4_4
 try clear hfz4_5
 try clear p2
 try clear p6
 obtain ⟨x48_2, rfl, HA, HK2, BK135, HB⟩ := hrel
 cases gk with
 | zero => exact absurd HA.out (by simp [spec_GoodLeases.l0])
 | succ k2 => ?_
 have H := HA.out
 clear HA
 simp only [spec_GoodLeases.l0] at H
 by_cases c23 : x48_2 < (l0_2.length : Int)
 rotate_left
 ·rw [if_neg c23] at H
  have c23b0 : decide (x48_2 < (l0_2.length : Int)) = false := decide_eq_false c23
  clear c23
  obtain rfl := Option.some.inj H
  go_wp2
  go_ret
  exact ⟨ng_, bl_⟩
 rw [if_pos c23] at H
 have c23b0 : decide (x48_2 < (l0_2.length : Int)) = true := decide_eq_true c23
 clear c23
 by_cases c24 : 0 ≤ x48_2
 rotate_left
 ·rw [if_neg c24] at H
  exact absurd H (by simp)
 rw [if_pos c24] at H
 have c24b0 : decide (0 ≤ x48_2) = true := decide_eq_true c24
 clear c24
 by_cases c25 : x48_2 < (l0_2.length : Int)
 rotate_left
 ·rw [if_neg c25] at H
  exact absurd H (by simp)
 rw [if_pos c25] at H
 have c25b0 : decide (x48_2 < (l0_2.length : Int)) = true := decide_eq_true c25
 clear c25
 by_cases c26 : (rd l0_2 x48_2) < 0
 ·rw [if_pos c26] at H
  have c26b0 : decide ((rd l0_2 x48_2) < 0) = true := decide_eq_true c26
  clear c26
  obtain rfl := Option.some.inj H
  have p141 : 0 ≤ (x48_2 : Int) := of_decide_eq_true (by first | (with_reducible assumption) | assumption)
  have q141 : x48_2 < (l0_2.length : Int) := of_decide_eq_true (by first | (with_reducible assumption) | assumption)
  obtain ⟨ad141, e141, hx141_0⟩ := Kd.at_int HR0_2.out x48_2 p141 q141
  cases e141
  replace hx141_0 := (HB.out.cell (World.block_lt_of_cell? w _ hx141_0)).trans hx141_0
  replace p141 := eq_true p141
  replace q141 := eq_true q141
  try go_wp2
  replace BK135 := Aside0.mk (blk_drew BK135.out)
  replace HB := Aside0.mk (below_drew1 HB.out)
  refine start_ (n := 44) (S := fun w' => True) (ds := []) #[false, false, false, false, false, false, false, false, false, false, false, false, false, false, false, false, false, false, false, false, false, false, false, false, false, false, false, false, false, false, false, false, false, false, false, false, false, false, false, false, false, false, false, false] (by kernel_rfl) rfl rfl trivial (fun hHeld => ?_); refine with_tabW spec_GoodLeases.tab7 spec_GoodLeases.bits7 (fun HT_ HW_ => ?_)
  generalize wr.drew = w27 at BK135 HB hHeld ⊢
  refine pu_ 0 (some 53) (h := ?_)
  refine pu_ 1 (some 54) (h := ?_)
  refine pu_ 2 (some 55) (h := ?_)
  refine px_ 3 (some 56) (h := ?_)
  refine px_ 4 (some 57) (h := ?_)
  refine px_ 5 (some 58) (h := ?_)
  refine px_ 6 (some 59) (h := ?_)
  refine px_ 7 (some 60) (h := ?_)
  refine px_ 8 (some 61) (h := ?_)
  refine px_ 9 (some 62) (h := ?_)
  refine px_ 10 (some 63) (h := ?_)
  refine px_ 11 (some 64) (h := ?_)
  refine px_ 12 (some 65) (h := ?_)
  refine px_ 13 (some 66) (h := ?_)
  refine px_ 14 (some 67) (h := ?_)
  refine px_ 15 (some 68) (h := ?_)
  refine pu_ 16 (some 69) (h := ?_)
  refine pu_ 17 (some 70) (h := ?_)
  refine px_ 18 (some 71) (h := ?_)
  refine px_ 19 (some 72) (h := ?_)
  refine px_ 20 (some 73) (h := ?_)
  refine px_ 21 (some 74) (h := ?_)
  refine px_ 22 (some 75) (h := ?_)
  refine px_ 23 (some 76) (h := ?_)
  refine px_ 24 (some 77) (h := ?_)
  refine px_ 25 (some 78) (h := ?_)
  refine px_ 26 (some 79) (h := ?_)
  refine pu_ 27 (some 80) (h := ?_)
  refine pu_ 28 (some 81) (h := ?_)
  refine px_ 29 (some 82) (h := ?_)
  refine px_ 30 (some 83) (h := ?_)
  refine px_ 31 (some 84) (h := ?_)
  refine px_ 32 (some 85) (h := ?_)
  refine px_ 33 (some 86) (h := ?_)
  refine px_ 34 (some 87) (h := ?_)
  refine px_ 35 (some 88) (h := ?_)
  refine px_ 36 (some 89) (h := ?_)
  refine px_ 37 (some 90) (h := ?_)
  refine px_ 38 (some 91) (h := ?_)
  refine px_ 39 (some 92) (h := ?_)
  refine px_ 40 (some 93) (h := ?_)
  refine px_ 41 (some 94) (h := ?_)
  refine px_ 42 (some 95) (h := ?_)
  refine pu_ 43 (some 96) (h := ?_)
  refine done_ (done_of HT_.out (by kernel_rfl)) ?_
  try go_wp2
  go_ret
  exact ⟨ng_, bl_⟩
 rw [if_neg c26] at H
 have c26b0 : decide ((rd l0_2 x48_2) < 0) = false := decide_eq_false c26
 clear c26
 replace H := Option.bind_eq_some_iff.mp H
 obtain ⟨t142, A280, H⟩ := H
 replace H : (if t142 = true then (if x48_2 < (l0_5.length : Int) then ((spec_l1In.f (rd l0_5 x48_2) 0 a0_4).bind fun t144 => (if t144 = true then (if x48_2 = a0_3 then (spec_GoodLeases.l0 k2 l0_2 (l0_2.length : Int) (wrap64 (x48_2 + 1)) a0_0 a0_1 l0_2 a0_3 a0_4 l0_5) else (if (rd l0_5 x48_2) > a0_1 then (some false) else (spec_GoodLeases.l0 k2 l0_2 (l0_2.length : Int) (wrap64 (x48_2 + 1)) a0_0 a0_1 l0_2 a0_3 a0_4 l0_5))) else (some false))) else (none)) else (some false)) = some r := H
 have A28 := Aside0.mk A280
 clear A280
 by_cases c29 : t142 = true
 rotate_left
 ·replace c29 := Bool.eq_false_iff.mpr c29
  subst c29
  have H1 : (some false) = some r := by rw [if_neg (show ¬ (false = true) by decide)] at H; exact H
  clear H
  have H := H1
  clear H1
  obtain rfl := Option.some.inj H
  have p141 : 0 ≤ (x48_2 : Int) := of_decide_eq_true (by first | (with_reducible assumption) | assumption)
  have q141 : x48_2 < (l0_2.length : Int) := of_decide_eq_true (by first | (with_reducible assumption) | assumption)
  obtain ⟨ad141, e141, hx141_0⟩ := Kd.at_int HR0_2.out x48_2 p141 q141
  cases e141
  replace hx141_0 := (HB.out.cell (World.block_lt_of_cell? w _ hx141_0)).trans hx141_0
  replace p141 := eq_true p141
  replace q141 := eq_true q141
  try go_wp2
  replace BK135 := Aside0.mk (blk_drew BK135.out)
  replace HB := Aside0.mk (below_drew1 HB.out)
  refine start_ (n := 44) (S := fun w' => w'.cell? ⟨gb135, 0, none⟩ = some (.int .i64 a0_0) ∧ w'.cell? ⟨gb135, 1, none⟩ = some (.int .i64 a0_1) ∧ w'.cell? ⟨gb135, 2, none⟩ = some (.slice (some ad141) l0_2.length c0_2) ∧ w'.cell? ⟨gb135, 3, none⟩ = some (.int .i64 a0_3) ∧ w'.cell? ⟨gb135, 4, none⟩ = some (.int .i64 a0_4) ∧ w'.cell? ⟨gb135, 5, none⟩ = some (.slice A0_5 l0_5.length c0_5)) (ds := []) #[false, false, false, false, false, false, false, false, false, false, false, false, false, false, false, false, false, false, false, false, false, false, false, false, false, false, false, false, false, false, false, false, false, false, false, false, false, false, false, false, false, false, false, false] (by kernel_rfl) rfl rfl ⟨bc_ BK135.out 0, bc_ BK135.out 1, bc_ BK135.out 2, bc_ BK135.out 3, bc_ BK135.out 4, bc_ BK135.out 5⟩ (fun hHeld => ?_); refine with_tabW spec_GoodLeases.tab7 spec_GoodLeases.bits7 (fun HT_ HW_ => ?_)
  generalize wr.drew = w39 at BK135 HB hHeld ⊢
  refine pu_ 0 (some 53) (h := ?_)
  refine pu_ 1 (some 54) (h := ?_)
  refine pu_ 2 (some 55) (h := ?_)
  refine pu_ 3 (some 56) (h := ?_)
  refine pu_ 4 (some 57) (h := ?_)
  refine pu_ 6 (some 59) (h := ?_)
  refine pu_ 9 (some 62) (h := ?_)
  refine pu_ 11 (some 64) (h := ?_)
  refine tk6_ 5 (some 58) (h := ?_)
  refine tk6_ 7 (some 60) (h := ?_)
  refine pu_ 8 (some 61) (h := ?_)
  refine tk6_ 10 (some 63) (h := ?_)
  refine tk6_ 12 (some 65) (h := ?_)
  refine pu_ 13 (some 66) (h := ?_)
  refine on_ 14 (some 67) (h := fun K hK => ?_)
  refine goes_ Try.func45 (by kernel_rfl) rfl #[.int .i64 (rd l0_2 x48_2), .int .i64 (wrap64 (a0_1 - a0_0)), .int .i64 (wrap64 (a0_1 + a0_0))] (by rfl) rfl rfl nc_ ?_
  with_reducible refine (spec_l1In.calls (rd l0_2 x48_2) (wrap64 (a0_1 - a0_0)) (wrap64 (a0_1 + a0_0)) false _ A28.out).mono ?_
  rintro e w' ⟨rfl, ⟨nd, rfl⟩⟩
  refine ⟨_, rfl, ?_⟩
  refine hK.out _ _ ⟨bc_ BK135.out 0, bc_ BK135.out 1, bc_ BK135.out 2, bc_ BK135.out 3, bc_ BK135.out 4, bc_ BK135.out 5⟩ (fun hHeld => ?_)
  clear hK K
  refine norm_ nn_ ?_
  refine pu_ 15 (some 68) (h := ?_)
  refine pu_ 16 (some 69) (h := ?_)
  refine pu_ 17 (some 70) (h := ?_)
  refine px_ 18 (some 71) (h := ?_)
  refine px_ 19 (some 72) (h := ?_)
  refine px_ 20 (some 73) (h := ?_)
  refine px_ 21 (some 74) (h := ?_)
  refine px_ 22 (some 75) (h := ?_)
  refine px_ 23 (some 76) (h := ?_)
  refine px_ 24 (some 77) (h := ?_)
  refine px_ 25 (some 78) (h := ?_)
  refine px_ 26 (some 79) (h := ?_)
  refine pu_ 27 (some 80) (h := ?_)
  refine pu_ 28 (some 81) (h := ?_)
  refine px_ 29 (some 82) (h := ?_)
  refine px_ 30 (some 83) (h := ?_)
  refine px_ 31 (some 84) (h := ?_)
  refine px_ 32 (some 85) (h := ?_)
  refine px_ 33 (some 86) (h := ?_)
  refine px_ 34 (some 87) (h := ?_)
  refine px_ 35 (some 88) (h := ?_)
  refine px_ 36 (some 89) (h := ?_)
  refine px_ 37 (some 90) (h := ?_)
  refine px_ 38 (some 91) (h := ?_)
  refine px_ 39 (some 92) (h := ?_)
  refine px_ 40 (some 93) (h := ?_)
  refine px_ 41 (some 94) (h := ?_)
  refine px_ 42 (some 95) (h := ?_)
  refine pu_ 43 (some 96) (h := ?_)
  refine done_ (done_of HT_.out (by kernel_rfl)) ?_
  try go_wp2
  go_ret
  exact ⟨ng_, bl_⟩
 subst c29
 have H1 : (if x48_2 < (l0_5.length : Int) then ((spec_l1In.f (rd l0_5 x48_2) 0 a0_4).bind fun t144 => (if t144 = true then (if x48_2 = a0_3 then (spec_GoodLeases.l0 k2 l0_2 (l0_2.length : Int) (wrap64 (x48_2 + 1)) a0_0 a0_1 l0_2 a0_3 a0_4 l0_5) else (if (rd l0_5 x48_2) > a0_1 then (some false) else (spec_GoodLeases.l0 k2 l0_2 (l0_2.length : Int) (wrap64 (x48_2 + 1)) a0_0 a0_1 l0_2 a0_3 a0_4 l0_5))) else (some false))) else (none)) = some r := by rw [if_pos rfl] at H; exact H
 clear H
 have H := H1
 clear H1
 by_cases c30 : x48_2 < (l0_5.length : Int)
 rotate_left
 ·rw [if_neg c30] at H
  exact absurd H (by simp)
 rw [if_pos c30] at H
 have c30b0 : decide (x48_2 < (l0_5.length : Int)) = true := decide_eq_true c30
 clear c30
 replace H := Option.bind_eq_some_iff.mp H
 obtain ⟨t144, A310, H⟩ := H
 replace H : (if t144 = true then (if x48_2 = a0_3 then (spec_GoodLeases.l0 k2 l0_2 (l0_2.length : Int) (wrap64 (x48_2 + 1)) a0_0 a0_1 l0_2 a0_3 a0_4 l0_5) else (if (rd l0_5 x48_2) > a0_1 then (some false) else (spec_GoodLeases.l0 k2 l0_2 (l0_2.length : Int) (wrap64 (x48_2 + 1)) a0_0 a0_1 l0_2 a0_3 a0_4 l0_5))) else (some false)) = some r := H
 have A31 := Aside0.mk A310
 clear A310
 by_cases c32 : t144 = true
 rotate_left
 ·replace c32 := Bool.eq_false_iff.mpr c32
  subst c32
  have H1 : (some false) = some r := by rw [if_neg (show ¬ (false = true) by decide)] at H; exact H
  clear H
  have H := H1
  clear H1
  obtain rfl := Option.some.inj H
  have p141 : 0 ≤ (x48_2 : Int) := of_decide_eq_true (by first | (with_reducible assumption) | assumption)
  have q141 : x48_2 < (l0_2.length : Int) := of_decide_eq_true (by first | (with_reducible assumption) | assumption)
  obtain ⟨ad141, e141, hx141_0⟩ := Kd.at_int HR0_2.out x48_2 p141 q141
  cases e141
  replace hx141_0 := (HB.out.cell (World.block_lt_of_cell? w _ hx141_0)).trans hx141_0
  replace p141 := eq_true p141
  replace q141 := eq_true q141
  try go_wp2
  replace BK135 := Aside0.mk (blk_drew BK135.out)
  replace HB := Aside0.mk (below_drew1 HB.out)
  have p143 : 0 ≤ (x48_2 : Int) := of_decide_eq_true (by first | (with_reducible assumption) | assumption)
  have q143 : x48_2 < (l0_5.length : Int) := of_decide_eq_true (by first | (with_reducible assumption) | assumption)
  obtain ⟨ad143, e143, hx143_0⟩ := Kd.at_int HR0_5.out x48_2 p143 q143
  have hw143_0 := hx143_0
  cases e143
  replace hx143_0 := (HB.out.cell (World.block_lt_of_cell? w _ hx143_0)).trans hx143_0
  replace p143 := eq_true p143
  replace q143 := eq_true q143
  refine start_ (n := 44) (S := fun w' => w'.cell? ⟨gb135, 0, none⟩ = some (.int .i64 a0_0) ∧ w'.cell? ⟨gb135, 1, none⟩ = some (.int .i64 a0_1) ∧ w'.cell? ⟨gb135, 2, none⟩ = some (.slice (some ad141) l0_2.length c0_2) ∧ w'.cell? ⟨gb135, 3, none⟩ = some (.int .i64 a0_3) ∧ w'.cell? ⟨gb135, 4, none⟩ = some (.int .i64 a0_4) ∧ w'.cell? ⟨gb135, 5, none⟩ = some (.slice (some ad143) l0_5.length c0_5) ∧ w'.cell? (ad143.add (x48_2).toNat) = some (.int .i64 (rd l0_5 x48_2))) (ds := []) #[false, false, false, false, false, false, false, false, false, false, false, false, false, false, false, false, false, false, false, false, false, false, false, false, false, false, false, false, false, false, false, false, false, false, false, false, false, false, false, false, false, false, false, false] (by kernel_rfl) rfl rfl ⟨bc_ BK135.out 0, bc_ BK135.out 1, bc_ BK135.out 2, bc_ BK135.out 3, bc_ BK135.out 4, bc_ BK135.out 5, ((HB.out.cell (World.block_lt_of_cell? w _ hw143_0)).trans hw143_0)⟩ (fun hHeld => ?_); refine with_tabW spec_GoodLeases.tab7 spec_GoodLeases.bits7 (fun HT_ HW_ => ?_)
  generalize wr.drew = w38 at BK135 HB hx143_0 hHeld ⊢
  refine pu_ 0 (some 53) (h := ?_)
  refine pu_ 1 (some 54) (h := ?_)
  refine pu_ 2 (some 55) (h := ?_)
  refine pu_ 3 (some 56) (h := ?_)
  refine pu_ 4 (some 57) (h := ?_)
  refine pu_ 6 (some 59) (h := ?_)
  refine pu_ 9 (some 62) (h := ?_)
  refine pu_ 11 (some 64) (h := ?_)
  refine tk7_ 5 (some 58) (h := ?_)
  refine tk7_ 7 (some 60) (h := ?_)
  refine pu_ 8 (some 61) (h := ?_)
  refine tk7_ 10 (some 63) (h := ?_)
  refine tk7_ 12 (some 65) (h := ?_)
  refine pu_ 13 (some 66) (h := ?_)
  refine on_ 14 (some 67) (h := fun K hK => ?_)
  refine goes_ Try.func45 (by kernel_rfl) rfl #[.int .i64 (rd l0_2 x48_2), .int .i64 (wrap64 (a0_1 - a0_0)), .int .i64 (wrap64 (a0_1 + a0_0))] (by rfl) rfl rfl nc_ ?_
  with_reducible refine (spec_l1In.calls (rd l0_2 x48_2) (wrap64 (a0_1 - a0_0)) (wrap64 (a0_1 + a0_0)) true _ A28.out).mono ?_
  rintro e w' ⟨rfl, ⟨nd, rfl⟩⟩
  refine ⟨_, rfl, ?_⟩
  refine hK.out _ _ ⟨bc_ BK135.out 0, bc_ BK135.out 1, bc_ BK135.out 2, bc_ BK135.out 3, bc_ BK135.out 4, bc_ BK135.out 5, ((HB.out.cell (World.block_lt_of_cell? w _ hw143_0)).trans hw143_0)⟩ (fun hHeld => ?_)
  clear hK K
  refine norm_ nn_ ?_
  refine pu_ 15 (some 68) (h := ?_)
  refine pu_ 16 (some 69) (h := ?_)
  refine pu_ 17 (some 70) (h := ?_)
  refine pu_ 18 (some 71) (h := ?_)
  refine pu_ 20 (some 73) (h := ?_)
  refine pu_ 23 (some 76) (h := ?_)
  refine tk7_ 19 (some 72) (h := ?_)
  refine pu_ 21 (some 74) (h := ?_)
  refine tk7_ 22 (some 75) (h := ?_)
  refine tk7_ 24 (some 77) (h := ?_)
  refine on_ 25 (some 78) (h := fun K hK => ?_)
  refine goes_ Try.func45 (by kernel_rfl) rfl #[.int .i64 (rd l0_5 x48_2), .int .i64 0, .int .i64 a0_4] (by rfl) rfl rfl nc_ ?_
  with_reducible refine (spec_l1In.calls (rd l0_5 x48_2) 0 a0_4 false _ A31.out).mono ?_
  rintro e w' ⟨rfl, ⟨nd, rfl⟩⟩
  refine ⟨_, rfl, ?_⟩
  refine hK.out _ _ ⟨bc_ BK135.out 0, bc_ BK135.out 1, bc_ BK135.out 2, bc_ BK135.out 3, bc_ BK135.out 4, bc_ BK135.out 5, ((HB.out.cell (World.block_lt_of_cell? w _ hw143_0)).trans hw143_0)⟩ (fun hHeld => ?_)
  clear hK K
  refine norm_ nn_ ?_
  refine pu_ 26 (some 79) (h := ?_)
  refine pu_ 27 (some 80) (h := ?_)
  refine pu_ 28 (some 81) (h := ?_)
  refine px_ 29 (some 82) (h := ?_)
  refine px_ 30 (some 83) (h := ?_)
  refine px_ 31 (some 84) (h := ?_)
  refine px_ 32 (some 85) (h := ?_)
  refine px_ 33 (some 86) (h := ?_)
  refine px_ 34 (some 87) (h := ?_)
  refine px_ 35 (some 88) (h := ?_)
  refine px_ 36 (some 89) (h := ?_)
  refine px_ 37 (some 90) (h := ?_)
  refine px_ 38 (some 91) (h := ?_)
  refine px_ 39 (some 92) (h := ?_)
  refine px_ 40 (some 93) (h := ?_)
  refine px_ 41 (some 94) (h := ?_)
  refine px_ 42 (some 95) (h := ?_)
  refine pu_ 43 (some 96) (h := ?_)
  refine done_ (done_of HT_.out (by kernel_rfl)) ?_
  try go_wp2
  go_ret
  exact ⟨ng_, bl_⟩
 subst c32
 have H1 : (if x48_2 = a0_3 then (spec_GoodLeases.l0 k2 l0_2 (l0_2.length : Int) (wrap64 (x48_2 + 1)) a0_0 a0_1 l0_2 a0_3 a0_4 l0_5) else (if (rd l0_5 x48_2) > a0_1 then (some false) else (spec_GoodLeases.l0 k2 l0_2 (l0_2.length : Int) (wrap64 (x48_2 + 1)) a0_0 a0_1 l0_2 a0_3 a0_4 l0_5))) = some r := by rw [if_pos rfl] at H; exact H
 clear H
 have H := H1
 clear H1
 by_cases c33 : x48_2 = a0_3
 ·rw [if_pos c33] at H
  have c33b0 : (x48_2 == a0_3) = true := beq_iff_eq.mpr c33
  have c33b1 : (x48_2 != a0_3) = false := bne_eq_false_iff_eq.mpr c33
  clear c33
  have H' := Aside0.mk H
  clear H
  have p141 : 0 ≤ (x48_2 : Int) := of_decide_eq_true (by first | (with_reducible assumption) | assumption)
  have q141 : x48_2 < (l0_2.length : Int) := of_decide_eq_true (by first | (with_reducible assumption) | assumption)
  obtain ⟨ad141, e141, hx141_0⟩ := Kd.at_int HR0_2.out x48_2 p141 q141
  cases e141
  replace hx141_0 := (HB.out.cell (World.block_lt_of_cell? w _ hx141_0)).trans hx141_0
  replace p141 := eq_true p141
  replace q141 := eq_true q141
  try go_wp2
  replace BK135 := Aside0.mk (blk_drew BK135.out)
  replace HB := Aside0.mk (below_drew1 HB.out)
  have p143 : 0 ≤ (x48_2 : Int) := of_decide_eq_true (by first | (with_reducible assumption) | assumption)
  have q143 : x48_2 < (l0_5.length : Int) := of_decide_eq_true (by first | (with_reducible assumption) | assumption)
  obtain ⟨ad143, e143, hx143_0⟩ := Kd.at_int HR0_5.out x48_2 p143 q143
  have hw143_0 := hx143_0
  cases e143
  replace hx143_0 := (HB.out.cell (World.block_lt_of_cell? w _ hx143_0)).trans hx143_0
  replace p143 := eq_true p143
  replace q143 := eq_true q143
  refine start_ (n := 44) (S := fun w' => w'.cell? ⟨gb135, 0, none⟩ = some (.int .i64 a0_0) ∧ w'.cell? ⟨gb135, 1, none⟩ = some (.int .i64 a0_1) ∧ w'.cell? ⟨gb135, 2, none⟩ = some (.slice (some ad141) l0_2.length c0_2) ∧ w'.cell? ⟨gb135, 3, none⟩ = some (.int .i64 a0_3) ∧ w'.cell? ⟨gb135, 4, none⟩ = some (.int .i64 a0_4) ∧ w'.cell? ⟨gb135, 5, none⟩ = some (.slice (some ad143) l0_5.length c0_5) ∧ w'.cell? (ad143.add (x48_2).toNat) = some (.int .i64 (rd l0_5 x48_2))) (ds := []) #[false, false, false, false, false, false, false, false, false, false, false, false, false, false, false, false, false, false, false, false, false, false, false, false, false, false, false, false, false, false, false, false, false, false, false, false, false, false, false, false, false, false, false, false] (by kernel_rfl) rfl rfl ⟨bc_ BK135.out 0, bc_ BK135.out 1, bc_ BK135.out 2, bc_ BK135.out 3, bc_ BK135.out 4, bc_ BK135.out 5, ((HB.out.cell (World.block_lt_of_cell? w _ hw143_0)).trans hw143_0)⟩ (fun hHeld => ?_); refine with_tabW spec_GoodLeases.tab7 spec_GoodLeases.bits7 (fun HT_ HW_ => ?_)
  generalize wr.drew = w34 at BK135 HB hx143_0 hHeld ⊢
  refine pu_ 0 (some 53) (h := ?_)
  refine pu_ 1 (some 54) (h := ?_)
  refine pu_ 2 (some 55) (h := ?_)
  refine pu_ 3 (some 56) (h := ?_)
  refine pu_ 4 (some 57) (h := ?_)
  refine pu_ 6 (some 59) (h := ?_)
  refine pu_ 9 (some 62) (h := ?_)
  refine pu_ 11 (some 64) (h := ?_)
  refine tk7_ 5 (some 58) (h := ?_)
  refine tk7_ 7 (some 60) (h := ?_)
  refine pu_ 8 (some 61) (h := ?_)
  refine tk7_ 10 (some 63) (h := ?_)
  refine tk7_ 12 (some 65) (h := ?_)
  refine pu_ 13 (some 66) (h := ?_)
  refine on_ 14 (some 67) (h := fun K hK => ?_)
  refine goes_ Try.func45 (by kernel_rfl) rfl #[.int .i64 (rd l0_2 x48_2), .int .i64 (wrap64 (a0_1 - a0_0)), .int .i64 (wrap64 (a0_1 + a0_0))] (by rfl) rfl rfl nc_ ?_
  with_reducible refine (spec_l1In.calls (rd l0_2 x48_2) (wrap64 (a0_1 - a0_0)) (wrap64 (a0_1 + a0_0)) true _ A28.out).mono ?_
  rintro e w' ⟨rfl, ⟨nd, rfl⟩⟩
  refine ⟨_, rfl, ?_⟩
  refine hK.out _ _ ⟨bc_ BK135.out 0, bc_ BK135.out 1, bc_ BK135.out 2, bc_ BK135.out 3, bc_ BK135.out 4, bc_ BK135.out 5, ((HB.out.cell (World.block_lt_of_cell? w _ hw143_0)).trans hw143_0)⟩ (fun hHeld => ?_)
  clear hK K
  refine norm_ nn_ ?_
  refine pu_ 15 (some 68) (h := ?_)
  refine pu_ 16 (some 69) (h := ?_)
  refine pu_ 17 (some 70) (h := ?_)
  refine pu_ 18 (some 71) (h := ?_)
  refine pu_ 20 (some 73) (h := ?_)
  refine pu_ 23 (some 76) (h := ?_)
  refine tk7_ 19 (some 72) (h := ?_)
  refine pu_ 21 (some 74) (h := ?_)
  refine tk7_ 22 (some 75) (h := ?_)
  refine tk7_ 24 (some 77) (h := ?_)
  refine on_ 25 (some 78) (h := fun K hK => ?_)
  refine goes_ Try.func45 (by kernel_rfl) rfl #[.int .i64 (rd l0_5 x48_2), .int .i64 0, .int .i64 a0_4] (by rfl) rfl rfl nc_ ?_
  with_reducible refine (spec_l1In.calls (rd l0_5 x48_2) 0 a0_4 true _ A31.out).mono ?_
  rintro e w' ⟨rfl, ⟨nd, rfl⟩⟩
  refine ⟨_, rfl, ?_⟩
  refine hK.out _ _ ⟨bc_ BK135.out 0, bc_ BK135.out 1, bc_ BK135.out 2, bc_ BK135.out 3, bc_ BK135.out 4, bc_ BK135.out 5, ((HB.out.cell (World.block_lt_of_cell? w _ hw143_0)).trans hw143_0)⟩ (fun hHeld => ?_)
  clear hK K
  refine norm_ nn_ ?_
  refine pu_ 26 (some 79) (h := ?_)
  refine pu_ 27 (some 80) (h := ?_)
  refine pu_ 28 (some 81) (h := ?_)
  refine pu_ 29 (some 82) (h := ?_)
  refine pu_ 30 (some 83) (h := ?_)
  refine tk7_ 31 (some 84) (h := ?_)
  refine pu_ 32 (some 85) (h := ?_)
  refine pu_ 33 (some 86) (h := ?_)
  refine px_ 34 (some 87) (h := ?_)
  refine px_ 35 (some 88) (h := ?_)
  refine px_ 36 (some 89) (h := ?_)
  refine px_ 37 (some 90) (h := ?_)
  refine px_ 38 (some 91) (h := ?_)
  refine px_ 39 (some 92) (h := ?_)
  refine px_ 40 (some 93) (h := ?_)
  refine px_ 41 (some 94) (h := ?_)
  refine pu_ 42 (some 95) (h := ?_)
  refine pu_ 43 (some 96) (h := ?_)
  refine done_ (done_of HT_.out (by kernel_rfl)) ?_
  try go_wp2
  go_roundg k2
  case measure => have := HJ1.out; have := HK2.out; omega
  case rel => exact ⟨(wrap64 (x48_2 + 1)), (by first | rfl | (simp; done) | (simp [*]; done)), H', ⟨by have := HJ1.out; have := HK2.out; omega⟩, ⟨by exact kb_ BK135.out⟩, ⟨bl_⟩⟩
 rw [if_neg c33] at H
 have c33b0 : (x48_2 == a0_3) = false := beq_eq_false_iff_ne.mpr c33
 have c33b1 : (x48_2 != a0_3) = true := bne_iff_ne.mpr c33
 by_cases c35 : (rd l0_5 x48_2) > a0_1
 ·rw [if_pos c35] at H
  have c35b0 : decide (a0_1 < (rd l0_5 x48_2)) = true := decide_eq_true c35
  clear c35
  obtain rfl := Option.some.inj H
  have p141 : 0 ≤ (x48_2 : Int) := of_decide_eq_true (by first | (with_reducible assumption) | assumption)
  have q141 : x48_2 < (l0_2.length : Int) := of_decide_eq_true (by first | (with_reducible assumption) | assumption)
  obtain ⟨ad141, e141, hx141_0⟩ := Kd.at_int HR0_2.out x48_2 p141 q141
  cases e141
  replace hx141_0 := (HB.out.cell (World.block_lt_of_cell? w _ hx141_0)).trans hx141_0
  replace p141 := eq_true p141
  replace q141 := eq_true q141
  try go_wp2
  replace BK135 := Aside0.mk (blk_drew BK135.out)
  replace HB := Aside0.mk (below_drew1 HB.out)
  have p143 : 0 ≤ (x48_2 : Int) := of_decide_eq_true (by first | (with_reducible assumption) | assumption)
  have q143 : x48_2 < (l0_5.length : Int) := of_decide_eq_true (by first | (with_reducible assumption) | assumption)
  obtain ⟨ad143, e143, hx143_0⟩ := Kd.at_int HR0_5.out x48_2 p143 q143
  have hw143_0 := hx143_0
  cases e143
  replace hx143_0 := (HB.out.cell (World.block_lt_of_cell? w _ hx143_0)).trans hx143_0
  replace p143 := eq_true p143
  replace q143 := eq_true q143
  have p145 : 0 ≤ (x48_2 : Int) := of_decide_eq_true (by first | (with_reducible assumption) | assumption)
  have q145 : x48_2 < (l0_5.length : Int) := of_decide_eq_true (by first | (with_reducible assumption) | assumption)
  obtain ⟨ad145, e145, hx145_0⟩ := Kd.at_int HR0_5.out x48_2 p145 q145
  have hw145_0 := hx145_0
  obtain rfl : ad143 = ad145 := (by injection e145)
  replace hx145_0 := (HB.out.cell (World.block_lt_of_cell? w _ hx145_0)).trans hx145_0
  replace p145 := eq_true p145
  replace q145 := eq_true q145
  refine start_ (n := 44) (S := fun w' => w'.cell? ⟨gb135, 0, none⟩ = some (.int .i64 a0_0) ∧ w'.cell? ⟨gb135, 1, none⟩ = some (.int .i64 a0_1) ∧ w'.cell? ⟨gb135, 2, none⟩ = some (.slice (some ad141) l0_2.length c0_2) ∧ w'.cell? ⟨gb135, 3, none⟩ = some (.int .i64 a0_3) ∧ w'.cell? ⟨gb135, 4, none⟩ = some (.int .i64 a0_4) ∧ w'.cell? ⟨gb135, 5, none⟩ = some (.slice (some ad143) l0_5.length c0_5) ∧ w'.cell? (ad143.add (x48_2).toNat) = some (.int .i64 (rd l0_5 x48_2)) ∧ w'.cell? (ad143.add (x48_2).toNat) = some (.int .i64 (rd l0_5 x48_2))) (ds := []) #[false, false, false, false, false, false, false, false, false, false, false, false, false, false, false, false, false, false, false, false, false, false, false, false, false, false, false, false, false, false, false, false, false, false, false, false, false, false, false, false, false, false, false, false] (by kernel_rfl) rfl rfl ⟨bc_ BK135.out 0, bc_ BK135.out 1, bc_ BK135.out 2, bc_ BK135.out 3, bc_ BK135.out 4, bc_ BK135.out 5, ((HB.out.cell (World.block_lt_of_cell? w _ hw143_0)).trans hw143_0), ((HB.out.cell (World.block_lt_of_cell? w _ hw145_0)).trans hw145_0)⟩ (fun hHeld => ?_); refine with_tabW spec_GoodLeases.tab7 spec_GoodLeases.bits7 (fun HT_ HW_ => ?_)
  generalize wr.drew = w36 at BK135 HB hx143_0 hx145_0 hHeld ⊢
  refine pu_ 0 (some 53) (h := ?_)
  refine pu_ 1 (some 54) (h := ?_)
  refine pu_ 2 (some 55) (h := ?_)
  refine pu_ 3 (some 56) (h := ?_)
  refine pu_ 4 (some 57) (h := ?_)
  refine pu_ 6 (some 59) (h := ?_)
  refine pu_ 9 (some 62) (h := ?_)
  refine pu_ 11 (some 64) (h := ?_)
  refine tk8_ 5 (some 58) (h := ?_)
  refine tk8_ 7 (some 60) (h := ?_)
  refine pu_ 8 (some 61) (h := ?_)
  refine tk8_ 10 (some 63) (h := ?_)
  refine tk8_ 12 (some 65) (h := ?_)
  refine pu_ 13 (some 66) (h := ?_)
  refine on_ 14 (some 67) (h := fun K hK => ?_)
  refine goes_ Try.func45 (by kernel_rfl) rfl #[.int .i64 (rd l0_2 x48_2), .int .i64 (wrap64 (a0_1 - a0_0)), .int .i64 (wrap64 (a0_1 + a0_0))] (by rfl) rfl rfl nc_ ?_
  with_reducible refine (spec_l1In.calls (rd l0_2 x48_2) (wrap64 (a0_1 - a0_0)) (wrap64 (a0_1 + a0_0)) true _ A28.out).mono ?_
  rintro e w' ⟨rfl, ⟨nd, rfl⟩⟩
  refine ⟨_, rfl, ?_⟩
  refine hK.out _ _ ⟨bc_ BK135.out 0, bc_ BK135.out 1, bc_ BK135.out 2, bc_ BK135.out 3, bc_ BK135.out 4, bc_ BK135.out 5, ((HB.out.cell (World.block_lt_of_cell? w _ hw143_0)).trans hw143_0), ((HB.out.cell (World.block_lt_of_cell? w _ hw145_0)).trans hw145_0)⟩ (fun hHeld => ?_)
  clear hK K
  refine norm_ nn_ ?_
  refine pu_ 15 (some 68) (h := ?_)
  refine pu_ 16 (some 69) (h := ?_)
  refine pu_ 17 (some 70) (h := ?_)
  refine pu_ 18 (some 71) (h := ?_)
  refine pu_ 20 (some 73) (h := ?_)
  refine pu_ 23 (some 76) (h := ?_)
  refine tk8_ 19 (some 72) (h := ?_)
  refine pu_ 21 (some 74) (h := ?_)
  refine tk8_ 22 (some 75) (h := ?_)
  refine tk8_ 24 (some 77) (h := ?_)
  refine on_ 25 (some 78) (h := fun K hK => ?_)
  refine goes_ Try.func45 (by kernel_rfl) rfl #[.int .i64 (rd l0_5 x48_2), .int .i64 0, .int .i64 a0_4] (by rfl) rfl rfl nc_ ?_
  with_reducible refine (spec_l1In.calls (rd l0_5 x48_2) 0 a0_4 true _ A31.out).mono ?_
  rintro e w' ⟨rfl, ⟨nd, rfl⟩⟩
  refine ⟨_, rfl, ?_⟩
  refine hK.out _ _ ⟨bc_ BK135.out 0, bc_ BK135.out 1, bc_ BK135.out 2, bc_ BK135.out 3, bc_ BK135.out 4, bc_ BK135.out 5, ((HB.out.cell (World.block_lt_of_cell? w _ hw143_0)).trans hw143_0), ((HB.out.cell (World.block_lt_of_cell? w _ hw145_0)).trans hw145_0)⟩ (fun hHeld => ?_)
  clear hK K
  refine norm_ nn_ ?_
  refine pu_ 26 (some 79) (h := ?_)
  refine pu_ 27 (some 80) (h := ?_)
  refine pu_ 28 (some 81) (h := ?_)
  refine pu_ 29 (some 82) (h := ?_)
  refine pu_ 30 (some 83) (h := ?_)
  refine tk8_ 31 (some 84) (h := ?_)
  refine pu_ 32 (some 85) (h := ?_)
  refine pu_ 33 (some 86) (h := ?_)
  refine pu_ 34 (some 87) (h := ?_)
  refine pu_ 36 (some 89) (h := ?_)
  refine pu_ 39 (some 92) (h := ?_)
  refine tk8_ 35 (some 88) (h := ?_)
  refine pu_ 37 (some 90) (h := ?_)
  refine tk8_ 38 (some 91) (h := ?_)
  refine tk8_ 40 (some 93) (h := ?_)
  refine pu_ 41 (some 94) (h := ?_)
  refine pu_ 42 (some 95) (h := ?_)
  refine pu_ 43 (some 96) (h := ?_)
  refine done_ (done_of HT_.out (by kernel_rfl)) ?_
  try go_wp2
  go_ret
  exact ⟨ng_, bl_⟩
 rw [if_neg c35] at H
 have c35b0 : decide (a0_1 < (rd l0_5 x48_2)) = false := decide_eq_false c35
 clear c35
 have H' := Aside0.mk H
 clear H
 have p141 : 0 ≤ (x48_2 : Int) := of_decide_eq_true (by first | (with_reducible assumption) | assumption)
 have q141 : x48_2 < (l0_2.length : Int) := of_decide_eq_true (by first | (with_reducible assumption) | assumption)
 obtain ⟨ad141, e141, hx141_0⟩ := Kd.at_int HR0_2.out x48_2 p141 q141
 cases e141
 replace hx141_0 := (HB.out.cell (World.block_lt_of_cell? w _ hx141_0)).trans hx141_0
 replace p141 := eq_true p141
 replace q141 := eq_true q141
 try go_wp2
 replace BK135 := Aside0.mk (blk_drew BK135.out)
 replace HB := Aside0.mk (below_drew1 HB.out)
 have p143 : 0 ≤ (x48_2 : Int) := of_decide_eq_true (by first | (with_reducible assumption) | assumption)
 have q143 : x48_2 < (l0_5.length : Int) := of_decide_eq_true (by first | (with_reducible assumption) | assumption)
 obtain ⟨ad143, e143, hx143_0⟩ := Kd.at_int HR0_5.out x48_2 p143 q143
 have hw143_0 := hx143_0
 cases e143
 replace hx143_0 := (HB.out.cell (World.block_lt_of_cell? w _ hx143_0)).trans hx143_0
 replace p143 := eq_true p143
 replace q143 := eq_true q143
 have p145 : 0 ≤ (x48_2 : Int) := of_decide_eq_true (by first | (with_reducible assumption) | assumption)
 have q145 : x48_2 < (l0_5.length : Int) := of_decide_eq_true (by first | (with_reducible assumption) | assumption)
 obtain ⟨ad145, e145, hx145_0⟩ := Kd.at_int HR0_5.out x48_2 p145 q145
 have hw145_0 := hx145_0
 obtain rfl : ad143 = ad145 := (by injection e145)
 replace hx145_0 := (HB.out.cell (World.block_lt_of_cell? w _ hx145_0)).trans hx145_0
 replace p145 := eq_true p145
 replace q145 := eq_true q145
 refine start_ (n := 44) (S := fun w' => w'.cell? ⟨gb135, 0, none⟩ = some (.int .i64 a0_0) ∧ w'.cell? ⟨gb135, 1, none⟩ = some (.int .i64 a0_1) ∧ w'.cell? ⟨gb135, 2, none⟩ = some (.slice (some ad141) l0_2.length c0_2) ∧ w'.cell? ⟨gb135, 3, none⟩ = some (.int .i64 a0_3) ∧ w'.cell? ⟨gb135, 4, none⟩ = some (.int .i64 a0_4) ∧ w'.cell? ⟨gb135, 5, none⟩ = some (.slice (some ad143) l0_5.length c0_5) ∧ w'.cell? (ad143.add (x48_2).toNat) = some (.int .i64 (rd l0_5 x48_2)) ∧ w'.cell? (ad143.add (x48_2).toNat) = some (.int .i64 (rd l0_5 x48_2))) (ds := []) #[false, false, false, false, false, false, false, false, false, false, false, false, false, false, false, false, false, false, false, false, false, false, false, false, false, false, false, false, false, false, false, false, false, false, false, false, false, false, false, false, false, false, false, false] (by kernel_rfl) rfl rfl ⟨bc_ BK135.out 0, bc_ BK135.out 1, bc_ BK135.out 2, bc_ BK135.out 3, bc_ BK135.out 4, bc_ BK135.out 5, ((HB.out.cell (World.block_lt_of_cell? w _ hw143_0)).trans hw143_0), ((HB.out.cell (World.block_lt_of_cell? w _ hw145_0)).trans hw145_0)⟩ (fun hHeld => ?_); refine with_tabW spec_GoodLeases.tab7 spec_GoodLeases.bits7 (fun HT_ HW_ => ?_)
 generalize wr.drew = w37 at BK135 HB hx143_0 hx145_0 hHeld ⊢
 refine pu_ 0 (some 53) (h := ?_)
 refine pu_ 1 (some 54) (h := ?_)
 refine pu_ 2 (some 55) (h := ?_)
 refine pu_ 3 (some 56) (h := ?_)
 refine pu_ 4 (some 57) (h := ?_)
 refine pu_ 6 (some 59) (h := ?_)
 refine pu_ 9 (some 62) (h := ?_)
 refine pu_ 11 (some 64) (h := ?_)
 refine tk8_ 5 (some 58) (h := ?_)
 refine tk8_ 7 (some 60) (h := ?_)
 refine pu_ 8 (some 61) (h := ?_)
 refine tk8_ 10 (some 63) (h := ?_)
 refine tk8_ 12 (some 65) (h := ?_)
 refine pu_ 13 (some 66) (h := ?_)
 refine on_ 14 (some 67) (h := fun K hK => ?_)
 refine goes_ Try.func45 (by kernel_rfl) rfl #[.int .i64 (rd l0_2 x48_2), .int .i64 (wrap64 (a0_1 - a0_0)), .int .i64 (wrap64 (a0_1 + a0_0))] (by rfl) rfl rfl nc_ ?_
 with_reducible refine (spec_l1In.calls (rd l0_2 x48_2) (wrap64 (a0_1 - a0_0)) (wrap64 (a0_1 + a0_0)) true _ A28.out).mono ?_
 rintro e w' ⟨rfl, ⟨nd, rfl⟩⟩
 refine ⟨_, rfl, ?_⟩
 refine hK.out _ _ ⟨bc_ BK135.out 0, bc_ BK135.out 1, bc_ BK135.out 2, bc_ BK135.out 3, bc_ BK135.out 4, bc_ BK135.out 5, ((HB.out.cell (World.block_lt_of_cell? w _ hw143_0)).trans hw143_0), ((HB.out.cell (World.block_lt_of_cell? w _ hw145_0)).trans hw145_0)⟩ (fun hHeld => ?_)
 clear hK K
 refine norm_ nn_ ?_
 refine pu_ 15 (some 68) (h := ?_)
 refine pu_ 16 (some 69) (h := ?_)
 refine pu_ 17 (some 70) (h := ?_)
 refine pu_ 18 (some 71) (h := ?_)
 refine pu_ 20 (some 73) (h := ?_)
 refine pu_ 23 (some 76) (h := ?_)
 refine tk8_ 19 (some 72) (h := ?_)
 refine pu_ 21 (some 74) (h := ?_)
 refine tk8_ 22 (some 75) (h := ?_)
 refine tk8_ 24 (some 77) (h := ?_)
 refine on_ 25 (some 78) (h := fun K hK => ?_)
 refine goes_ Try.func45 (by kernel_rfl) rfl #[.int .i64 (rd l0_5 x48_2), .int .i64 0, .int .i64 a0_4] (by rfl) rfl rfl nc_ ?_
 with_reducible refine (spec_l1In.calls (rd l0_5 x48_2) 0 a0_4 true _ A31.out).mono ?_
 rintro e w' ⟨rfl, ⟨nd, rfl⟩⟩
 refine ⟨_, rfl, ?_⟩
 refine hK.out _ _ ⟨bc_ BK135.out 0, bc_ BK135.out 1, bc_ BK135.out 2, bc_ BK135.out 3, bc_ BK135.out 4, bc_ BK135.out 5, ((HB.out.cell (World.block_lt_of_cell? w _ hw143_0)).trans hw143_0), ((HB.out.cell (World.block_lt_of_cell? w _ hw145_0)).trans hw145_0)⟩ (fun hHeld => ?_)
 clear hK K
 refine norm_ nn_ ?_
 refine pu_ 26 (some 79) (h := ?_)
 refine pu_ 27 (some 80) (h := ?_)
 refine pu_ 28 (some 81) (h := ?_)
 refine pu_ 29 (some 82) (h := ?_)
 refine pu_ 30 (some 83) (h := ?_)
 refine tk8_ 31 (some 84) (h := ?_)
 refine pu_ 32 (some 85) (h := ?_)
 refine pu_ 33 (some 86) (h := ?_)
 refine pu_ 34 (some 87) (h := ?_)
 refine pu_ 36 (some 89) (h := ?_)
 refine pu_ 39 (some 92) (h := ?_)
 refine tk8_ 35 (some 88) (h := ?_)
 refine pu_ 37 (some 90) (h := ?_)
 refine tk8_ 38 (some 91) (h := ?_)
 refine tk8_ 40 (some 93) (h := ?_)
 refine pu_ 41 (some 94) (h := ?_)
 refine pu_ 42 (some 95) (h := ?_)
 refine pu_ 43 (some 96) (h := ?_)
 refine done_ (done_of HT_.out (by kernel_rfl)) ?_
 try go_wp2
 go_roundg k2
 case measure => have := HJ1.out; have := HK2.out; omega
 case rel => exact ⟨(wrap64 (x48_2 + 1)), (by first | rfl | (simp; done) | (simp [*]; done)), H', ⟨by have := HJ1.out; have := HK2.out; omega⟩, ⟨by exact kb_ BK135.out⟩, ⟨bl_⟩⟩

end Go.Proofs.Ytbnadnfggpnbgaa.PSL
