/- What this text proves: the machine calls of these functions return what the plain functions say. Conditions: as each theorem says. Printed by a program of this session out of the translation. -/
import Derived.Test.YtbnadnfggpnbgaaPSLx0
import Derived.Test.YtbnadnfggpnbgaaPSLx7
namespace Go.Proofs.Ytbnadnfggpnbgaa.PSL
open Go.RowKit Go.Proofs.YtbnadnfggpnbgaaW.PrintWords Go.Proofs.YtbnadnfggpnbgaaW.PrintLast Go.Proofs.YtbnadnfggpnbgaaW.PrintMore
attribute [local go_sem] max2_int min2_int max_two min_two max_three min_three max_four min_four   -- for this text's walks alone
set_option linter.unusedVariables false
set_option linter.unusedSimpArgs false

/-! ### impl_areLeases: function 49 -/
mutual
def impl_areLeases.j0 : Nat → Bool → Int → Int → List Int → Int → Int → List Int → Option (Bool)
 | 0, _, _, _, _, _, _, _ => none
 | k + 1, x44, x206000, x206001, x206002, x206003, x206004, x206005 => if x44 = true then (some false) else (impl_areLeases.l0 k x206002 (x206002.length : Int) 0 x206000 x206001 x206002 x206003 x206004 x206005)
def impl_areLeases.l0 : Nat → List Int → Int → Int → Int → Int → List Int → Int → Int → List Int → Option (Bool)
 | 0, _, _, _, _, _, _, _, _, _ => none
 | k + 1, x46, x47, x48, x206000, x206001, x206002, x206003, x206004, x206005 => if x48 < x47 then (if 0 ≤ x48 then (if x48 < (x46.length : Int) then ((impl_in.f (rd x46 x48) (mx (wrap64 (x206001 - x206000)) 0) (wrap64 (x206001 + x206000))).bind fun t212 => (if t212 = true then (if x48 < (x206005.length : Int) then ((impl_in.f (rd x206005 x48) 0 x206004).bind fun t214 => (if t214 = true then (if x48 = x206003 then (impl_areLeases.l0 k x46 x47 (wrap64 (x48 + 1)) x206000 x206001 x206002 x206003 x206004 x206005) else (if (rd x206005 x48) > x206001 then (some false) else (impl_areLeases.l0 k x46 x47 (wrap64 (x48 + 1)) x206000 x206001 x206002 x206003 x206004 x206005))) else (some false))) else (none)) else (some false))) else (none)) else (none)) else (some true)
end
def impl_areLeases.f (k : Nat) (a0_0 : Int) (a0_1 : Int) (l0_2 : List Int) (a0_3 : Int) (a0_4 : Int) (l0_5 : List Int) : Option (Bool) := (impl_in.f a0_0 0 1000).bind fun t206 => (if t206 = true then ((impl_in.f a0_1 0 1000000).bind fun t207 => (if t207 = true then ((impl_in.f (l0_2.length : Int) 1 12).bind fun t208 => (if t208 = true then ((impl_in.f a0_3 (-1) (wrap64 ((l0_2.length : Int) - 1))).bind fun t209 => (if t209 = true then ((impl_in.f a0_4 0 2000000).bind fun t210 => (if t210 = true then (impl_areLeases.j0 k ((l0_5.length : Int) != (l0_2.length : Int)) a0_0 a0_1 l0_2 a0_3 a0_4 l0_5) else (impl_areLeases.j0 k true a0_0 a0_1 l0_2 a0_3 a0_4 l0_5))) else (impl_areLeases.j0 k true a0_0 a0_1 l0_2 a0_3 a0_4 l0_5))) else (impl_areLeases.j0 k true a0_0 a0_1 l0_2 a0_3 a0_4 l0_5))) else (impl_areLeases.j0 k true a0_0 a0_1 l0_2 a0_3 a0_4 l0_5))) else (impl_areLeases.j0 k true a0_0 a0_1 l0_2 a0_3 a0_4 l0_5))
theorem impl_areLeases.mono_l : ∀ k, (∀ y0 y1 y2 y3 y4 y5 y6, LeO (impl_areLeases.j0 k y0 y1 y2 y3 y4 y5 y6) (impl_areLeases.j0 (k + 1) y0 y1 y2 y3 y4 y5 y6)) ∧ (∀ y0 y1 y2 y3 y4 y5 y6 y7 y8, LeO (impl_areLeases.l0 k y0 y1 y2 y3 y4 y5 y6 y7 y8) (impl_areLeases.l0 (k + 1) y0 y1 y2 y3 y4 y5 y6 y7 y8))
 | 0 => ⟨fun _ _ _ _ _ _ _ r h => by simp [impl_areLeases.j0] at h, fun _ _ _ _ _ _ _ _ _ r h => by simp [impl_areLeases.l0] at h⟩
 | k + 1 => by
  obtain ⟨ih0, ih1⟩ := impl_areLeases.mono_l k
  refine ⟨?_, ?_⟩
  ·intro y0 y1 y2 y3 y4 y5 y6
   unfold impl_areLeases.j0
   repeat' first
   | (with_reducible exact ih0 _ _ _ _ _ _ _)
   | (with_reducible exact ih1 _ _ _ _ _ _ _ _ _)
   | (with_reducible exact LeO.refl _)
   | (with_reducible exact LeO.none _)
   | (with_reducible refine LeO.ite ?_ ?_)
   | (with_reducible refine LeO.bind ?_ (fun _ => ?_))
   | exact ih0 _ _ _ _ _ _ _
   | exact ih1 _ _ _ _ _ _ _ _ _
   | exact LeO.none _
   | refine LeO.ite ?_ ?_
   | refine LeO.bind ?_ (fun _ => ?_)
  ·intro y0 y1 y2 y3 y4 y5 y6 y7 y8
   unfold impl_areLeases.l0
   repeat' first
   | (with_reducible exact ih0 _ _ _ _ _ _ _)
   | (with_reducible exact ih1 _ _ _ _ _ _ _ _ _)
   | (with_reducible exact LeO.refl _)
   | (with_reducible exact LeO.none _)
   | (with_reducible refine LeO.ite ?_ ?_)
   | (with_reducible refine LeO.bind ?_ (fun _ => ?_))
   | exact ih0 _ _ _ _ _ _ _
   | exact ih1 _ _ _ _ _ _ _ _ _
   | exact LeO.none _
   | refine LeO.ite ?_ ?_
   | refine LeO.bind ?_ (fun _ => ?_)
theorem impl_areLeases.mono : ∀ a0 a1 a2 a3 a4 a5 k, LeO (impl_areLeases.f k a0 a1 a2 a3 a4 a5) (impl_areLeases.f (k + 1) a0 a1 a2 a3 a4 a5) := by
 intro a0 a1 a2 a3 a4 a5 k
 obtain ⟨ih0, ih1⟩ := impl_areLeases.mono_l k
 unfold impl_areLeases.f
 repeat' first
   | (with_reducible exact ih0 _ _ _ _ _ _ _)
   | (with_reducible exact ih1 _ _ _ _ _ _ _ _ _)
   | (with_reducible exact LeO.refl _)
   | (with_reducible exact LeO.none _)
   | (with_reducible refine LeO.ite ?_ ?_)
   | (with_reducible refine LeO.bind ?_ (fun _ => ?_))
   | exact ih0 _ _ _ _ _ _ _
   | exact ih1 _ _ _ _ _ _ _ _ _
   | exact LeO.none _
   | refine LeO.ite ?_ ?_
   | refine LeO.bind ?_ (fun _ => ?_)
def impl_areLeases.T7 : Bool × List (List Nat × List Nat) := (true, [([], []), ([], []), ([1], [1]), ([], []), ([3], [3]), ([2, 4], [2, 4]), ([5], [5]), ([], []), ([7], [7]), ([], []), ([9], [9]), ([8, 10], [8, 10]), ([0, 6, 11], [0, 6, 11]), ([12], [12]), ([13, 12], [13]), ([14], [14]), ([15, 14], [14, 15]), ([14], [14]), ([16, 17, 14], [14, 16, 17]), ([18, 14], [14, 18]), ([14], [14]), ([20, 14], [14, 20]), ([19, 21, 14, 14], [14, 19, 21]), ([22, 14], [14, 22]), ([14, 23], [14, 23]), ([24, 22], [24]), ([25], [25]), ([25], [25]), ([27, 25], [25, 27]), ([26, 28, 25], [25, 26, 28]), ([29, 25, 25], [25, 29]), ([30], [30]), ([31, 30], [30, 31]), ([30], [30]), ([32, 33, 30], [30, 32, 33]), ([34, 30], [30, 34]), ([30], [30]), ([36, 30], [30, 36]), ([35, 37, 30], [30, 35, 37]), ([30, 38, 25], [25, 30, 38]), ([25, 39], [25, 39])])
def impl_areLeases.B7 : List Nat := [0, 0, 2, 0, 8, 30, 62, 0, 128, 0, 512, 1920, 4095, 8191, 16383, 32767, 65535, 32767, 262143, 524287, 32767, 1081343, 4194303, 8388607, 16777215, 33554431, 67108863, 67108863, 201326591, 536870911, 1073741823, 2147483647, 4294967295, 2147483647, 17179869183, 34359738367, 2147483647, 70866960383, 274877906943, 549755813887, 1099511627775]
theorem impl_areLeases.tab7 : rtab .any (opsOf Try.f49 7) = impl_areLeases.T7 := by kernel_rfl
theorem impl_areLeases.bits7 : waitsOk impl_areLeases.T7.2 impl_areLeases.B7 = true := by kernel_rfl
set_option maxHeartbeats 8000000 in
set_option maxRecDepth 100000 in
theorem impl_areLeases.calls (k : Nat) (a0_0 : Int) (a0_1 : Int) (A0_2 : Option Addr) (c0_2 : Nat) (l0_2 : List Int) (a0_3 : Int) (a0_4 : Int) (A0_5 : Option Addr) (c0_5 : Nat) (l0_5 : List Int) (r : Bool) (w : World) (hr0_2 : Kd.C (Kd.int .i64) w A0_2 l0_2.length l0_2) (hc0_2 : l0_2.length ≤ c0_2) (hr0_5 : Kd.C (Kd.int .i64) w A0_5 l0_5.length l0_5) (hc0_5 : l0_5.length ≤ c0_5) (h : impl_areLeases.f k a0_0 a0_1 l0_2 a0_3 a0_4 l0_5 = some r) :
  Calls Try.prog 49 #[.agg #[.int .i64 a0_0, .int .i64 a0_1, .slice A0_2 l0_2.length c0_2, .int .i64 a0_3, .int .i64 a0_4, .slice A0_5 l0_5.length c0_5]] w fun e w' => e = .returned (.bool r) ∧ Below w.heap.size w w' := by
 have hu24 := Try.underlying24
 have HR0_2 := Aside0.mk hr0_2
 have HC0_2 := Aside0.mk hc0_2
 clear hr0_2 hc0_2
 have HR0_5 := Aside0.mk hr0_5
 have HC0_5 := Aside0.mk hc0_5
 clear hr0_5 hc0_5
 have HB := Aside0.mk (Below.refl w.heap.size w)
 have H : ((impl_in.f a0_0 0 1000).bind fun t206 => (if t206 = true then ((impl_in.f a0_1 0 1000000).bind fun t207 => (if t207 = true then ((impl_in.f (l0_2.length : Int) 1 12).bind fun t208 => (if t208 = true then ((impl_in.f a0_3 (-1) (wrap64 ((l0_2.length : Int) - 1))).bind fun t209 => (if t209 = true then ((impl_in.f a0_4 0 2000000).bind fun t210 => (if t210 = true then (impl_areLeases.j0 k ((l0_5.length : Int) != (l0_2.length : Int)) a0_0 a0_1 l0_2 a0_3 a0_4 l0_5) else (impl_areLeases.j0 k true a0_0 a0_1 l0_2 a0_3 a0_4 l0_5))) else (impl_areLeases.j0 k true a0_0 a0_1 l0_2 a0_3 a0_4 l0_5))) else (impl_areLeases.j0 k true a0_0 a0_1 l0_2 a0_3 a0_4 l0_5))) else (impl_areLeases.j0 k true a0_0 a0_1 l0_2 a0_3 a0_4 l0_5))) else (impl_areLeases.j0 k true a0_0 a0_1 l0_2 a0_3 a0_4 l0_5))) = some r := h
 clear h
 have HC2 := Aside0.mk H
 clear H
 go_enter Try.func49, Try.ntmps49
 go_upto_region 2 with (first | ((with_reducible refine gate_dst (N := 1) rfl ?_); (try (refine gate_guard (by rfl) ?_; dsimp only)); refine box_event rfl (N := 1) rfl (cs := #[.int .i64 a0_0, .int .i64 a0_1, .slice A0_2 l0_2.length c0_2, .int .i64 a0_3, .int .i64 a0_4, .slice A0_5 l0_5.length c0_5]) (t := 24) gs_ ?_; intro gb205 hg w3 hbox hb; have BK205 := Aside0.mk (hbox); have GW205 := Aside0.mk ((by rw [hg]; exact bz_ : w.heap.size ≤ gb205)); have GE205 := GW205; replace HB := Aside0.mk (below_step bl_ hb); clear hb hbox hg; have hcz4_0 : w3.cell? ⟨gb205, 0, none⟩ = some (.int .i64 a0_0) := bc_ BK205.out 0; have hcz4_1 : w3.cell? ⟨gb205, 1, none⟩ = some (.int .i64 a0_1) := bc_ BK205.out 1; have hcz4_2 : w3.cell? ⟨gb205, 2, none⟩ = some (.slice A0_2 l0_2.length c0_2) := bc_ BK205.out 2; have hcz4_3 : w3.cell? ⟨gb205, 3, none⟩ = some (.int .i64 a0_3) := bc_ BK205.out 3; have hcz4_4 : w3.cell? ⟨gb205, 4, none⟩ = some (.int .i64 a0_4) := bc_ BK205.out 4; have hcz4_5 : w3.cell? ⟨gb205, 5, none⟩ = some (.slice A0_5 l0_5.length c0_5) := bc_ BK205.out 5; have hfz4_0 := blk_frozen BK205.out 0; have hfz4_1 := blk_frozen BK205.out 1; have hfz4_2 := blk_frozen BK205.out 2; have hfz4_3 := blk_frozen BK205.out 3; have hfz4_4 := blk_frozen BK205.out 4; have hfz4_5 := blk_frozen BK205.out 5))
 (try simp only [Act.put, List.setIfInBounds_toArray, List.set_cons_zero, List.set_cons_succ])
 go_cut [44] (fun v44 wc => ∃ (kq : Nat) (x44_1 : Bool), v44 = .bool x44_1 ∧ Aside0 (impl_areLeases.j0 kq x44_1 a0_0 a0_1 l0_2 a0_3 a0_4 l0_5 = some r) ∧ Aside0 (kq ≤ k) ∧ Aside0 (wc.heap[gb205]? = some (.cells #[.int .i64 a0_0, .int .i64 a0_1, (.slice A0_2 l0_2.length c0_2), .int .i64 a0_3, .int .i64 a0_4, (.slice A0_5 l0_5.length c0_5)] 24 (0, 0))) ∧ Aside0 (Below w.heap.size w wc))
 case first =>
  have H := HC2.out
  clear HC2
  replace H := Option.bind_eq_some_iff.mp H
  obtain ⟨t206, A50, H⟩ := H
  replace H : (if t206 = true then ((impl_in.f a0_1 0 1000000).bind fun t207 => (if t207 = true then ((impl_in.f (l0_2.length : Int) 1 12).bind fun t208 => (if t208 = true then ((impl_in.f a0_3 (-1) (wrap64 ((l0_2.length : Int) - 1))).bind fun t209 => (if t209 = true then ((impl_in.f a0_4 0 2000000).bind fun t210 => (if t210 = true then (impl_areLeases.j0 k ((l0_5.length : Int) != (l0_2.length : Int)) a0_0 a0_1 l0_2 a0_3 a0_4 l0_5) else (impl_areLeases.j0 k true a0_0 a0_1 l0_2 a0_3 a0_4 l0_5))) else (impl_areLeases.j0 k true a0_0 a0_1 l0_2 a0_3 a0_4 l0_5))) else (impl_areLeases.j0 k true a0_0 a0_1 l0_2 a0_3 a0_4 l0_5))) else (impl_areLeases.j0 k true a0_0 a0_1 l0_2 a0_3 a0_4 l0_5))) else (impl_areLeases.j0 k true a0_0 a0_1 l0_2 a0_3 a0_4 l0_5)) = some r := H
  have A5 := Aside0.mk A50
  clear A50
  by_cases c6 : t206 = true
  rotate_left
  ·replace c6 := Bool.eq_false_iff.mpr c6
   subst c6
   have H1 : (impl_areLeases.j0 k true a0_0 a0_1 l0_2 a0_3 a0_4 l0_5) = some r := by rw [if_neg (show ¬ (false = true) by decide)] at H; exact H
   clear H
   have H := H1
   clear H1
   have H' := Aside0.mk H
   clear H
   have hcz20_0 : w3.cell? ⟨gb205, 0, none⟩ = some (.int .i64 a0_0) := bc_ BK205.out 0
   have hcz20_1 : w3.cell? ⟨gb205, 1, none⟩ = some (.int .i64 a0_1) := bc_ BK205.out 1
   have hcz20_2 : w3.cell? ⟨gb205, 2, none⟩ = some (.slice A0_2 l0_2.length c0_2) := bc_ BK205.out 2
   have hcz20_3 : w3.cell? ⟨gb205, 3, none⟩ = some (.int .i64 a0_3) := bc_ BK205.out 3
   have hcz20_4 : w3.cell? ⟨gb205, 4, none⟩ = some (.int .i64 a0_4) := bc_ BK205.out 4
   have hcz20_5 : w3.cell? ⟨gb205, 5, none⟩ = some (.slice A0_5 l0_5.length c0_5) := bc_ BK205.out 5
   have hfz20_0 := blk_frozen BK205.out 0
   have hfz20_1 := blk_frozen BK205.out 1
   have hfz20_2 := blk_frozen BK205.out 2
   have hfz20_3 := blk_frozen BK205.out 3
   have hfz20_4 := blk_frozen BK205.out 4
   have hfz20_5 := blk_frozen BK205.out 5
   go_wp2_with (first | ((with_reducible refine gate_callee (f := 50) rfl ?_); refine goesL_ (some 11) rfl rfl Try.func50 (by kernel_rfl) rfl #[.int .i64 a0_0, .int .i64 0, .int .i64 1000] rfl nc_ ?_; (with_reducible refine (impl_in.calls a0_0 0 1000 false _ A5.out).mono ?_); rintro e w' ⟨rfl, ⟨nd, rfl⟩⟩; refine ⟨_, rfl, ?_⟩))
   go_meet
   case rel => exact ⟨_, (true), (by first | rfl | (simp; done) | (simp [*]; done)), H', ⟨by first | omega | exact Nat.le_refl _⟩, ⟨by exact kb_ BK205.out⟩, ⟨bl_⟩⟩
  subst c6
  have H1 : ((impl_in.f a0_1 0 1000000).bind fun t207 => (if t207 = true then ((impl_in.f (l0_2.length : Int) 1 12).bind fun t208 => (if t208 = true then ((impl_in.f a0_3 (-1) (wrap64 ((l0_2.length : Int) - 1))).bind fun t209 => (if t209 = true then ((impl_in.f a0_4 0 2000000).bind fun t210 => (if t210 = true then (impl_areLeases.j0 k ((l0_5.length : Int) != (l0_2.length : Int)) a0_0 a0_1 l0_2 a0_3 a0_4 l0_5) else (impl_areLeases.j0 k true a0_0 a0_1 l0_2 a0_3 a0_4 l0_5))) else (impl_areLeases.j0 k true a0_0 a0_1 l0_2 a0_3 a0_4 l0_5))) else (impl_areLeases.j0 k true a0_0 a0_1 l0_2 a0_3 a0_4 l0_5))) else (impl_areLeases.j0 k true a0_0 a0_1 l0_2 a0_3 a0_4 l0_5))) = some r := by rw [if_pos rfl] at H; exact H
  clear H
  have H := H1
  clear H1
  replace H := Option.bind_eq_some_iff.mp H
  obtain ⟨t207, A70, H⟩ := H
  replace H : (if t207 = true then ((impl_in.f (l0_2.length : Int) 1 12).bind fun t208 => (if t208 = true then ((impl_in.f a0_3 (-1) (wrap64 ((l0_2.length : Int) - 1))).bind fun t209 => (if t209 = true then ((impl_in.f a0_4 0 2000000).bind fun t210 => (if t210 = true then (impl_areLeases.j0 k ((l0_5.length : Int) != (l0_2.length : Int)) a0_0 a0_1 l0_2 a0_3 a0_4 l0_5) else (impl_areLeases.j0 k true a0_0 a0_1 l0_2 a0_3 a0_4 l0_5))) else (impl_areLeases.j0 k true a0_0 a0_1 l0_2 a0_3 a0_4 l0_5))) else (impl_areLeases.j0 k true a0_0 a0_1 l0_2 a0_3 a0_4 l0_5))) else (impl_areLeases.j0 k true a0_0 a0_1 l0_2 a0_3 a0_4 l0_5)) = some r := H
  have A7 := Aside0.mk A70
  clear A70
  by_cases c8 : t207 = true
  rotate_left
  ·replace c8 := Bool.eq_false_iff.mpr c8
   subst c8
   have H1 : (impl_areLeases.j0 k true a0_0 a0_1 l0_2 a0_3 a0_4 l0_5) = some r := by rw [if_neg (show ¬ (false = true) by decide)] at H; exact H
   clear H
   have H := H1
   clear H1
   have H' := Aside0.mk H
   clear H
   have hcz19_0 : w3.cell? ⟨gb205, 0, none⟩ = some (.int .i64 a0_0) := bc_ BK205.out 0
   have hcz19_1 : w3.cell? ⟨gb205, 1, none⟩ = some (.int .i64 a0_1) := bc_ BK205.out 1
   have hcz19_2 : w3.cell? ⟨gb205, 2, none⟩ = some (.slice A0_2 l0_2.length c0_2) := bc_ BK205.out 2
   have hcz19_3 : w3.cell? ⟨gb205, 3, none⟩ = some (.int .i64 a0_3) := bc_ BK205.out 3
   have hcz19_4 : w3.cell? ⟨gb205, 4, none⟩ = some (.int .i64 a0_4) := bc_ BK205.out 4
   have hcz19_5 : w3.cell? ⟨gb205, 5, none⟩ = some (.slice A0_5 l0_5.length c0_5) := bc_ BK205.out 5
   have hfz19_0 := blk_frozen BK205.out 0
   have hfz19_1 := blk_frozen BK205.out 1
   have hfz19_2 := blk_frozen BK205.out 2
   have hfz19_3 := blk_frozen BK205.out 3
   have hfz19_4 := blk_frozen BK205.out 4
   have hfz19_5 := blk_frozen BK205.out 5
   go_wp2_with (first | ((with_reducible refine gate_callee (f := 50) rfl ?_); refine goesL_ (some 11) rfl rfl Try.func50 (by kernel_rfl) rfl #[.int .i64 a0_0, .int .i64 0, .int .i64 1000] rfl nc_ ?_; (with_reducible refine (impl_in.calls a0_0 0 1000 true _ A5.out).mono ?_); rintro e w' ⟨rfl, ⟨nd, rfl⟩⟩; refine ⟨_, rfl, ?_⟩) | (go_at_call 50; (with_reducible refine (impl_in.calls a0_1 0 1000000 false _ A7.out).mono ?_); rintro e w' ⟨rfl, ⟨nd, rfl⟩⟩))
   go_meet
   case rel => exact ⟨_, (true), (by first | rfl | (simp; done) | (simp [*]; done)), H', ⟨by first | omega | exact Nat.le_refl _⟩, ⟨by exact kb_ BK205.out⟩, ⟨bl_⟩⟩
  subst c8
  have H1 : ((impl_in.f (l0_2.length : Int) 1 12).bind fun t208 => (if t208 = true then ((impl_in.f a0_3 (-1) (wrap64 ((l0_2.length : Int) - 1))).bind fun t209 => (if t209 = true then ((impl_in.f a0_4 0 2000000).bind fun t210 => (if t210 = true then (impl_areLeases.j0 k ((l0_5.length : Int) != (l0_2.length : Int)) a0_0 a0_1 l0_2 a0_3 a0_4 l0_5) else (impl_areLeases.j0 k true a0_0 a0_1 l0_2 a0_3 a0_4 l0_5))) else (impl_areLeases.j0 k true a0_0 a0_1 l0_2 a0_3 a0_4 l0_5))) else (impl_areLeases.j0 k true a0_0 a0_1 l0_2 a0_3 a0_4 l0_5))) = some r := by rw [if_pos rfl] at H; exact H
  clear H
  have H := H1
  clear H1
  replace H := Option.bind_eq_some_iff.mp H
  obtain ⟨t208, A90, H⟩ := H
  replace H : (if t208 = true then ((impl_in.f a0_3 (-1) (wrap64 ((l0_2.length : Int) - 1))).bind fun t209 => (if t209 = true then ((impl_in.f a0_4 0 2000000).bind fun t210 => (if t210 = true then (impl_areLeases.j0 k ((l0_5.length : Int) != (l0_2.length : Int)) a0_0 a0_1 l0_2 a0_3 a0_4 l0_5) else (impl_areLeases.j0 k true a0_0 a0_1 l0_2 a0_3 a0_4 l0_5))) else (impl_areLeases.j0 k true a0_0 a0_1 l0_2 a0_3 a0_4 l0_5))) else (impl_areLeases.j0 k true a0_0 a0_1 l0_2 a0_3 a0_4 l0_5)) = some r := H
  have A9 := Aside0.mk A90
  clear A90
  by_cases c10 : t208 = true
  rotate_left
  ·replace c10 := Bool.eq_false_iff.mpr c10
   subst c10
   have H1 : (impl_areLeases.j0 k true a0_0 a0_1 l0_2 a0_3 a0_4 l0_5) = some r := by rw [if_neg (show ¬ (false = true) by decide)] at H; exact H
   clear H
   have H := H1
   clear H1
   have H' := Aside0.mk H
   clear H
   have hcz18_0 : w3.cell? ⟨gb205, 0, none⟩ = some (.int .i64 a0_0) := bc_ BK205.out 0
   have hcz18_1 : w3.cell? ⟨gb205, 1, none⟩ = some (.int .i64 a0_1) := bc_ BK205.out 1
   have hcz18_2 : w3.cell? ⟨gb205, 2, none⟩ = some (.slice A0_2 l0_2.length c0_2) := bc_ BK205.out 2
   have hcz18_3 : w3.cell? ⟨gb205, 3, none⟩ = some (.int .i64 a0_3) := bc_ BK205.out 3
   have hcz18_4 : w3.cell? ⟨gb205, 4, none⟩ = some (.int .i64 a0_4) := bc_ BK205.out 4
   have hcz18_5 : w3.cell? ⟨gb205, 5, none⟩ = some (.slice A0_5 l0_5.length c0_5) := bc_ BK205.out 5
   have hfz18_0 := blk_frozen BK205.out 0
   have hfz18_1 := blk_frozen BK205.out 1
   have hfz18_2 := blk_frozen BK205.out 2
   have hfz18_3 := blk_frozen BK205.out 3
   have hfz18_4 := blk_frozen BK205.out 4
   have hfz18_5 := blk_frozen BK205.out 5
   go_wp2_with (first | ((with_reducible refine gate_callee (f := 50) rfl ?_); refine goesL_ (some 11) rfl rfl Try.func50 (by kernel_rfl) rfl #[.int .i64 a0_0, .int .i64 0, .int .i64 1000] rfl nc_ ?_; (with_reducible refine (impl_in.calls a0_0 0 1000 true _ A5.out).mono ?_); rintro e w' ⟨rfl, ⟨nd, rfl⟩⟩; refine ⟨_, rfl, ?_⟩) | (go_at_call 50; (with_reducible refine (impl_in.calls a0_1 0 1000000 true _ A7.out).mono ?_); rintro e w' ⟨rfl, ⟨nd, rfl⟩⟩) | (go_at_call 50; (with_reducible refine (impl_in.calls (l0_2.length : Int) 1 12 false _ A9.out).mono ?_); rintro e w' ⟨rfl, ⟨nd, rfl⟩⟩))
   go_meet
   case rel => exact ⟨_, (true), (by first | rfl | (simp; done) | (simp [*]; done)), H', ⟨by first | omega | exact Nat.le_refl _⟩, ⟨by exact kb_ BK205.out⟩, ⟨bl_⟩⟩
  subst c10
  have H1 : ((impl_in.f a0_3 (-1) (wrap64 ((l0_2.length : Int) - 1))).bind fun t209 => (if t209 = true then ((impl_in.f a0_4 0 2000000).bind fun t210 => (if t210 = true then (impl_areLeases.j0 k ((l0_5.length : Int) != (l0_2.length : Int)) a0_0 a0_1 l0_2 a0_3 a0_4 l0_5) else (impl_areLeases.j0 k true a0_0 a0_1 l0_2 a0_3 a0_4 l0_5))) else (impl_areLeases.j0 k true a0_0 a0_1 l0_2 a0_3 a0_4 l0_5))) = some r := by rw [if_pos rfl] at H; exact H
  clear H
  have H := H1
  clear H1
  replace H := Option.bind_eq_some_iff.mp H
  obtain ⟨t209, A110, H⟩ := H
  replace H : (if t209 = true then ((impl_in.f a0_4 0 2000000).bind fun t210 => (if t210 = true then (impl_areLeases.j0 k ((l0_5.length : Int) != (l0_2.length : Int)) a0_0 a0_1 l0_2 a0_3 a0_4 l0_5) else (impl_areLeases.j0 k true a0_0 a0_1 l0_2 a0_3 a0_4 l0_5))) else (impl_areLeases.j0 k true a0_0 a0_1 l0_2 a0_3 a0_4 l0_5)) = some r := H
  have A11 := Aside0.mk A110
  clear A110
  by_cases c12 : t209 = true
  rotate_left
  ·replace c12 := Bool.eq_false_iff.mpr c12
   subst c12
   have H1 : (impl_areLeases.j0 k true a0_0 a0_1 l0_2 a0_3 a0_4 l0_5) = some r := by rw [if_neg (show ¬ (false = true) by decide)] at H; exact H
   clear H
   have H := H1
   clear H1
   have H' := Aside0.mk H
   clear H
   have hcz17_0 : w3.cell? ⟨gb205, 0, none⟩ = some (.int .i64 a0_0) := bc_ BK205.out 0
   have hcz17_1 : w3.cell? ⟨gb205, 1, none⟩ = some (.int .i64 a0_1) := bc_ BK205.out 1
   have hcz17_2 : w3.cell? ⟨gb205, 2, none⟩ = some (.slice A0_2 l0_2.length c0_2) := bc_ BK205.out 2
   have hcz17_3 : w3.cell? ⟨gb205, 3, none⟩ = some (.int .i64 a0_3) := bc_ BK205.out 3
   have hcz17_4 : w3.cell? ⟨gb205, 4, none⟩ = some (.int .i64 a0_4) := bc_ BK205.out 4
   have hcz17_5 : w3.cell? ⟨gb205, 5, none⟩ = some (.slice A0_5 l0_5.length c0_5) := bc_ BK205.out 5
   have hfz17_0 := blk_frozen BK205.out 0
   have hfz17_1 := blk_frozen BK205.out 1
   have hfz17_2 := blk_frozen BK205.out 2
   have hfz17_3 := blk_frozen BK205.out 3
   have hfz17_4 := blk_frozen BK205.out 4
   have hfz17_5 := blk_frozen BK205.out 5
   go_wp2_with (first | ((with_reducible refine gate_callee (f := 50) rfl ?_); refine goesL_ (some 11) rfl rfl Try.func50 (by kernel_rfl) rfl #[.int .i64 a0_0, .int .i64 0, .int .i64 1000] rfl nc_ ?_; (with_reducible refine (impl_in.calls a0_0 0 1000 true _ A5.out).mono ?_); rintro e w' ⟨rfl, ⟨nd, rfl⟩⟩; refine ⟨_, rfl, ?_⟩) | (go_at_call 50; (with_reducible refine (impl_in.calls a0_1 0 1000000 true _ A7.out).mono ?_); rintro e w' ⟨rfl, ⟨nd, rfl⟩⟩) | (go_at_call 50; (with_reducible refine (impl_in.calls (l0_2.length : Int) 1 12 true _ A9.out).mono ?_); rintro e w' ⟨rfl, ⟨nd, rfl⟩⟩) | (go_at_call 50; (with_reducible refine (impl_in.calls a0_3 (-1) (wrap64 ((l0_2.length : Int) - 1)) false _ A11.out).mono ?_); rintro e w' ⟨rfl, ⟨nd, rfl⟩⟩))
   go_meet
   case rel => exact ⟨_, (true), (by first | rfl | (simp; done) | (simp [*]; done)), H', ⟨by first | omega | exact Nat.le_refl _⟩, ⟨by exact kb_ BK205.out⟩, ⟨bl_⟩⟩
  subst c12
  have H1 : ((impl_in.f a0_4 0 2000000).bind fun t210 => (if t210 = true then (impl_areLeases.j0 k ((l0_5.length : Int) != (l0_2.length : Int)) a0_0 a0_1 l0_2 a0_3 a0_4 l0_5) else (impl_areLeases.j0 k true a0_0 a0_1 l0_2 a0_3 a0_4 l0_5))) = some r := by rw [if_pos rfl] at H; exact H
  clear H
  have H := H1
  clear H1
  replace H := Option.bind_eq_some_iff.mp H
  obtain ⟨t210, A130, H⟩ := H
  replace H : (if t210 = true then (impl_areLeases.j0 k ((l0_5.length : Int) != (l0_2.length : Int)) a0_0 a0_1 l0_2 a0_3 a0_4 l0_5) else (impl_areLeases.j0 k true a0_0 a0_1 l0_2 a0_3 a0_4 l0_5)) = some r := H
  have A13 := Aside0.mk A130
  clear A130
  by_cases c14 : t210 = true
  rotate_left
  ·replace c14 := Bool.eq_false_iff.mpr c14
   subst c14
   have H1 : (impl_areLeases.j0 k true a0_0 a0_1 l0_2 a0_3 a0_4 l0_5) = some r := by rw [if_neg (show ¬ (false = true) by decide)] at H; exact H
   clear H
   have H := H1
   clear H1
   have H' := Aside0.mk H
   clear H
   have hcz16_0 : w3.cell? ⟨gb205, 0, none⟩ = some (.int .i64 a0_0) := bc_ BK205.out 0
   have hcz16_1 : w3.cell? ⟨gb205, 1, none⟩ = some (.int .i64 a0_1) := bc_ BK205.out 1
   have hcz16_2 : w3.cell? ⟨gb205, 2, none⟩ = some (.slice A0_2 l0_2.length c0_2) := bc_ BK205.out 2
   have hcz16_3 : w3.cell? ⟨gb205, 3, none⟩ = some (.int .i64 a0_3) := bc_ BK205.out 3
   have hcz16_4 : w3.cell? ⟨gb205, 4, none⟩ = some (.int .i64 a0_4) := bc_ BK205.out 4
   have hcz16_5 : w3.cell? ⟨gb205, 5, none⟩ = some (.slice A0_5 l0_5.length c0_5) := bc_ BK205.out 5
   have hfz16_0 := blk_frozen BK205.out 0
   have hfz16_1 := blk_frozen BK205.out 1
   have hfz16_2 := blk_frozen BK205.out 2
   have hfz16_3 := blk_frozen BK205.out 3
   have hfz16_4 := blk_frozen BK205.out 4
   have hfz16_5 := blk_frozen BK205.out 5
   go_wp2_with (first | ((with_reducible refine gate_callee (f := 50) rfl ?_); refine goesL_ (some 11) rfl rfl Try.func50 (by kernel_rfl) rfl #[.int .i64 a0_0, .int .i64 0, .int .i64 1000] rfl nc_ ?_; (with_reducible refine (impl_in.calls a0_0 0 1000 true _ A5.out).mono ?_); rintro e w' ⟨rfl, ⟨nd, rfl⟩⟩; refine ⟨_, rfl, ?_⟩) | (go_at_call 50; (with_reducible refine (impl_in.calls a0_1 0 1000000 true _ A7.out).mono ?_); rintro e w' ⟨rfl, ⟨nd, rfl⟩⟩) | (go_at_call 50; (with_reducible refine (impl_in.calls (l0_2.length : Int) 1 12 true _ A9.out).mono ?_); rintro e w' ⟨rfl, ⟨nd, rfl⟩⟩) | (go_at_call 50; (with_reducible refine (impl_in.calls a0_3 (-1) (wrap64 ((l0_2.length : Int) - 1)) true _ A11.out).mono ?_); rintro e w' ⟨rfl, ⟨nd, rfl⟩⟩) | (go_at_call 50; (with_reducible refine (impl_in.calls a0_4 0 2000000 false _ A13.out).mono ?_); rintro e w' ⟨rfl, ⟨nd, rfl⟩⟩))
   go_meet
   case rel => exact ⟨_, (true), (by first | rfl | (simp; done) | (simp [*]; done)), H', ⟨by first | omega | exact Nat.le_refl _⟩, ⟨by exact kb_ BK205.out⟩, ⟨bl_⟩⟩
  subst c14
  have H1 : (impl_areLeases.j0 k ((l0_5.length : Int) != (l0_2.length : Int)) a0_0 a0_1 l0_2 a0_3 a0_4 l0_5) = some r := by rw [if_pos rfl] at H; exact H
  clear H
  have H := H1
  clear H1
  have H' := Aside0.mk H
  clear H
  have hcz15_0 : w3.cell? ⟨gb205, 0, none⟩ = some (.int .i64 a0_0) := bc_ BK205.out 0
  have hcz15_1 : w3.cell? ⟨gb205, 1, none⟩ = some (.int .i64 a0_1) := bc_ BK205.out 1
  have hcz15_2 : w3.cell? ⟨gb205, 2, none⟩ = some (.slice A0_2 l0_2.length c0_2) := bc_ BK205.out 2
  have hcz15_3 : w3.cell? ⟨gb205, 3, none⟩ = some (.int .i64 a0_3) := bc_ BK205.out 3
  have hcz15_4 : w3.cell? ⟨gb205, 4, none⟩ = some (.int .i64 a0_4) := bc_ BK205.out 4
  have hcz15_5 : w3.cell? ⟨gb205, 5, none⟩ = some (.slice A0_5 l0_5.length c0_5) := bc_ BK205.out 5
  have hfz15_0 := blk_frozen BK205.out 0
  have hfz15_1 := blk_frozen BK205.out 1
  have hfz15_2 := blk_frozen BK205.out 2
  have hfz15_3 := blk_frozen BK205.out 3
  have hfz15_4 := blk_frozen BK205.out 4
  have hfz15_5 := blk_frozen BK205.out 5
  go_wp2_with (first | ((with_reducible refine gate_callee (f := 50) rfl ?_); refine goesL_ (some 11) rfl rfl Try.func50 (by kernel_rfl) rfl #[.int .i64 a0_0, .int .i64 0, .int .i64 1000] rfl nc_ ?_; (with_reducible refine (impl_in.calls a0_0 0 1000 true _ A5.out).mono ?_); rintro e w' ⟨rfl, ⟨nd, rfl⟩⟩; refine ⟨_, rfl, ?_⟩) | (go_at_call 50; (with_reducible refine (impl_in.calls a0_1 0 1000000 true _ A7.out).mono ?_); rintro e w' ⟨rfl, ⟨nd, rfl⟩⟩) | (go_at_call 50; (with_reducible refine (impl_in.calls (l0_2.length : Int) 1 12 true _ A9.out).mono ?_); rintro e w' ⟨rfl, ⟨nd, rfl⟩⟩) | (go_at_call 50; (with_reducible refine (impl_in.calls a0_3 (-1) (wrap64 ((l0_2.length : Int) - 1)) true _ A11.out).mono ?_); rintro e w' ⟨rfl, ⟨nd, rfl⟩⟩) | (go_at_call 50; (with_reducible refine (impl_in.calls a0_4 0 2000000 true _ A13.out).mono ?_); rintro e w' ⟨rfl, ⟨nd, rfl⟩⟩))
  go_meet
  case rel => exact ⟨_, (((l0_5.length : Int) != (l0_2.length : Int))), (by first | rfl | (simp; done) | (simp [*]; done)), H', ⟨by first | omega | exact Nat.le_refl _⟩, ⟨by exact kb_ BK205.out⟩, ⟨bl_⟩⟩
 clear HC2
 try clear c1
 try clear p2
 try clear c4
 try clear c5
 try clear c6
 try clear p6
 try clear c8
 try clear c10
 try clear c12
 try clear c14
 try clear hcz15_0
 try clear hcz15_1
 try clear hcz15_2
 try clear hcz15_3
 try clear hcz15_4
 try clear hcz15_5
 try clear hcz16_0
 try clear hcz16_1
 try clear hcz16_2
 try clear hcz16_3
 try clear hcz16_4
 try clear hcz16_5
 try clear hcz17_0
 try clear hcz17_1
 try clear hcz17_2
 try clear hcz17_3
 try clear hcz17_4
 try clear hcz17_5
 try clear hcz18_0
 try clear hcz18_1
 try clear hcz18_2
 try clear hcz18_3
 try clear hcz18_4
 try clear hcz18_5
 try clear hcz19_0
 try clear hcz19_1
 try clear hcz19_2
 try clear hcz19_3
 try clear hcz19_4
 try clear hcz19_5
 try clear hcz20_0
 try clear hcz20_1
 try clear hcz20_2
 try clear hcz20_3
 try clear hcz20_4
 try clear hcz20_5
 try clear hcz4_0
 try clear hcz4_1
 try clear hcz4_2
 try clear hcz4_3
 try clear hcz4_4
 try clear hcz4_5
 try clear hfz15_0
 try clear hfz15_1
 try clear hfz15_2
 try clear hfz15_3
 try clear hfz15_4
 try clear hfz15_5
 try clear hfz16_0
 try clear hfz16_1
 try clear hfz16_2
 try clear hfz16_3
 try clear hfz16_4
 try clear hfz16_5
 try clear hfz17_0
 try clear hfz17_1
 try clear hfz17_2
 try clear hfz17_3
 try clear hfz17_4
 try clear hfz17_5
 try clear hfz18_0
 try clear hfz18_1
 try clear hfz18_2
 try clear hfz18_3
 try clear hfz18_4
 try clear hfz18_5
 try clear hfz19_0
 try clear hfz19_1
 try clear hfz19_2
 try clear hfz19_3
 try clear hfz19_4
 try clear hfz19_5
 try clear hfz20_0
 try clear hfz20_1
 try clear hfz20_2
 try clear hfz20_3
 try clear hfz20_4
 try clear hfz20_5
 try clear hfz4_0
 try clear hfz4_1
 try clear hfz4_2
 try clear hfz4_3
 try clear hfz4_4
 try clear hfz4_5
 obtain ⟨kq, x44_1, rfl, HA, HJ1, BK205, HB⟩ := hcut
 cases kq with
 | zero => exact absurd HA.out (by simp [impl_areLeases.j0])
 | succ kj1 => ?_
 have H := HA.out
 clear HA
 simp only [impl_areLeases.j0] at H
 by_cases c21 : x44_1 = true
 ·subst c21
  have H1 : (some false) = some r := by rw [if_pos rfl] at H; exact H
  clear H
  have H := H1
  clear H1
  obtain rfl := Option.some.inj H
  go_wp2
  go_ret
  exact ⟨ng_, bl_⟩
 replace c21 := Bool.eq_false_iff.mpr c21
 subst c21
 have H1 : (impl_areLeases.l0 kj1 l0_2 (l0_2.length : Int) 0 a0_0 a0_1 l0_2 a0_3 a0_4 l0_5) = some r := by rw [if_neg (show ¬ (false = true) by decide)] at H; exact H
 clear H
 have H := H1
 clear H1
 have H' := Aside0.mk H
 clear H
 have hcz22_0 : wc.cell? ⟨gb205, 0, none⟩ = some (.int .i64 a0_0) := bc_ BK205.out 0
 have hcz22_1 : wc.cell? ⟨gb205, 1, none⟩ = some (.int .i64 a0_1) := bc_ BK205.out 1
 have hcz22_2 : wc.cell? ⟨gb205, 2, none⟩ = some (.slice A0_2 l0_2.length c0_2) := bc_ BK205.out 2
 have hcz22_3 : wc.cell? ⟨gb205, 3, none⟩ = some (.int .i64 a0_3) := bc_ BK205.out 3
 have hcz22_4 : wc.cell? ⟨gb205, 4, none⟩ = some (.int .i64 a0_4) := bc_ BK205.out 4
 have hcz22_5 : wc.cell? ⟨gb205, 5, none⟩ = some (.slice A0_5 l0_5.length c0_5) := bc_ BK205.out 5
 have hfz22_0 := blk_frozen BK205.out 0
 have hfz22_1 := blk_frozen BK205.out 1
 have hfz22_2 := blk_frozen BK205.out 2
 have hfz22_3 := blk_frozen BK205.out 3
 have hfz22_4 := blk_frozen BK205.out 4
 have hfz22_5 := blk_frozen BK205.out 5
 go_wp2
 go_loopg [48] kj1 (fun kq v48 w' => ∃ (x48_2 : Int), v48 = .int .i64 x48_2 ∧ Aside0 (impl_areLeases.l0 kq l0_2 (l0_2.length : Int) x48_2 a0_0 a0_1 l0_2 a0_3 a0_4 l0_5 = some r) ∧ Aside0 (kq ≤ kj1) ∧ Aside0 (w'.heap[gb205]? = some (.cells #[.int .i64 a0_0, .int .i64 a0_1, (.slice A0_2 l0_2.length c0_2), .int .i64 a0_3, .int .i64 a0_4, (.slice A0_5 l0_5.length c0_5)] 24 (0, 0))) ∧ Aside0 (Below w.heap.size w w'))
 case atStart => exact ⟨(0), (by first | rfl | (simp; done) | (simp [*]; done)), H', ⟨Nat.le_refl _⟩, ⟨by exact kb_ BK205.out⟩, ⟨bl_⟩⟩
 clear H'
 try clear c1
 try clear c2
 try clear p2
 try clear c4
 try clear c5
 try clear c6
 try clear p6
 try clear c8
 try clear c10
 try clear c12
 try clear c14
 try clear c21
 try clear hcz15_0
 try clear hcz15_1
 try clear hcz15_2
 try clear hcz15_3
 try clear hcz15_4
 try clear hcz15_5
 try clear hcz16_0
 try clear hcz16_1
 try clear hcz16_2
 try clear hcz16_3
 try clear hcz16_4
 try clear hcz16_5
 try clear hcz17_0
 try clear hcz17_1
 try clear hcz17_2
 try clear hcz17_3
 try clear hcz17_4
 try clear hcz17_5
 try clear hcz18_0
 try clear hcz18_1
 try clear hcz18_2
 try clear hcz18_3
 try clear hcz18_4
 try clear hcz18_5
 try clear hcz19_0
 try clear hcz19_1
 try clear hcz19_2
 try clear hcz19_3
 try clear hcz19_4
 try clear hcz19_5
 try clear hcz20_0
 try clear hcz20_1
 try clear hcz20_2
 try clear hcz20_3
 try clear hcz20_4
 try clear hcz20_5
 try clear hcz22_0
 try clear hcz22_1
 try clear hcz22_2
 try clear hcz22_3
 try clear hcz22_4
 try clear hcz22_5
 try clear hcz4_0
 try clear hcz4_1
 try clear hcz4_2
 try clear hcz4_3
 try clear hcz4_4
 try clear hcz4_5
 try clear hfz15_0
 try clear hfz15_1
 try clear hfz15_2
 try clear hfz15_3
 try clear hfz15_4
 try clear hfz15_5
 try clear hfz16_0
 try clear hfz16_1
 try clear hfz16_2
 try clear hfz16_3
 try clear hfz16_4
 try clear hfz16_5
 try clear hfz17_0
 try clear hfz17_1
 try clear hfz17_2
 try clear hfz17_3
 try clear hfz17_4
 try clear hfz17_5
 try clear hfz18_0
 try clear hfz18_1
 try clear hfz18_2
 try clear hfz18_3
 try clear hfz18_4
 try clear hfz18_5
 try clear hfz19_0
 try clear hfz19_1
 try clear hfz19_2
 try clear hfz19_3
 try clear hfz19_4
 try clear hfz19_5
 try clear hfz20_0
 try clear hfz20_1
 try clear hfz20_2
 try clear hfz20_3
 try clear hfz20_4
 try clear hfz20_5
 try clear hfz22_0
 try clear hfz22_1
 try clear hfz22_2
 try clear hfz22_3
 try clear hfz22_4
 try clear hfz22_5
 try clear hfz4_0
 try clear hfz4_1
 try clear hfz4_2
 try clear hfz4_3
 try clear hfz4_4
 try clear hfz4_5
 try clear p2
 try clear p6
 obtain ⟨x48_2, rfl, HA, HK2, BK205, HB⟩ := hrel
 cases gk with
 | zero => exact absurd HA.out (by simp [impl_areLeases.l0])
 | succ k2 => ?_
 have H := HA.out
 clear HA
 simp only [impl_areLeases.l0] at H
 by_cases c23 : x48_2 < (l0_2.length : Int)
 rotate_left
 ·rw [if_neg c23] at H
  have c23b0 : decide (x48_2 < (l0_2.length : Int)) = false := decide_eq_false c23
  clear c23
  obtain rfl := Option.some.inj H
  go_wp2
  go_ret
  exact ⟨ng_, bl_⟩
 rw [if_pos c23] at H
 have c23b0 : decide (x48_2 < (l0_2.length : Int)) = true := decide_eq_true c23
 clear c23
 by_cases c24 : 0 ≤ x48_2
 rotate_left
 ·rw [if_neg c24] at H
  exact absurd H (by simp)
 rw [if_pos c24] at H
 have c24b0 : decide (0 ≤ x48_2) = true := decide_eq_true c24
 clear c24
 by_cases c25 : x48_2 < (l0_2.length : Int)
 rotate_left
 ·rw [if_neg c25] at H
  exact absurd H (by simp)
 rw [if_pos c25] at H
 have c25b0 : decide (x48_2 < (l0_2.length : Int)) = true := decide_eq_true c25
 clear c25
 obtain ⟨ji26, hji26⟩ : ∃ j_ : Int, (mx (wrap64 (a0_1 - a0_0)) 0) = j_ := ⟨_, rfl⟩
 replace H : ((impl_in.f (rd l0_2 x48_2) (ji26) (wrap64 (a0_1 + a0_0))).bind fun t212 => (if t212 = true then (if x48_2 < (l0_5.length : Int) then ((impl_in.f (rd l0_5 x48_2) 0 a0_4).bind fun t214 => (if t214 = true then (if x48_2 = a0_3 then (impl_areLeases.l0 k2 l0_2 (l0_2.length : Int) (wrap64 (x48_2 + 1)) a0_0 a0_1 l0_2 a0_3 a0_4 l0_5) else (if (rd l0_5 x48_2) > a0_1 then (some false) else (impl_areLeases.l0 k2 l0_2 (l0_2.length : Int) (wrap64 (x48_2 + 1)) a0_0 a0_1 l0_2 a0_3 a0_4 l0_5))) else (some false))) else (none)) else (some false))) = some r := by first | (rw [hji26] at H; exact H) | (simp only [hji26] at H ⊢; exact H)
 have hji26_ : (if (wrap64 (a0_1 - a0_0)) < 0 then 0 else (wrap64 (a0_1 - a0_0))) = ji26 := hji26
 replace H := Option.bind_eq_some_iff.mp H
 obtain ⟨t212, A270, H⟩ := H
 replace H : (if t212 = true then (if x48_2 < (l0_5.length : Int) then ((impl_in.f (rd l0_5 x48_2) 0 a0_4).bind fun t214 => (if t214 = true then (if x48_2 = a0_3 then (impl_areLeases.l0 k2 l0_2 (l0_2.length : Int) (wrap64 (x48_2 + 1)) a0_0 a0_1 l0_2 a0_3 a0_4 l0_5) else (if (rd l0_5 x48_2) > a0_1 then (some false) else (impl_areLeases.l0 k2 l0_2 (l0_2.length : Int) (wrap64 (x48_2 + 1)) a0_0 a0_1 l0_2 a0_3 a0_4 l0_5))) else (some false))) else (none)) else (some false)) = some r := H
 have A27 := Aside0.mk A270
 clear A270
 by_cases c28 : t212 = true
 rotate_left
 ·replace c28 := Bool.eq_false_iff.mpr c28
  subst c28
  have H1 : (some false) = some r := by rw [if_neg (show ¬ (false = true) by decide)] at H; exact H
  clear H
  have H := H1
  clear H1
  obtain rfl := Option.some.inj H
  have p211 : 0 ≤ (x48_2 : Int) := of_decide_eq_true (by first | (with_reducible assumption) | assumption)
  have q211 : x48_2 < (l0_2.length : Int) := of_decide_eq_true (by first | (with_reducible assumption) | assumption)
  obtain ⟨ad211, e211, hx211_0⟩ := Kd.at_int HR0_2.out x48_2 p211 q211
  cases e211
  replace hx211_0 := (HB.out.cell (World.block_lt_of_cell? w _ hx211_0)).trans hx211_0
  replace p211 := eq_true p211
  replace q211 := eq_true q211
  try go_wp2
  replace BK205 := Aside0.mk (blk_drew BK205.out)
  replace HB := Aside0.mk (below_drew1 HB.out)
  refine start_ (n := 41) (S := fun w' => w'.cell? ⟨gb205, 0, none⟩ = some (.int .i64 a0_0) ∧ w'.cell? ⟨gb205, 1, none⟩ = some (.int .i64 a0_1) ∧ w'.cell? ⟨gb205, 2, none⟩ = some (.slice (some ad211) l0_2.length c0_2) ∧ w'.cell? ⟨gb205, 3, none⟩ = some (.int .i64 a0_3) ∧ w'.cell? ⟨gb205, 4, none⟩ = some (.int .i64 a0_4) ∧ w'.cell? ⟨gb205, 5, none⟩ = some (.slice A0_5 l0_5.length c0_5)) (ds := []) #[false, false, false, false, false, false, false, false, false, false, false, false, false, false, false, false, false, false, false, false, false, false, false, false, false, false, false, false, false, false, false, false, false, false, false, false, false, false, false, false, false] (by kernel_rfl) rfl rfl ⟨bc_ BK205.out 0, bc_ BK205.out 1, bc_ BK205.out 2, bc_ BK205.out 3, bc_ BK205.out 4, bc_ BK205.out 5⟩ (fun hHeld => ?_); refine with_tabW impl_areLeases.tab7 impl_areLeases.bits7 (fun HT_ HW_ => ?_)
  generalize wr.drew = w38 at BK205 HB hHeld ⊢
  refine pu_ 0 (some 53) (h := ?_)
  refine pu_ 1 (some 54) (h := ?_)
  refine pu_ 3 (some 56) (h := ?_)
  refine pu_ 7 (some 60) (h := ?_)
  refine pu_ 9 (some 62) (h := ?_)
  refine tk6_ 2 (some 55) (h := ?_)
  refine tk6_ 4 (some 57) (h := ?_)
  refine pu_ 5 (some 58) (h := ?_)
  refine pu_ 6 (some 59) (h := ?_)
  refine tk6_ 8 (some 61) (h := ?_)
  refine tk6_ 10 (some 63) (h := ?_)
  refine pu_ 11 (some 64) (h := ?_)
  refine on_ 12 (some 65) (h := fun K hK => ?_)
  refine goes_ Try.func50 (by kernel_rfl) rfl #[.int .i64 (rd l0_2 x48_2), .int .i64 ji26, .int .i64 (wrap64 (a0_1 + a0_0))] (by rfl) rfl rfl (by (try simp only [List.map_toArray, List.map_cons, List.map_nil]); first | done | (simp only [hji26]; rfl) | rfl | (simp only [List.length_drop, List.length_take]; rfl)) ?_
  with_reducible refine (impl_in.calls (rd l0_2 x48_2) ji26 (wrap64 (a0_1 + a0_0)) false _ A27.out).mono ?_
  rintro e w' ⟨rfl, ⟨nd, rfl⟩⟩
  refine ⟨_, rfl, ?_⟩
  refine hK.out _ _ ⟨bc_ BK205.out 0, bc_ BK205.out 1, bc_ BK205.out 2, bc_ BK205.out 3, bc_ BK205.out 4, bc_ BK205.out 5⟩ (fun hHeld => ?_)
  clear hK K
  refine norm_ nn_ ?_
  refine pu_ 13 (some 66) (h := ?_)
  refine pu_ 14 (some 67) (h := ?_)
  refine px_ 15 (some 68) (h := ?_)
  refine px_ 16 (some 69) (h := ?_)
  refine px_ 17 (some 70) (h := ?_)
  refine px_ 18 (some 71) (h := ?_)
  refine px_ 19 (some 72) (h := ?_)
  refine px_ 20 (some 73) (h := ?_)
  refine px_ 21 (some 74) (h := ?_)
  refine px_ 22 (some 75) (h := ?_)
  refine px_ 23 (some 76) (h := ?_)
  refine pu_ 24 (some 77) (h := ?_)
  refine pu_ 25 (some 78) (h := ?_)
  refine px_ 26 (some 79) (h := ?_)
  refine px_ 27 (some 80) (h := ?_)
  refine px_ 28 (some 81) (h := ?_)
  refine px_ 29 (some 82) (h := ?_)
  refine px_ 30 (some 83) (h := ?_)
  refine px_ 31 (some 84) (h := ?_)
  refine px_ 32 (some 85) (h := ?_)
  refine px_ 33 (some 86) (h := ?_)
  refine px_ 34 (some 87) (h := ?_)
  refine px_ 35 (some 88) (h := ?_)
  refine px_ 36 (some 89) (h := ?_)
  refine px_ 37 (some 90) (h := ?_)
  refine px_ 38 (some 91) (h := ?_)
  refine px_ 39 (some 92) (h := ?_)
  refine pu_ 40 (some 93) (h := ?_)
  refine done_ (done_of HT_.out (by kernel_rfl)) ?_
  try go_wp2
  go_ret
  exact ⟨by first | rfl | (simp [errW_none, errW_some] <;> rfl) | (simp only [← hji26]; first | rfl | (simp [errW_none, errW_some] <;> rfl)) | (simp [*, errW_none, errW_some] <;> rfl), bl_⟩
 subst c28
 have H1 : (if x48_2 < (l0_5.length : Int) then ((impl_in.f (rd l0_5 x48_2) 0 a0_4).bind fun t214 => (if t214 = true then (if x48_2 = a0_3 then (impl_areLeases.l0 k2 l0_2 (l0_2.length : Int) (wrap64 (x48_2 + 1)) a0_0 a0_1 l0_2 a0_3 a0_4 l0_5) else (if (rd l0_5 x48_2) > a0_1 then (some false) else (impl_areLeases.l0 k2 l0_2 (l0_2.length : Int) (wrap64 (x48_2 + 1)) a0_0 a0_1 l0_2 a0_3 a0_4 l0_5))) else (some false))) else (none)) = some r := by rw [if_pos rfl] at H; exact H
 clear H
 have H := H1
 clear H1
 by_cases c29 : x48_2 < (l0_5.length : Int)
 rotate_left
 ·rw [if_neg c29] at H
  exact absurd H (by simp)
 rw [if_pos c29] at H
 have c29b0 : decide (x48_2 < (l0_5.length : Int)) = true := decide_eq_true c29
 clear c29
 replace H := Option.bind_eq_some_iff.mp H
 obtain ⟨t214, A300, H⟩ := H
 replace H : (if t214 = true then (if x48_2 = a0_3 then (impl_areLeases.l0 k2 l0_2 (l0_2.length : Int) (wrap64 (x48_2 + 1)) a0_0 a0_1 l0_2 a0_3 a0_4 l0_5) else (if (rd l0_5 x48_2) > a0_1 then (some false) else (impl_areLeases.l0 k2 l0_2 (l0_2.length : Int) (wrap64 (x48_2 + 1)) a0_0 a0_1 l0_2 a0_3 a0_4 l0_5))) else (some false)) = some r := H
 have A30 := Aside0.mk A300
 clear A300
 by_cases c31 : t214 = true
 rotate_left
 ·replace c31 := Bool.eq_false_iff.mpr c31
  subst c31
  have H1 : (some false) = some r := by rw [if_neg (show ¬ (false = true) by decide)] at H; exact H
  clear H
  have H := H1
  clear H1
  obtain rfl := Option.some.inj H
  have p211 : 0 ≤ (x48_2 : Int) := of_decide_eq_true (by first | (with_reducible assumption) | assumption)
  have q211 : x48_2 < (l0_2.length : Int) := of_decide_eq_true (by first | (with_reducible assumption) | assumption)
  obtain ⟨ad211, e211, hx211_0⟩ := Kd.at_int HR0_2.out x48_2 p211 q211
  cases e211
  replace hx211_0 := (HB.out.cell (World.block_lt_of_cell? w _ hx211_0)).trans hx211_0
  replace p211 := eq_true p211
  replace q211 := eq_true q211
  try go_wp2
  replace BK205 := Aside0.mk (blk_drew BK205.out)
  replace HB := Aside0.mk (below_drew1 HB.out)
  have p213 : 0 ≤ (x48_2 : Int) := of_decide_eq_true (by first | (with_reducible assumption) | assumption)
  have q213 : x48_2 < (l0_5.length : Int) := of_decide_eq_true (by first | (with_reducible assumption) | assumption)
  obtain ⟨ad213, e213, hx213_0⟩ := Kd.at_int HR0_5.out x48_2 p213 q213
  have hw213_0 := hx213_0
  cases e213
  replace hx213_0 := (HB.out.cell (World.block_lt_of_cell? w _ hx213_0)).trans hx213_0
  replace p213 := eq_true p213
  replace q213 := eq_true q213
  refine start_ (n := 41) (S := fun w' => w'.cell? ⟨gb205, 0, none⟩ = some (.int .i64 a0_0) ∧ w'.cell? ⟨gb205, 1, none⟩ = some (.int .i64 a0_1) ∧ w'.cell? ⟨gb205, 2, none⟩ = some (.slice (some ad211) l0_2.length c0_2) ∧ w'.cell? ⟨gb205, 3, none⟩ = some (.int .i64 a0_3) ∧ w'.cell? ⟨gb205, 4, none⟩ = some (.int .i64 a0_4) ∧ w'.cell? ⟨gb205, 5, none⟩ = some (.slice (some ad213) l0_5.length c0_5) ∧ w'.cell? (ad213.add (x48_2).toNat) = some (.int .i64 (rd l0_5 x48_2))) (ds := []) #[false, false, false, false, false, false, false, false, false, false, false, false, false, false, false, false, false, false, false, false, false, false, false, false, false, false, false, false, false, false, false, false, false, false, false, false, false, false, false, false, false] (by kernel_rfl) rfl rfl ⟨bc_ BK205.out 0, bc_ BK205.out 1, bc_ BK205.out 2, bc_ BK205.out 3, bc_ BK205.out 4, bc_ BK205.out 5, ((HB.out.cell (World.block_lt_of_cell? w _ hw213_0)).trans hw213_0)⟩ (fun hHeld => ?_); refine with_tabW impl_areLeases.tab7 impl_areLeases.bits7 (fun HT_ HW_ => ?_)
  generalize wr.drew = w37 at BK205 HB hx213_0 hHeld ⊢
  refine pu_ 0 (some 53) (h := ?_)
  refine pu_ 1 (some 54) (h := ?_)
  refine pu_ 3 (some 56) (h := ?_)
  refine pu_ 7 (some 60) (h := ?_)
  refine pu_ 9 (some 62) (h := ?_)
  refine tk7_ 2 (some 55) (h := ?_)
  refine tk7_ 4 (some 57) (h := ?_)
  refine pu_ 5 (some 58) (h := ?_)
  refine pu_ 6 (some 59) (h := ?_)
  refine tk7_ 8 (some 61) (h := ?_)
  refine tk7_ 10 (some 63) (h := ?_)
  refine pu_ 11 (some 64) (h := ?_)
  refine on_ 12 (some 65) (h := fun K hK => ?_)
  refine goes_ Try.func50 (by kernel_rfl) rfl #[.int .i64 (rd l0_2 x48_2), .int .i64 ji26, .int .i64 (wrap64 (a0_1 + a0_0))] (by rfl) rfl rfl (by (try simp only [List.map_toArray, List.map_cons, List.map_nil]); first | done | (simp only [hji26]; rfl) | rfl | (simp only [List.length_drop, List.length_take]; rfl)) ?_
  with_reducible refine (impl_in.calls (rd l0_2 x48_2) ji26 (wrap64 (a0_1 + a0_0)) true _ A27.out).mono ?_
  rintro e w' ⟨rfl, ⟨nd, rfl⟩⟩
  refine ⟨_, rfl, ?_⟩
  refine hK.out _ _ ⟨bc_ BK205.out 0, bc_ BK205.out 1, bc_ BK205.out 2, bc_ BK205.out 3, bc_ BK205.out 4, bc_ BK205.out 5, ((HB.out.cell (World.block_lt_of_cell? w _ hw213_0)).trans hw213_0)⟩ (fun hHeld => ?_)
  clear hK K
  refine norm_ nn_ ?_
  refine pu_ 13 (some 66) (h := ?_)
  refine pu_ 14 (some 67) (h := ?_)
  refine pu_ 15 (some 68) (h := ?_)
  refine pu_ 17 (some 70) (h := ?_)
  refine pu_ 20 (some 73) (h := ?_)
  refine tk7_ 16 (some 69) (h := ?_)
  refine pu_ 18 (some 71) (h := ?_)
  refine tk7_ 19 (some 72) (h := ?_)
  refine tk7_ 21 (some 74) (h := ?_)
  refine on_ 22 (some 75) (h := fun K hK => ?_)
  refine goes_ Try.func50 (by kernel_rfl) rfl #[.int .i64 (rd l0_5 x48_2), .int .i64 0, .int .i64 a0_4] (by rfl) rfl rfl nc_ ?_
  with_reducible refine (impl_in.calls (rd l0_5 x48_2) 0 a0_4 false _ A30.out).mono ?_
  rintro e w' ⟨rfl, ⟨nd, rfl⟩⟩
  refine ⟨_, rfl, ?_⟩
  refine hK.out _ _ ⟨bc_ BK205.out 0, bc_ BK205.out 1, bc_ BK205.out 2, bc_ BK205.out 3, bc_ BK205.out 4, bc_ BK205.out 5, ((HB.out.cell (World.block_lt_of_cell? w _ hw213_0)).trans hw213_0)⟩ (fun hHeld => ?_)
  clear hK K
  refine norm_ nn_ ?_
  refine pu_ 23 (some 76) (h := ?_)
  refine pu_ 24 (some 77) (h := ?_)
  refine pu_ 25 (some 78) (h := ?_)
  refine px_ 26 (some 79) (h := ?_)
  refine px_ 27 (some 80) (h := ?_)
  refine px_ 28 (some 81) (h := ?_)
  refine px_ 29 (some 82) (h := ?_)
  refine px_ 30 (some 83) (h := ?_)
  refine px_ 31 (some 84) (h := ?_)
  refine px_ 32 (some 85) (h := ?_)
  refine px_ 33 (some 86) (h := ?_)
  refine px_ 34 (some 87) (h := ?_)
  refine px_ 35 (some 88) (h := ?_)
  refine px_ 36 (some 89) (h := ?_)
  refine px_ 37 (some 90) (h := ?_)
  refine px_ 38 (some 91) (h := ?_)
  refine px_ 39 (some 92) (h := ?_)
  refine pu_ 40 (some 93) (h := ?_)
  refine done_ (done_of HT_.out (by kernel_rfl)) ?_
  try go_wp2
  go_ret
  exact ⟨by first | rfl | (simp [errW_none, errW_some] <;> rfl) | (simp only [← hji26]; first | rfl | (simp [errW_none, errW_some] <;> rfl)) | (simp [*, errW_none, errW_some] <;> rfl), bl_⟩
 subst c31
 have H1 : (if x48_2 = a0_3 then (impl_areLeases.l0 k2 l0_2 (l0_2.length : Int) (wrap64 (x48_2 + 1)) a0_0 a0_1 l0_2 a0_3 a0_4 l0_5) else (if (rd l0_5 x48_2) > a0_1 then (some false) else (impl_areLeases.l0 k2 l0_2 (l0_2.length : Int) (wrap64 (x48_2 + 1)) a0_0 a0_1 l0_2 a0_3 a0_4 l0_5))) = some r := by rw [if_pos rfl] at H; exact H
 clear H
 have H := H1
 clear H1
 by_cases c32 : x48_2 = a0_3
 ·rw [if_pos c32] at H
  have c32b0 : (x48_2 == a0_3) = true := beq_iff_eq.mpr c32
  have c32b1 : (x48_2 != a0_3) = false := bne_eq_false_iff_eq.mpr c32
  clear c32
  have H' := Aside0.mk H
  clear H
  have p211 : 0 ≤ (x48_2 : Int) := of_decide_eq_true (by first | (with_reducible assumption) | assumption)
  have q211 : x48_2 < (l0_2.length : Int) := of_decide_eq_true (by first | (with_reducible assumption) | assumption)
  obtain ⟨ad211, e211, hx211_0⟩ := Kd.at_int HR0_2.out x48_2 p211 q211
  cases e211
  replace hx211_0 := (HB.out.cell (World.block_lt_of_cell? w _ hx211_0)).trans hx211_0
  replace p211 := eq_true p211
  replace q211 := eq_true q211
  try go_wp2
  replace BK205 := Aside0.mk (blk_drew BK205.out)
  replace HB := Aside0.mk (below_drew1 HB.out)
  have p213 : 0 ≤ (x48_2 : Int) := of_decide_eq_true (by first | (with_reducible assumption) | assumption)
  have q213 : x48_2 < (l0_5.length : Int) := of_decide_eq_true (by first | (with_reducible assumption) | assumption)
  obtain ⟨ad213, e213, hx213_0⟩ := Kd.at_int HR0_5.out x48_2 p213 q213
  have hw213_0 := hx213_0
  cases e213
  replace hx213_0 := (HB.out.cell (World.block_lt_of_cell? w _ hx213_0)).trans hx213_0
  replace p213 := eq_true p213
  replace q213 := eq_true q213
  refine start_ (n := 41) (S := fun w' => w'.cell? ⟨gb205, 0, none⟩ = some (.int .i64 a0_0) ∧ w'.cell? ⟨gb205, 1, none⟩ = some (.int .i64 a0_1) ∧ w'.cell? ⟨gb205, 2, none⟩ = some (.slice (some ad211) l0_2.length c0_2) ∧ w'.cell? ⟨gb205, 3, none⟩ = some (.int .i64 a0_3) ∧ w'.cell? ⟨gb205, 4, none⟩ = some (.int .i64 a0_4) ∧ w'.cell? ⟨gb205, 5, none⟩ = some (.slice (some ad213) l0_5.length c0_5) ∧ w'.cell? (ad213.add (x48_2).toNat) = some (.int .i64 (rd l0_5 x48_2))) (ds := []) #[false, false, false, false, false, false, false, false, false, false, false, false, false, false, false, false, false, false, false, false, false, false, false, false, false, false, false, false, false, false, false, false, false, false, false, false, false, false, false, false, false] (by kernel_rfl) rfl rfl ⟨bc_ BK205.out 0, bc_ BK205.out 1, bc_ BK205.out 2, bc_ BK205.out 3, bc_ BK205.out 4, bc_ BK205.out 5, ((HB.out.cell (World.block_lt_of_cell? w _ hw213_0)).trans hw213_0)⟩ (fun hHeld => ?_); refine with_tabW impl_areLeases.tab7 impl_areLeases.bits7 (fun HT_ HW_ => ?_)
  generalize wr.drew = w33 at BK205 HB hx213_0 hHeld ⊢
  refine pu_ 0 (some 53) (h := ?_)
  refine pu_ 1 (some 54) (h := ?_)
  refine pu_ 3 (some 56) (h := ?_)
  refine pu_ 7 (some 60) (h := ?_)
  refine pu_ 9 (some 62) (h := ?_)
  refine tk7_ 2 (some 55) (h := ?_)
  refine tk7_ 4 (some 57) (h := ?_)
  refine pu_ 5 (some 58) (h := ?_)
  refine pu_ 6 (some 59) (h := ?_)
  refine tk7_ 8 (some 61) (h := ?_)
  refine tk7_ 10 (some 63) (h := ?_)
  refine pu_ 11 (some 64) (h := ?_)
  refine on_ 12 (some 65) (h := fun K hK => ?_)
  refine goes_ Try.func50 (by kernel_rfl) rfl #[.int .i64 (rd l0_2 x48_2), .int .i64 ji26, .int .i64 (wrap64 (a0_1 + a0_0))] (by rfl) rfl rfl (by (try simp only [List.map_toArray, List.map_cons, List.map_nil]); first | done | (simp only [hji26]; rfl) | rfl | (simp only [List.length_drop, List.length_take]; rfl)) ?_
  with_reducible refine (impl_in.calls (rd l0_2 x48_2) ji26 (wrap64 (a0_1 + a0_0)) true _ A27.out).mono ?_
  rintro e w' ⟨rfl, ⟨nd, rfl⟩⟩
  refine ⟨_, rfl, ?_⟩
  refine hK.out _ _ ⟨bc_ BK205.out 0, bc_ BK205.out 1, bc_ BK205.out 2, bc_ BK205.out 3, bc_ BK205.out 4, bc_ BK205.out 5, ((HB.out.cell (World.block_lt_of_cell? w _ hw213_0)).trans hw213_0)⟩ (fun hHeld => ?_)
  clear hK K
  refine norm_ nn_ ?_
  refine pu_ 13 (some 66) (h := ?_)
  refine pu_ 14 (some 67) (h := ?_)
  refine pu_ 15 (some 68) (h := ?_)
  refine pu_ 17 (some 70) (h := ?_)
  refine pu_ 20 (some 73) (h := ?_)
  refine tk7_ 16 (some 69) (h := ?_)
  refine pu_ 18 (some 71) (h := ?_)
  refine tk7_ 19 (some 72) (h := ?_)
  refine tk7_ 21 (some 74) (h := ?_)
  refine on_ 22 (some 75) (h := fun K hK => ?_)
  refine goes_ Try.func50 (by kernel_rfl) rfl #[.int .i64 (rd l0_5 x48_2), .int .i64 0, .int .i64 a0_4] (by rfl) rfl rfl nc_ ?_
  with_reducible refine (impl_in.calls (rd l0_5 x48_2) 0 a0_4 true _ A30.out).mono ?_
  rintro e w' ⟨rfl, ⟨nd, rfl⟩⟩
  refine ⟨_, rfl, ?_⟩
  refine hK.out _ _ ⟨bc_ BK205.out 0, bc_ BK205.out 1, bc_ BK205.out 2, bc_ BK205.out 3, bc_ BK205.out 4, bc_ BK205.out 5, ((HB.out.cell (World.block_lt_of_cell? w _ hw213_0)).trans hw213_0)⟩ (fun hHeld => ?_)
  clear hK K
  refine norm_ nn_ ?_
  refine pu_ 23 (some 76) (h := ?_)
  refine pu_ 24 (some 77) (h := ?_)
  refine pu_ 25 (some 78) (h := ?_)
  refine pu_ 26 (some 79) (h := ?_)
  refine pu_ 27 (some 80) (h := ?_)
  refine tk7_ 28 (some 81) (h := ?_)
  refine pu_ 29 (some 82) (h := ?_)
  refine pu_ 30 (some 83) (h := ?_)
  refine px_ 31 (some 84) (h := ?_)
  refine px_ 32 (some 85) (h := ?_)
  refine px_ 33 (some 86) (h := ?_)
  refine px_ 34 (some 87) (h := ?_)
  refine px_ 35 (some 88) (h := ?_)
  refine px_ 36 (some 89) (h := ?_)
  refine px_ 37 (some 90) (h := ?_)
  refine px_ 38 (some 91) (h := ?_)
  refine pu_ 39 (some 92) (h := ?_)
  refine pu_ 40 (some 93) (h := ?_)
  refine done_ (done_of HT_.out (by kernel_rfl)) ?_
  try go_wp2
  go_roundg k2
  case measure => have := HJ1.out; have := HK2.out; omega
  case rel => exact ⟨(wrap64 (x48_2 + 1)), (by first | rfl | (simp; done) | (simp [*]; done)), H', ⟨by have := HJ1.out; have := HK2.out; omega⟩, ⟨by exact kb_ BK205.out⟩, ⟨bl_⟩⟩
 rw [if_neg c32] at H
 have c32b0 : (x48_2 == a0_3) = false := beq_eq_false_iff_ne.mpr c32
 have c32b1 : (x48_2 != a0_3) = true := bne_iff_ne.mpr c32
 by_cases c34 : (rd l0_5 x48_2) > a0_1
 ·rw [if_pos c34] at H
  have c34b0 : decide (a0_1 < (rd l0_5 x48_2)) = true := decide_eq_true c34
  clear c34
  obtain rfl := Option.some.inj H
  have p211 : 0 ≤ (x48_2 : Int) := of_decide_eq_true (by first | (with_reducible assumption) | assumption)
  have q211 : x48_2 < (l0_2.length : Int) := of_decide_eq_true (by first | (with_reducible assumption) | assumption)
  obtain ⟨ad211, e211, hx211_0⟩ := Kd.at_int HR0_2.out x48_2 p211 q211
  cases e211
  replace hx211_0 := (HB.out.cell (World.block_lt_of_cell? w _ hx211_0)).trans hx211_0
  replace p211 := eq_true p211
  replace q211 := eq_true q211
  try go_wp2
  replace BK205 := Aside0.mk (blk_drew BK205.out)
  replace HB := Aside0.mk (below_drew1 HB.out)
  have p213 : 0 ≤ (x48_2 : Int) := of_decide_eq_true (by first | (with_reducible assumption) | assumption)
  have q213 : x48_2 < (l0_5.length : Int) := of_decide_eq_true (by first | (with_reducible assumption) | assumption)
  obtain ⟨ad213, e213, hx213_0⟩ := Kd.at_int HR0_5.out x48_2 p213 q213
  have hw213_0 := hx213_0
  cases e213
  replace hx213_0 := (HB.out.cell (World.block_lt_of_cell? w _ hx213_0)).trans hx213_0
  replace p213 := eq_true p213
  replace q213 := eq_true q213
  have p215 : 0 ≤ (x48_2 : Int) := of_decide_eq_true (by first | (with_reducible assumption) | assumption)
  have q215 : x48_2 < (l0_5.length : Int) := of_decide_eq_true (by first | (with_reducible assumption) | assumption)
  obtain ⟨ad215, e215, hx215_0⟩ := Kd.at_int HR0_5.out x48_2 p215 q215
  have hw215_0 := hx215_0
  obtain rfl : ad213 = ad215 := (by injection e215)
  replace hx215_0 := (HB.out.cell (World.block_lt_of_cell? w _ hx215_0)).trans hx215_0
  replace p215 := eq_true p215
  replace q215 := eq_true q215
  refine start_ (n := 41) (S := fun w' => w'.cell? ⟨gb205, 0, none⟩ = some (.int .i64 a0_0) ∧ w'.cell? ⟨gb205, 1, none⟩ = some (.int .i64 a0_1) ∧ w'.cell? ⟨gb205, 2, none⟩ = some (.slice (some ad211) l0_2.length c0_2) ∧ w'.cell? ⟨gb205, 3, none⟩ = some (.int .i64 a0_3) ∧ w'.cell? ⟨gb205, 4, none⟩ = some (.int .i64 a0_4) ∧ w'.cell? ⟨gb205, 5, none⟩ = some (.slice (some ad213) l0_5.length c0_5) ∧ w'.cell? (ad213.add (x48_2).toNat) = some (.int .i64 (rd l0_5 x48_2)) ∧ w'.cell? (ad213.add (x48_2).toNat) = some (.int .i64 (rd l0_5 x48_2))) (ds := []) #[false, false, false, false, false, false, false, false, false, false, false, false, false, false, false, false, false, false, false, false, false, false, false, false, false, false, false, false, false, false, false, false, false, false, false, false, false, false, false, false, false] (by kernel_rfl) rfl rfl ⟨bc_ BK205.out 0, bc_ BK205.out 1, bc_ BK205.out 2, bc_ BK205.out 3, bc_ BK205.out 4, bc_ BK205.out 5, ((HB.out.cell (World.block_lt_of_cell? w _ hw213_0)).trans hw213_0), ((HB.out.cell (World.block_lt_of_cell? w _ hw215_0)).trans hw215_0)⟩ (fun hHeld => ?_); refine with_tabW impl_areLeases.tab7 impl_areLeases.bits7 (fun HT_ HW_ => ?_)
  generalize wr.drew = w35 at BK205 HB hx213_0 hx215_0 hHeld ⊢
  refine pu_ 0 (some 53) (h := ?_)
  refine pu_ 1 (some 54) (h := ?_)
  refine pu_ 3 (some 56) (h := ?_)
  refine pu_ 7 (some 60) (h := ?_)
  refine pu_ 9 (some 62) (h := ?_)
  refine tk8_ 2 (some 55) (h := ?_)
  refine tk8_ 4 (some 57) (h := ?_)
  refine pu_ 5 (some 58) (h := ?_)
  refine pu_ 6 (some 59) (h := ?_)
  refine tk8_ 8 (some 61) (h := ?_)
  refine tk8_ 10 (some 63) (h := ?_)
  refine pu_ 11 (some 64) (h := ?_)
  refine on_ 12 (some 65) (h := fun K hK => ?_)
  refine goes_ Try.func50 (by kernel_rfl) rfl #[.int .i64 (rd l0_2 x48_2), .int .i64 ji26, .int .i64 (wrap64 (a0_1 + a0_0))] (by rfl) rfl rfl (by (try simp only [List.map_toArray, List.map_cons, List.map_nil]); first | done | (simp only [hji26]; rfl) | rfl | (simp only [List.length_drop, List.length_take]; rfl)) ?_
  with_reducible refine (impl_in.calls (rd l0_2 x48_2) ji26 (wrap64 (a0_1 + a0_0)) true _ A27.out).mono ?_
  rintro e w' ⟨rfl, ⟨nd, rfl⟩⟩
  refine ⟨_, rfl, ?_⟩
  refine hK.out _ _ ⟨bc_ BK205.out 0, bc_ BK205.out 1, bc_ BK205.out 2, bc_ BK205.out 3, bc_ BK205.out 4, bc_ BK205.out 5, ((HB.out.cell (World.block_lt_of_cell? w _ hw213_0)).trans hw213_0), ((HB.out.cell (World.block_lt_of_cell? w _ hw215_0)).trans hw215_0)⟩ (fun hHeld => ?_)
  clear hK K
  refine norm_ nn_ ?_
  refine pu_ 13 (some 66) (h := ?_)
  refine pu_ 14 (some 67) (h := ?_)
  refine pu_ 15 (some 68) (h := ?_)
  refine pu_ 17 (some 70) (h := ?_)
  refine pu_ 20 (some 73) (h := ?_)
  refine tk8_ 16 (some 69) (h := ?_)
  refine pu_ 18 (some 71) (h := ?_)
  refine tk8_ 19 (some 72) (h := ?_)
  refine tk8_ 21 (some 74) (h := ?_)
  refine on_ 22 (some 75) (h := fun K hK => ?_)
  refine goes_ Try.func50 (by kernel_rfl) rfl #[.int .i64 (rd l0_5 x48_2), .int .i64 0, .int .i64 a0_4] (by rfl) rfl rfl nc_ ?_
  with_reducible refine (impl_in.calls (rd l0_5 x48_2) 0 a0_4 true _ A30.out).mono ?_
  rintro e w' ⟨rfl, ⟨nd, rfl⟩⟩
  refine ⟨_, rfl, ?_⟩
  refine hK.out _ _ ⟨bc_ BK205.out 0, bc_ BK205.out 1, bc_ BK205.out 2, bc_ BK205.out 3, bc_ BK205.out 4, bc_ BK205.out 5, ((HB.out.cell (World.block_lt_of_cell? w _ hw213_0)).trans hw213_0), ((HB.out.cell (World.block_lt_of_cell? w _ hw215_0)).trans hw215_0)⟩ (fun hHeld => ?_)
  clear hK K
  refine norm_ nn_ ?_
  refine pu_ 23 (some 76) (h := ?_)
  refine pu_ 24 (some 77) (h := ?_)
  refine pu_ 25 (some 78) (h := ?_)
  refine pu_ 26 (some 79) (h := ?_)
  refine pu_ 27 (some 80) (h := ?_)
  refine tk8_ 28 (some 81) (h := ?_)
  refine pu_ 29 (some 82) (h := ?_)
  refine pu_ 30 (some 83) (h := ?_)
  refine pu_ 31 (some 84) (h := ?_)
  refine pu_ 33 (some 86) (h := ?_)
  refine pu_ 36 (some 89) (h := ?_)
  refine tk8_ 32 (some 85) (h := ?_)
  refine pu_ 34 (some 87) (h := ?_)
  refine tk8_ 35 (some 88) (h := ?_)
  refine tk8_ 37 (some 90) (h := ?_)
  refine pu_ 38 (some 91) (h := ?_)
  refine pu_ 39 (some 92) (h := ?_)
  refine pu_ 40 (some 93) (h := ?_)
  refine done_ (done_of HT_.out (by kernel_rfl)) ?_
  try go_wp2
  go_ret
  exact ⟨by first | rfl | (simp [errW_none, errW_some] <;> rfl) | (simp only [← hji26]; first | rfl | (simp [errW_none, errW_some] <;> rfl)) | (simp [*, errW_none, errW_some] <;> rfl), bl_⟩
 rw [if_neg c34] at H
 have c34b0 : decide (a0_1 < (rd l0_5 x48_2)) = false := decide_eq_false c34
 clear c34
 have H' := Aside0.mk H
 clear H
 have p211 : 0 ≤ (x48_2 : Int) := of_decide_eq_true (by first | (with_reducible assumption) | assumption)
 have q211 : x48_2 < (l0_2.length : Int) := of_decide_eq_true (by first | (with_reducible assumption) | assumption)
 obtain ⟨ad211, e211, hx211_0⟩ := Kd.at_int HR0_2.out x48_2 p211 q211
 cases e211
 replace hx211_0 := (HB.out.cell (World.block_lt_of_cell? w _ hx211_0)).trans hx211_0
 replace p211 := eq_true p211
 replace q211 := eq_true q211
 try go_wp2
 replace BK205 := Aside0.mk (blk_drew BK205.out)
 replace HB := Aside0.mk (below_drew1 HB.out)
 have p213 : 0 ≤ (x48_2 : Int) := of_decide_eq_true (by first | (with_reducible assumption) | assumption)
 have q213 : x48_2 < (l0_5.length : Int) := of_decide_eq_true (by first | (with_reducible assumption) | assumption)
 obtain ⟨ad213, e213, hx213_0⟩ := Kd.at_int HR0_5.out x48_2 p213 q213
 have hw213_0 := hx213_0
 cases e213
 replace hx213_0 := (HB.out.cell (World.block_lt_of_cell? w _ hx213_0)).trans hx213_0
 replace p213 := eq_true p213
 replace q213 := eq_true q213
 have p215 : 0 ≤ (x48_2 : Int) := of_decide_eq_true (by first | (with_reducible assumption) | assumption)
 have q215 : x48_2 < (l0_5.length : Int) := of_decide_eq_true (by first | (with_reducible assumption) | assumption)
 obtain ⟨ad215, e215, hx215_0⟩ := Kd.at_int HR0_5.out x48_2 p215 q215
 have hw215_0 := hx215_0
 obtain rfl : ad213 = ad215 := (by injection e215)
 replace hx215_0 := (HB.out.cell (World.block_lt_of_cell? w _ hx215_0)).trans hx215_0
 replace p215 := eq_true p215
 replace q215 := eq_true q215
 refine start_ (n := 41) (S := fun w' => w'.cell? ⟨gb205, 0, none⟩ = some (.int .i64 a0_0) ∧ w'.cell? ⟨gb205, 1, none⟩ = some (.int .i64 a0_1) ∧ w'.cell? ⟨gb205, 2, none⟩ = some (.slice (some ad211) l0_2.length c0_2) ∧ w'.cell? ⟨gb205, 3, none⟩ = some (.int .i64 a0_3) ∧ w'.cell? ⟨gb205, 4, none⟩ = some (.int .i64 a0_4) ∧ w'.cell? ⟨gb205, 5, none⟩ = some (.slice (some ad213) l0_5.length c0_5) ∧ w'.cell? (ad213.add (x48_2).toNat) = some (.int .i64 (rd l0_5 x48_2)) ∧ w'.cell? (ad213.add (x48_2).toNat) = some (.int .i64 (rd l0_5 x48_2))) (ds := []) #[false, false, false, false, false, false, false, false, false, false, false, false, false, false, false, false, false, false, false, false, false, false, false, false, false, false, false, false, false, false, false, false, false, false, false, false, false, false, false, false, false] (by kernel_rfl) rfl rfl ⟨bc_ BK205.out 0, bc_ BK205.out 1, bc_ BK205.out 2, bc_ BK205.out 3, bc_ BK205.out 4, bc_ BK205.out 5, ((HB.out.cell (World.block_lt_of_cell? w _ hw213_0)).trans hw213_0), ((HB.out.cell (World.block_lt_of_cell? w _ hw215_0)).trans hw215_0)⟩ (fun hHeld => ?_); refine with_tabW impl_areLeases.tab7 impl_areLeases.bits7 (fun HT_ HW_ => ?_)
 generalize wr.drew = w36 at BK205 HB hx213_0 hx215_0 hHeld ⊢
 refine pu_ 0 (some 53) (h := ?_)
 refine pu_ 1 (some 54) (h := ?_)
 refine pu_ 3 (some 56) (h := ?_)
 refine pu_ 7 (some 60) (h := ?_)
 refine pu_ 9 (some 62) (h := ?_)
 refine tk8_ 2 (some 55) (h := ?_)
 refine tk8_ 4 (some 57) (h := ?_)
 refine pu_ 5 (some 58) (h := ?_)
 refine pu_ 6 (some 59) (h := ?_)
 refine tk8_ 8 (some 61) (h := ?_)
 refine tk8_ 10 (some 63) (h := ?_)
 refine pu_ 11 (some 64) (h := ?_)
 refine on_ 12 (some 65) (h := fun K hK => ?_)
 refine goes_ Try.func50 (by kernel_rfl) rfl #[.int .i64 (rd l0_2 x48_2), .int .i64 ji26, .int .i64 (wrap64 (a0_1 + a0_0))] (by rfl) rfl rfl (by (try simp only [List.map_toArray, List.map_cons, List.map_nil]); first | done | (simp only [hji26]; rfl) | rfl | (simp only [List.length_drop, List.length_take]; rfl)) ?_
 with_reducible refine (impl_in.calls (rd l0_2 x48_2) ji26 (wrap64 (a0_1 + a0_0)) true _ A27.out).mono ?_
 rintro e w' ⟨rfl, ⟨nd, rfl⟩⟩
 refine ⟨_, rfl, ?_⟩
 refine hK.out _ _ ⟨bc_ BK205.out 0, bc_ BK205.out 1, bc_ BK205.out 2, bc_ BK205.out 3, bc_ BK205.out 4, bc_ BK205.out 5, ((HB.out.cell (World.block_lt_of_cell? w _ hw213_0)).trans hw213_0), ((HB.out.cell (World.block_lt_of_cell? w _ hw215_0)).trans hw215_0)⟩ (fun hHeld => ?_)
 clear hK K
 refine norm_ nn_ ?_
 refine pu_ 13 (some 66) (h := ?_)
 refine pu_ 14 (some 67) (h := ?_)
 refine pu_ 15 (some 68) (h := ?_)
 refine pu_ 17 (some 70) (h := ?_)
 refine pu_ 20 (some 73) (h := ?_)
 refine tk8_ 16 (some 69) (h := ?_)
 refine pu_ 18 (some 71) (h := ?_)
 refine tk8_ 19 (some 72) (h := ?_)
 refine tk8_ 21 (some 74) (h := ?_)
 refine on_ 22 (some 75) (h := fun K hK => ?_)
 refine goes_ Try.func50 (by kernel_rfl) rfl #[.int .i64 (rd l0_5 x48_2), .int .i64 0, .int .i64 a0_4] (by rfl) rfl rfl nc_ ?_
 with_reducible refine (impl_in.calls (rd l0_5 x48_2) 0 a0_4 true _ A30.out).mono ?_
 rintro e w' ⟨rfl, ⟨nd, rfl⟩⟩
 refine ⟨_, rfl, ?_⟩
 refine hK.out _ _ ⟨bc_ BK205.out 0, bc_ BK205.out 1, bc_ BK205.out 2, bc_ BK205.out 3, bc_ BK205.out 4, bc_ BK205.out 5, ((HB.out.cell (World.block_lt_of_cell? w _ hw213_0)).trans hw213_0), ((HB.out.cell (World.block_lt_of_cell? w _ hw215_0)).trans hw215_0)⟩ (fun hHeld => ?_)
 clear hK K
 refine norm_ nn_ ?_
 refine pu_ 23 (some 76) (h := ?_)
 refine pu_ 24 (some 77) (h := ?_)
 refine pu_ 25 (some 78) (h := ?_)
 refine pu_ 26 (some 79) (h := ?_)
 refine pu_ 27 (some 80) (h := ?_)
 refine tk8_ 28 (some 81) (h := ?_)
 refine pu_ 29 (some 82) (h := ?_)
 refine pu_ 30 (some 83) (h := ?_)
 refine pu_ 31 (some 84) (h := ?_)
 refine pu_ 33 (some 86) (h := ?_)
 refine pu_ 36 (some 89) (h := ?_)
 refine tk8_ 32 (some 85) (h := ?_)
 refine pu_ 34 (some 87) (h := ?_)
 refine tk8_ 35 (some 88) (h := ?_)
 refine tk8_ 37 (some 90) (h := ?_)
 refine pu_ 38 (some 91) (h := ?_)
 refine pu_ 39 (some 92) (h := ?_)
 refine pu_ 40 (some 93) (h := ?_)
 refine done_ (done_of HT_.out (by kernel_rfl)) ?_
 try go_wp2
 go_roundg k2
 case measure => have := HJ1.out; have := HK2.out; omega
 case rel => exact ⟨(wrap64 (x48_2 + 1)), (by first | rfl | (simp; done) | (simp [*]; done)), H', ⟨by have := HJ1.out; have := HK2.out; omega⟩, ⟨by exact kb_ BK205.out⟩, ⟨bl_⟩⟩

end Go.Proofs.Ytbnadnfggpnbgaa.PSL
