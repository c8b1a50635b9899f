/- What this text proves: the machine calls of these functions return what the plain functions say. Conditions: as each theorem says. Printed by a program of this session out of the translation. -/
import Derived.Test.YtcloilddgimamaaPMCx0
import Derived.Test.YtcloilddgimamaaPMCx1
import Derived.Test.YtcloilddgimamaaPMCx2
import Derived.Test.YtcloilddgimamaaPMCx3
namespace Go.Proofs.Ytcloilddgimamaa.PMC
open Go.RowKit Go.Proofs.YtcloilddgimamaaW.PrintWords Go.Proofs.YtcloilddgimamaaW.PrintLast Go.Proofs.YtcloilddgimamaaW.PrintMore
attribute [local go_sem] max2_int min2_int max_two min_two max_three min_three max_four min_four   -- for this text's walks alone
set_option linter.unusedVariables false
set_option linter.unusedSimpArgs false

/-! ### laws_FnExactMergeCounter: function 7 -/
mutual
def laws_FnExactMergeCounter.j0 : Nat → Bool → Bool → Bool → List Int → List Int → List Int → List Int → List Int → List Int → List Int → List Int → List Int → List Int → List Int → List Int → Option (Bool)
 | 0, _, _, _, _, _, _, _, _, _, _, _, _, _, _, _ => none
 | k + 1, x7, x11, x53, x183000, x183001, x184000, x184001, x206000, x206001, x213000, x213001, x220000, x220001, x228000, x228001 => if x53 = true then (none) else ((laws_toCounter.f k x183000 x183001).bind fun bt229 => ((laws_eqCounter.f k x213000 x213001 bt229.1 bt229.2).bind fun t235 => (if t235 = true then ((laws_toCounter.f k x184000 x184001).bind fun bt236 => ((laws_eqCounter.f k x220000 x220001 bt236.1 bt236.2).bind fun t242 => (if t242 = true then ((laws_markCounter.f k x213000 x213001 1).bind fun bt243 => ((laws_markCounter.f k x220000 x220001 bt243.1).bind fun bt246 => (if bt246.1 < 0 then (none) else ((laws_eqCounter.f k x228000 x228001 x206000 x206001).bind fun t249 => (if t249 = true then (laws_FnExactMergeCounter.j1 k x7 (x11 != x7) x183000 x183001 x184000 x184001 x206000 x206001 x228000 x228001) else (none)))))) else (none)))) else (none))))
def laws_FnExactMergeCounter.j1 : Nat → Bool → Bool → List Int → List Int → List Int → List Int → List Int → List Int → List Int → List Int → Option (Bool)
 | 0, _, _, _, _, _, _, _, _, _, _ => none
 | k + 1, x7, x82, x183000, x183001, x184000, x184001, x206000, x206001, x228000, x228001 => if x82 = true then (none) else ((laws_markCounter.f k x228000 x228001 1).bind fun bt250 => ((laws_heldCounter.f k bt250.2.1 bt250.2.2 1).bind fun t253 => (if t253 < 0 then (none) else (if t253 = bt250.1 then ((laws_toCounter.f k x183000 x183001).bind fun bt254 => ((laws_toCounter.f k x184000 x184001).bind fun bt260 => ((impl_MergeCounter.f k bt254.1 bt254.2 bt260.1 bt260.2).bind fun bt266 => ((laws_eqCounter.f k bt266.1 bt266.2.1 x206000 x206001).bind fun t274 => (if t274 = true then (laws_FnExactMergeCounter.j2 k bt250.1 (bt266.2.2 != x7) bt250.2.1 bt250.2.2) else (none)))))) else (none)))))
def laws_FnExactMergeCounter.j2 : Nat → Int → Bool → List Int → List Int → Option (Bool)
 | 0, _, _, _, _ => none
 | k + 1, x13, x110, x228000, x228001 => if x110 = true then (none) else ((laws_heldCounter.f k x228000 x228001 1).bind fun t275 => (if t275 < 0 then (none) else (if t275 = x13 then (some true) else (none))))
end
def laws_FnExactMergeCounter.f (k : Nat) (l0_0 : List Int) (l0_1 : List Int) (l1_0 : List Int) (l1_1 : List Int) : Option (Bool) := (laws_szCounter.f l0_0 l0_1 1048576).bind fun t184 => (if t184 < 0 then (some true) else ((laws_szCounter.f l1_0 l1_1 t184).bind fun t185 => (if t185 < 0 then (some true) else ((laws_toCounter.f k l0_0 l0_1).bind fun bt186 => ((laws_toCounter.f k l1_0 l1_1).bind fun bt192 => ((spec_MergeCounter.f k bt186.1 bt186.2 bt192.1 bt192.2).bind fun bt198 => ((laws_toCounter.f k l0_0 l0_1).bind fun bt206 => ((laws_toCounter.f k l1_0 l1_1).bind fun bt213 => ((impl_MergeCounter.f k bt206.1 bt206.2 bt213.1 bt213.2).bind fun bt220 => ((laws_eqCounter.f k bt220.1 bt220.2.1 bt198.1 bt198.2.1).bind fun t228 => (if t228 = true then (laws_FnExactMergeCounter.j0 k bt198.2.2 bt220.2.2 (bt220.2.2 != bt198.2.2) l0_0 l0_1 l1_0 l1_1 bt198.1 bt198.2.1 bt206.1 bt206.2 bt213.1 bt213.2 bt220.1 bt220.2.1) else (none))))))))))))
theorem laws_FnExactMergeCounter.mono_l : ∀ k, (∀ y0 y1 y2 y3 y4 y5 y6 y7 y8 y9 y10 y11 y12 y13 y14, LeO (laws_FnExactMergeCounter.j0 k y0 y1 y2 y3 y4 y5 y6 y7 y8 y9 y10 y11 y12 y13 y14) (laws_FnExactMergeCounter.j0 (k + 1) y0 y1 y2 y3 y4 y5 y6 y7 y8 y9 y10 y11 y12 y13 y14)) ∧ (∀ y0 y1 y2 y3 y4 y5 y6 y7 y8 y9, LeO (laws_FnExactMergeCounter.j1 k y0 y1 y2 y3 y4 y5 y6 y7 y8 y9) (laws_FnExactMergeCounter.j1 (k + 1) y0 y1 y2 y3 y4 y5 y6 y7 y8 y9)) ∧ (∀ y0 y1 y2 y3, LeO (laws_FnExactMergeCounter.j2 k y0 y1 y2 y3) (laws_FnExactMergeCounter.j2 (k + 1) y0 y1 y2 y3))
 | 0 => ⟨fun _ _ _ _ _ _ _ _ _ _ _ _ _ _ _ r h => by simp [laws_FnExactMergeCounter.j0] at h, fun _ _ _ _ _ _ _ _ _ _ r h => by simp [laws_FnExactMergeCounter.j1] at h, fun _ _ _ _ r h => by simp [laws_FnExactMergeCounter.j2] at h⟩
 | k + 1 => by
  obtain ⟨ih0, ih1, ih2⟩ := laws_FnExactMergeCounter.mono_l k
  refine ⟨?_, ?_, ?_⟩
  ·intro y0 y1 y2 y3 y4 y5 y6 y7 y8 y9 y10 y11 y12 y13 y14
   unfold laws_FnExactMergeCounter.j0
   repeat' first
   | (with_reducible exact ih0 _ _ _ _ _ _ _ _ _ _ _ _ _ _ _)
   | (with_reducible exact ih1 _ _ _ _ _ _ _ _ _ _)
   | (with_reducible exact ih2 _ _ _ _)
   | (with_reducible exact impl_MergeCounter.mono _ _ _ _ _)
   | (with_reducible exact laws_eqCounter.mono _ _ _ _ _)
   | (with_reducible exact laws_heldCounter.mono _ _ _ _)
   | (with_reducible exact laws_markCounter.mono _ _ _ _)
   | (with_reducible exact laws_toCounter.mono _ _ _)
   | (with_reducible exact spec_MergeCounter.mono _ _ _ _ _)
   | (with_reducible exact LeO.refl _)
   | (with_reducible exact LeO.none _)
   | (with_reducible refine LeO.ite ?_ ?_)
   | (with_reducible refine LeO.bind ?_ (fun _ => ?_))
   | exact ih0 _ _ _ _ _ _ _ _ _ _ _ _ _ _ _
   | exact ih1 _ _ _ _ _ _ _ _ _ _
   | exact ih2 _ _ _ _
   | exact impl_MergeCounter.mono _ _ _ _ _
   | exact laws_eqCounter.mono _ _ _ _ _
   | exact laws_heldCounter.mono _ _ _ _
   | exact laws_markCounter.mono _ _ _ _
   | exact laws_toCounter.mono _ _ _
   | exact spec_MergeCounter.mono _ _ _ _ _
   | exact LeO.none _
   | refine LeO.ite ?_ ?_
   | refine LeO.bind ?_ (fun _ => ?_)
  ·intro y0 y1 y2 y3 y4 y5 y6 y7 y8 y9
   unfold laws_FnExactMergeCounter.j1
   repeat' first
   | (with_reducible exact ih0 _ _ _ _ _ _ _ _ _ _ _ _ _ _ _)
   | (with_reducible exact ih1 _ _ _ _ _ _ _ _ _ _)
   | (with_reducible exact ih2 _ _ _ _)
   | (with_reducible exact impl_MergeCounter.mono _ _ _ _ _)
   | (with_reducible exact laws_eqCounter.mono _ _ _ _ _)
   | (with_reducible exact laws_heldCounter.mono _ _ _ _)
   | (with_reducible exact laws_markCounter.mono _ _ _ _)
   | (with_reducible exact laws_toCounter.mono _ _ _)
   | (with_reducible exact spec_MergeCounter.mono _ _ _ _ _)
   | (with_reducible exact LeO.refl _)
   | (with_reducible exact LeO.none _)
   | (with_reducible refine LeO.ite ?_ ?_)
   | (with_reducible refine LeO.bind ?_ (fun _ => ?_))
   | exact ih0 _ _ _ _ _ _ _ _ _ _ _ _ _ _ _
   | exact ih1 _ _ _ _ _ _ _ _ _ _
   | exact ih2 _ _ _ _
   | exact impl_MergeCounter.mono _ _ _ _ _
   | exact laws_eqCounter.mono _ _ _ _ _
   | exact laws_heldCounter.mono _ _ _ _
   | exact laws_markCounter.mono _ _ _ _
   | exact laws_toCounter.mono _ _ _
   | exact spec_MergeCounter.mono _ _ _ _ _
   | exact LeO.none _
   | refine LeO.ite ?_ ?_
   | refine LeO.bind ?_ (fun _ => ?_)
  ·intro y0 y1 y2 y3
   unfold laws_FnExactMergeCounter.j2
   repeat' first
   | (with_reducible exact ih0 _ _ _ _ _ _ _ _ _ _ _ _ _ _ _)
   | (with_reducible exact ih1 _ _ _ _ _ _ _ _ _ _)
   | (with_reducible exact ih2 _ _ _ _)
   | (with_reducible exact impl_MergeCounter.mono _ _ _ _ _)
   | (with_reducible exact laws_eqCounter.mono _ _ _ _ _)
   | (with_reducible exact laws_heldCounter.mono _ _ _ _)
   | (with_reducible exact laws_markCounter.mono _ _ _ _)
   | (with_reducible exact laws_toCounter.mono _ _ _)
   | (with_reducible exact spec_MergeCounter.mono _ _ _ _ _)
   | (with_reducible exact LeO.refl _)
   | (with_reducible exact LeO.none _)
   | (with_reducible refine LeO.ite ?_ ?_)
   | (with_reducible refine LeO.bind ?_ (fun _ => ?_))
   | exact ih0 _ _ _ _ _ _ _ _ _ _ _ _ _ _ _
   | exact ih1 _ _ _ _ _ _ _ _ _ _
   | exact ih2 _ _ _ _
   | exact impl_MergeCounter.mono _ _ _ _ _
   | exact laws_eqCounter.mono _ _ _ _ _
   | exact laws_heldCounter.mono _ _ _ _
   | exact laws_markCounter.mono _ _ _ _
   | exact laws_toCounter.mono _ _ _
   | exact spec_MergeCounter.mono _ _ _ _ _
   | exact LeO.none _
   | refine LeO.ite ?_ ?_
   | refine LeO.bind ?_ (fun _ => ?_)
theorem laws_FnExactMergeCounter.mono : ∀ a0 a1 a2 a3 k, LeO (laws_FnExactMergeCounter.f k a0 a1 a2 a3) (laws_FnExactMergeCounter.f (k + 1) a0 a1 a2 a3) := by
 intro a0 a1 a2 a3 k
 obtain ⟨ih0, ih1, ih2⟩ := laws_FnExactMergeCounter.mono_l k
 unfold laws_FnExactMergeCounter.f
 repeat' first
   | (with_reducible exact ih0 _ _ _ _ _ _ _ _ _ _ _ _ _ _ _)
   | (with_reducible exact ih1 _ _ _ _ _ _ _ _ _ _)
   | (with_reducible exact ih2 _ _ _ _)
   | (with_reducible exact impl_MergeCounter.mono _ _ _ _ _)
   | (with_reducible exact laws_eqCounter.mono _ _ _ _ _)
   | (with_reducible exact laws_heldCounter.mono _ _ _ _)
   | (with_reducible exact laws_markCounter.mono _ _ _ _)
   | (with_reducible exact laws_toCounter.mono _ _ _)
   | (with_reducible exact spec_MergeCounter.mono _ _ _ _ _)
   | (with_reducible exact LeO.refl _)
   | (with_reducible exact LeO.none _)
   | (with_reducible refine LeO.ite ?_ ?_)
   | (with_reducible refine LeO.bind ?_ (fun _ => ?_))
   | exact ih0 _ _ _ _ _ _ _ _ _ _ _ _ _ _ _
   | exact ih1 _ _ _ _ _ _ _ _ _ _
   | exact ih2 _ _ _ _
   | exact impl_MergeCounter.mono _ _ _ _ _
   | exact laws_eqCounter.mono _ _ _ _ _
   | exact laws_heldCounter.mono _ _ _ _
   | exact laws_markCounter.mono _ _ _ _
   | exact laws_toCounter.mono _ _ _
   | exact spec_MergeCounter.mono _ _ _ _ _
   | exact LeO.none _
   | refine LeO.ite ?_ ?_
   | refine LeO.bind ?_ (fun _ => ?_)
def laws_FnExactMergeCounter.T8 : Bool × List (List Nat × List Nat) := (true, [([], []), ([0], [0]), ([], []), ([2, 1], [2]), ([1, 3, 3], [1, 3]), ([4], [4]), ([5], [5]), ([5], [5]), ([], []), ([8, 6, 4, 0, 1, 2, 3, 4, 5, 6, 8], [6, 8]), ([7, 9, 0, 1, 2, 3, 4, 5, 6, 7, 8, 9], [7])])
def laws_FnExactMergeCounter.B8 : List Nat := [0, 1, 0, 7, 15, 31, 63, 63, 0, 383, 1023]
theorem laws_FnExactMergeCounter.tab8 : rtab .any (opsOf Try.f7 8) = laws_FnExactMergeCounter.T8 := by kernel_rfl
theorem laws_FnExactMergeCounter.bits8 : waitsOk laws_FnExactMergeCounter.T8.2 laws_FnExactMergeCounter.B8 = true := by kernel_rfl
def laws_FnExactMergeCounter.T31 : Bool × List (List Nat × List Nat) := (true, [([], []), ([0], [0]), ([], []), ([2, 1], [2]), ([1, 3, 3], [1, 3]), ([4], [4]), ([5], [5]), ([5], [5]), ([], []), ([8, 6, 4, 0, 1, 2, 3, 4, 5, 6, 8], [6, 8]), ([7, 9, 0, 1, 2, 3, 4, 5, 6, 7, 8, 9], [7])])
def laws_FnExactMergeCounter.B31 : List Nat := [0, 1, 0, 7, 15, 31, 63, 63, 0, 383, 1023]
theorem laws_FnExactMergeCounter.tab31 : rtab .any (opsOf Try.f7 31) = laws_FnExactMergeCounter.T31 := by kernel_rfl
theorem laws_FnExactMergeCounter.bits31 : waitsOk laws_FnExactMergeCounter.T31.2 laws_FnExactMergeCounter.B31 = true := by kernel_rfl
set_option maxHeartbeats 8000000 in
set_option maxRecDepth 100000 in
theorem laws_FnExactMergeCounter.calls (k : Nat) (A0_0 : Option Addr) (c0_0 : Nat) (l0_0 : List Int) (A0_1 : Option Addr) (c0_1 : Nat) (l0_1 : List Int) (A1_0 : Option Addr) (c1_0 : Nat) (l1_0 : List Int) (A1_1 : Option Addr) (c1_1 : Nat) (l1_1 : List Int) (r : Bool) (w : World) (hr0_0 : Kd.C (Kd.int .i64) w A0_0 l0_0.length l0_0) (hc0_0 : l0_0.length ≤ c0_0) (hr0_1 : Kd.C (Kd.int .i64) w A0_1 l0_1.length l0_1) (hc0_1 : l0_1.length ≤ c0_1) (hr1_0 : Kd.C (Kd.int .i64) w A1_0 l1_0.length l1_0) (hc1_0 : l1_0.length ≤ c1_0) (hr1_1 : Kd.C (Kd.int .i64) w A1_1 l1_1.length l1_1) (hc1_1 : l1_1.length ≤ c1_1) (h : laws_FnExactMergeCounter.f k l0_0 l0_1 l1_0 l1_1 = some r) :
  Calls Try.prog 7 #[.agg #[.slice A0_0 l0_0.length c0_0, .slice A0_1 l0_1.length c0_1], .agg #[.slice A1_0 l1_0.length c1_0, .slice A1_1 l1_1.length c1_1]] w fun e w' => e = .returned (.bool r) ∧ Below w.heap.size w w' := by
 have hu24 := Try.underlying24
 have hu27 := Try.underlying27
 have HR0_0 := Aside0.mk hr0_0
 have HC0_0 := Aside0.mk hc0_0
 clear hr0_0 hc0_0
 have HR0_1 := Aside0.mk hr0_1
 have HC0_1 := Aside0.mk hc0_1
 clear hr0_1 hc0_1
 have HR1_0 := Aside0.mk hr1_0
 have HC1_0 := Aside0.mk hc1_0
 clear hr1_0 hc1_0
 have HR1_1 := Aside0.mk hr1_1
 have HC1_1 := Aside0.mk hc1_1
 clear hr1_1 hc1_1
 have HB := Aside0.mk (Below.refl w.heap.size w)
 have H : ((laws_szCounter.f l0_0 l0_1 1048576).bind fun t184 => (if t184 < 0 then (some true) else ((laws_szCounter.f l1_0 l1_1 t184).bind fun t185 => (if t185 < 0 then (some true) else ((laws_toCounter.f k l0_0 l0_1).bind fun bt186 => ((laws_toCounter.f k l1_0 l1_1).bind fun bt192 => ((spec_MergeCounter.f k bt186.1 bt186.2 bt192.1 bt192.2).bind fun bt198 => ((laws_toCounter.f k l0_0 l0_1).bind fun bt206 => ((laws_toCounter.f k l1_0 l1_1).bind fun bt213 => ((impl_MergeCounter.f k bt206.1 bt206.2 bt213.1 bt213.2).bind fun bt220 => ((laws_eqCounter.f k bt220.1 bt220.2.1 bt198.1 bt198.2.1).bind fun t228 => (if t228 = true then (laws_FnExactMergeCounter.j0 k bt198.2.2 bt220.2.2 (bt220.2.2 != bt198.2.2) l0_0 l0_1 l1_0 l1_1 bt198.1 bt198.2.1 bt206.1 bt206.2 bt213.1 bt213.2 bt220.1 bt220.2.1) else (none))))))))))))) = some r := h
 clear h
 replace H := Option.bind_eq_some_iff.mp H
 obtain ⟨t184, A30, H⟩ := H
 replace H : (if t184 < 0 then (some true) else ((laws_szCounter.f l1_0 l1_1 t184).bind fun t185 => (if t185 < 0 then (some true) else ((laws_toCounter.f k l0_0 l0_1).bind fun bt186 => ((laws_toCounter.f k l1_0 l1_1).bind fun bt192 => ((spec_MergeCounter.f k bt186.1 bt186.2 bt192.1 bt192.2).bind fun bt198 => ((laws_toCounter.f k l0_0 l0_1).bind fun bt206 => ((laws_toCounter.f k l1_0 l1_1).bind fun bt213 => ((impl_MergeCounter.f k bt206.1 bt206.2 bt213.1 bt213.2).bind fun bt220 => ((laws_eqCounter.f k bt220.1 bt220.2.1 bt198.1 bt198.2.1).bind fun t228 => (if t228 = true then (laws_FnExactMergeCounter.j0 k bt198.2.2 bt220.2.2 (bt220.2.2 != bt198.2.2) l0_0 l0_1 l1_0 l1_1 bt198.1 bt198.2.1 bt206.1 bt206.2 bt213.1 bt213.2 bt220.1 bt220.2.1) else (none)))))))))))) = some r := H
 have A3 := Aside0.mk A30
 clear A30
 by_cases c4 : t184 < 0
 ·rw [if_pos c4] at H
  have c4b0 : decide (t184 < 0) = true := decide_eq_true c4
  clear c4
  obtain rfl := Option.some.inj H
  go_enter Try.func7, Try.ntmps7
  go_wp2_with (first | ((with_reducible refine gate_dst (N := 2) rfl ?_); refine box_event rfl (N := 2) rfl (cs := #[.slice A0_0 l0_0.length c0_0, .slice A0_1 l0_1.length c0_1]) (t := 24) gs_ ?_; intro gb182 hg w5 hbox hb; have BK182 := Aside0.mk (hbox); have GW182 := Aside0.mk ((by rw [hg]; exact bz_ : w.heap.size ≤ gb182)); have GE182 := GW182; replace HB := Aside0.mk (below_step bl_ hb); clear hb hbox hg) | ((with_reducible refine gate_dst (N := 3) rfl ?_); refine box_event rfl (N := 3) rfl (cs := #[.slice A1_0 l1_0.length c1_0, .slice A1_1 l1_1.length c1_1]) (t := 24) gs_ ?_; intro gb183 hg w6 hbox hb; have BK183 := Aside0.mk (hbox); have GW183 := Aside0.mk ((by rw [hg]; exact bz_ : w.heap.size ≤ gb183)); have GE183 := GW183; replace HB := Aside0.mk (below_step bl_ hb); have NB182_183 := nl_ hg BK182; have NB183_182 := nm_ hg BK182; replace BK182 := bb_ BK182 hb; clear hb hbox hg; have hnb7 := NB182_183.out; have hnc7 := NB183_182.out; have hcz8_0 : w6.cell? ⟨gb182, 0, none⟩ = some (.slice A0_0 l0_0.length c0_0) := bc_ BK182.out 0; have hcz8_1 : w6.cell? ⟨gb182, 1, none⟩ = some (.slice A0_1 l0_1.length c0_1) := bc_ BK182.out 1; have hfz8_0 := blk_frozen BK182.out 0; have hfz8_1 := blk_frozen BK182.out 1) | ((with_reducible refine gate_callee (f := 10) rfl ?_); refine goesL_ (some 19) rfl rfl Try.func10 (by kernel_rfl) rfl #[.agg #[.slice A0_0 l0_0.length c0_0, .slice A0_1 l0_1.length c0_1], .int .i64 1048576] rfl nc_ ?_; (with_reducible refine (laws_szCounter.calls _ _ l0_0 _ _ l0_1 1048576 t184 _ ?side1 ?side2 ?side3 ?side4 A3.out).mono ?_); (case side1 => exact kc_ (Kd.C_below HR0_0.out HB.out)); (case side2 => exact HC0_0.out); (case side3 => exact kc_ (Kd.C_below HR0_1.out HB.out)); (case side4 => exact HC0_1.out); rintro e w9 ⟨rfl, hb⟩; refine ⟨_, rfl, ?_⟩; replace BK182 := bb_ BK182 hb; replace BK183 := bb_ BK183 hb; replace HB := Aside0.mk (below_step bl_ hb); clear hb))
  go_ret
  exact ⟨ng_, bl_⟩
 rw [if_neg c4] at H
 have c4b0 : decide (t184 < 0) = false := decide_eq_false c4
 clear c4
 replace H := Option.bind_eq_some_iff.mp H
 obtain ⟨t185, A100, H⟩ := H
 replace H : (if t185 < 0 then (some true) else ((laws_toCounter.f k l0_0 l0_1).bind fun bt186 => ((laws_toCounter.f k l1_0 l1_1).bind fun bt192 => ((spec_MergeCounter.f k bt186.1 bt186.2 bt192.1 bt192.2).bind fun bt198 => ((laws_toCounter.f k l0_0 l0_1).bind fun bt206 => ((laws_toCounter.f k l1_0 l1_1).bind fun bt213 => ((impl_MergeCounter.f k bt206.1 bt206.2 bt213.1 bt213.2).bind fun bt220 => ((laws_eqCounter.f k bt220.1 bt220.2.1 bt198.1 bt198.2.1).bind fun t228 => (if t228 = true then (laws_FnExactMergeCounter.j0 k bt198.2.2 bt220.2.2 (bt220.2.2 != bt198.2.2) l0_0 l0_1 l1_0 l1_1 bt198.1 bt198.2.1 bt206.1 bt206.2 bt213.1 bt213.2 bt220.1 bt220.2.1) else (none)))))))))) = some r := H
 have A10 := Aside0.mk A100
 clear A100
 by_cases c11 : t185 < 0
 ·rw [if_pos c11] at H
  have c11b0 : decide (t185 < 0) = true := decide_eq_true c11
  clear c11
  obtain rfl := Option.some.inj H
  go_enter Try.func7, Try.ntmps7
  go_wp2_with (first | ((with_reducible refine gate_dst (N := 2) rfl ?_); refine box_event rfl (N := 2) rfl (cs := #[.slice A0_0 l0_0.length c0_0, .slice A0_1 l0_1.length c0_1]) (t := 24) gs_ ?_; intro gb182 hg w12 hbox hb; have BK182 := Aside0.mk (hbox); have GW182 := Aside0.mk ((by rw [hg]; exact bz_ : w.heap.size ≤ gb182)); have GE182 := GW182; replace HB := Aside0.mk (below_step bl_ hb); clear hb hbox hg) | ((with_reducible refine gate_dst (N := 3) rfl ?_); refine box_event rfl (N := 3) rfl (cs := #[.slice A1_0 l1_0.length c1_0, .slice A1_1 l1_1.length c1_1]) (t := 24) gs_ ?_; intro gb183 hg w13 hbox hb; have BK183 := Aside0.mk (hbox); have GW183 := Aside0.mk ((by rw [hg]; exact bz_ : w.heap.size ≤ gb183)); have GE183 := GW183; replace HB := Aside0.mk (below_step bl_ hb); have NB182_183 := nl_ hg BK182; have NB183_182 := nm_ hg BK182; replace BK182 := bb_ BK182 hb; clear hb hbox hg; have hnb14 := NB182_183.out; have hnc14 := NB183_182.out; have hcz15_0 : w13.cell? ⟨gb182, 0, none⟩ = some (.slice A0_0 l0_0.length c0_0) := bc_ BK182.out 0; have hcz15_1 : w13.cell? ⟨gb182, 1, none⟩ = some (.slice A0_1 l0_1.length c0_1) := bc_ BK182.out 1; have hfz15_0 := blk_frozen BK182.out 0; have hfz15_1 := blk_frozen BK182.out 1) | ((with_reducible refine gate_callee (f := 10) rfl ?_); refine goesL_ (some 19) rfl rfl Try.func10 (by kernel_rfl) rfl #[.agg #[.slice A0_0 l0_0.length c0_0, .slice A0_1 l0_1.length c0_1], .int .i64 1048576] rfl nc_ ?_; (with_reducible refine (laws_szCounter.calls _ _ l0_0 _ _ l0_1 1048576 t184 _ ?side1 ?side2 ?side3 ?side4 A3.out).mono ?_); (case side1 => exact kc_ (Kd.C_below HR0_0.out HB.out)); (case side2 => exact HC0_0.out); (case side3 => exact kc_ (Kd.C_below HR0_1.out HB.out)); (case side4 => exact HC0_1.out); rintro e w16 ⟨rfl, hb⟩; refine ⟨_, rfl, ?_⟩; replace BK182 := bb_ BK182 hb; replace BK183 := bb_ BK183 hb; replace HB := Aside0.mk (below_step bl_ hb); clear hb; have hcz17_0 : w16.cell? ⟨gb183, 0, none⟩ = some (.slice A1_0 l1_0.length c1_0) := bc_ BK183.out 0; have hcz17_1 : w16.cell? ⟨gb183, 1, none⟩ = some (.slice A1_1 l1_1.length c1_1) := bc_ BK183.out 1; have hfz17_0 := blk_frozen BK183.out 0; have hfz17_1 := blk_frozen BK183.out 1) | ((with_reducible refine gate_callee (f := 10) rfl ?_); refine goesL_ (some 24) rfl rfl Try.func10 (by kernel_rfl) rfl #[.agg #[.slice A1_0 l1_0.length c1_0, .slice A1_1 l1_1.length c1_1], .int .i64 t184] rfl nc_ ?_; (with_reducible refine (laws_szCounter.calls _ _ l1_0 _ _ l1_1 t184 t185 _ ?side1 ?side2 ?side3 ?side4 A10.out).mono ?_); (case side1 => exact kc_ (Kd.C_below HR1_0.out HB.out)); (case side2 => exact HC1_0.out); (case side3 => exact kc_ (Kd.C_below HR1_1.out HB.out)); (case side4 => exact HC1_1.out); rintro e w18 ⟨rfl, hb⟩; refine ⟨_, rfl, ?_⟩; replace BK182 := bb_ BK182 hb; replace BK183 := bb_ BK183 hb; replace HB := Aside0.mk (below_step bl_ hb); clear hb))
  go_ret
  exact ⟨ng_, bl_⟩
 rw [if_neg c11] at H
 have c11b0 : decide (t185 < 0) = false := decide_eq_false c11
 clear c11
 replace H := Option.bind_eq_some_iff.mp H
 obtain ⟨⟨t186, t189⟩, A190, H⟩ := H
 replace H : ((laws_toCounter.f k l1_0 l1_1).bind fun bt192 => ((spec_MergeCounter.f k t186 t189 bt192.1 bt192.2).bind fun bt198 => ((laws_toCounter.f k l0_0 l0_1).bind fun bt206 => ((laws_toCounter.f k l1_0 l1_1).bind fun bt213 => ((impl_MergeCounter.f k bt206.1 bt206.2 bt213.1 bt213.2).bind fun bt220 => ((laws_eqCounter.f k bt220.1 bt220.2.1 bt198.1 bt198.2.1).bind fun t228 => (if t228 = true then (laws_FnExactMergeCounter.j0 k bt198.2.2 bt220.2.2 (bt220.2.2 != bt198.2.2) l0_0 l0_1 l1_0 l1_1 bt198.1 bt198.2.1 bt206.1 bt206.2 bt213.1 bt213.2 bt220.1 bt220.2.1) else (none)))))))) = some r := H
 have A19 := Aside0.mk A190
 clear A190
 replace H := Option.bind_eq_some_iff.mp H
 obtain ⟨⟨t192, t195⟩, A200, H⟩ := H
 replace H : ((spec_MergeCounter.f k t186 t189 t192 t195).bind fun bt198 => ((laws_toCounter.f k l0_0 l0_1).bind fun bt206 => ((laws_toCounter.f k l1_0 l1_1).bind fun bt213 => ((impl_MergeCounter.f k bt206.1 bt206.2 bt213.1 bt213.2).bind fun bt220 => ((laws_eqCounter.f k bt220.1 bt220.2.1 bt198.1 bt198.2.1).bind fun t228 => (if t228 = true then (laws_FnExactMergeCounter.j0 k bt198.2.2 bt220.2.2 (bt220.2.2 != bt198.2.2) l0_0 l0_1 l1_0 l1_1 bt198.1 bt198.2.1 bt206.1 bt206.2 bt213.1 bt213.2 bt220.1 bt220.2.1) else (none))))))) = some r := H
 have A20 := Aside0.mk A200
 clear A200
 replace H := Option.bind_eq_some_iff.mp H
 obtain ⟨⟨t198, t201, t204⟩, A210, H⟩ := H
 replace H : ((laws_toCounter.f k l0_0 l0_1).bind fun bt206 => ((laws_toCounter.f k l1_0 l1_1).bind fun bt213 => ((impl_MergeCounter.f k bt206.1 bt206.2 bt213.1 bt213.2).bind fun bt220 => ((laws_eqCounter.f k bt220.1 bt220.2.1 t198 t201).bind fun t228 => (if t228 = true then (laws_FnExactMergeCounter.j0 k t204 bt220.2.2 (bt220.2.2 != t204) l0_0 l0_1 l1_0 l1_1 t198 t201 bt206.1 bt206.2 bt213.1 bt213.2 bt220.1 bt220.2.1) else (none)))))) = some r := H
 have A21 := Aside0.mk A210
 clear A210
 replace H := Option.bind_eq_some_iff.mp H
 obtain ⟨⟨t206, t209⟩, A220, H⟩ := H
 replace H : ((laws_toCounter.f k l1_0 l1_1).bind fun bt213 => ((impl_MergeCounter.f k t206 t209 bt213.1 bt213.2).bind fun bt220 => ((laws_eqCounter.f k bt220.1 bt220.2.1 t198 t201).bind fun t228 => (if t228 = true then (laws_FnExactMergeCounter.j0 k t204 bt220.2.2 (bt220.2.2 != t204) l0_0 l0_1 l1_0 l1_1 t198 t201 t206 t209 bt213.1 bt213.2 bt220.1 bt220.2.1) else (none))))) = some r := H
 have A22 := Aside0.mk A220
 clear A220
 replace H := Option.bind_eq_some_iff.mp H
 obtain ⟨⟨t213, t216⟩, A230, H⟩ := H
 replace H : ((impl_MergeCounter.f k t206 t209 t213 t216).bind fun bt220 => ((laws_eqCounter.f k bt220.1 bt220.2.1 t198 t201).bind fun t228 => (if t228 = true then (laws_FnExactMergeCounter.j0 k t204 bt220.2.2 (bt220.2.2 != t204) l0_0 l0_1 l1_0 l1_1 t198 t201 t206 t209 t213 t216 bt220.1 bt220.2.1) else (none)))) = some r := H
 have A23 := Aside0.mk A230
 clear A230
 replace H := Option.bind_eq_some_iff.mp H
 obtain ⟨⟨t220, t223, t226⟩, A240, H⟩ := H
 replace H : ((laws_eqCounter.f k t220 t223 t198 t201).bind fun t228 => (if t228 = true then (laws_FnExactMergeCounter.j0 k t204 t226 (t226 != t204) l0_0 l0_1 l1_0 l1_1 t198 t201 t206 t209 t213 t216 t220 t223) else (none))) = some r := H
 have A24 := Aside0.mk A240
 clear A240
 have HC25 := Aside0.mk H
 clear H
 go_enter Try.func7, Try.ntmps7
 try go_wp2_with (first | ((with_reducible refine gate_dst (N := 2) rfl ?_); refine box_event rfl (N := 2) rfl (cs := #[.slice A0_0 l0_0.length c0_0, .slice A0_1 l0_1.length c0_1]) (t := 24) gs_ ?_; intro gb182 hg w26 hbox hb; have BK182 := Aside0.mk (hbox); have GW182 := Aside0.mk ((by rw [hg]; exact bz_ : w.heap.size ≤ gb182)); have GE182 := GW182; replace HB := Aside0.mk (below_step bl_ hb); clear hb hbox hg) | ((with_reducible refine gate_dst (N := 3) rfl ?_); refine box_event rfl (N := 3) rfl (cs := #[.slice A1_0 l1_0.length c1_0, .slice A1_1 l1_1.length c1_1]) (t := 24) gs_ ?_; intro gb183 hg w27 hbox hb; have BK183 := Aside0.mk (hbox); have GW183 := Aside0.mk ((by rw [hg]; exact bz_ : w.heap.size ≤ gb183)); have GE183 := GW183; replace HB := Aside0.mk (below_step bl_ hb); have NB182_183 := nl_ hg BK182; have NB183_182 := nm_ hg BK182; replace BK182 := bb_ BK182 hb; clear hb hbox hg; have hnb28 := NB182_183.out; have hnc28 := NB183_182.out; have hcz29_0 : w27.cell? ⟨gb182, 0, none⟩ = some (.slice A0_0 l0_0.length c0_0) := bc_ BK182.out 0; have hcz29_1 : w27.cell? ⟨gb182, 1, none⟩ = some (.slice A0_1 l0_1.length c0_1) := bc_ BK182.out 1; have hfz29_0 := blk_frozen BK182.out 0; have hfz29_1 := blk_frozen BK182.out 1) | ((with_reducible refine gate_callee (f := 10) rfl ?_); refine goesL_ (some 19) rfl rfl Try.func10 (by kernel_rfl) rfl #[.agg #[.slice A0_0 l0_0.length c0_0, .slice A0_1 l0_1.length c0_1], .int .i64 1048576] rfl nc_ ?_; (with_reducible refine (laws_szCounter.calls _ _ l0_0 _ _ l0_1 1048576 t184 _ ?side1 ?side2 ?side3 ?side4 A3.out).mono ?_); (case side1 => exact kc_ (Kd.C_below HR0_0.out HB.out)); (case side2 => exact HC0_0.out); (case side3 => exact kc_ (Kd.C_below HR0_1.out HB.out)); (case side4 => exact HC0_1.out); rintro e w30 ⟨rfl, hb⟩; refine ⟨_, rfl, ?_⟩; replace BK182 := bb_ BK182 hb; replace BK183 := bb_ BK183 hb; replace HB := Aside0.mk (below_step bl_ hb); clear hb; have hcz31_0 : w30.cell? ⟨gb183, 0, none⟩ = some (.slice A1_0 l1_0.length c1_0) := bc_ BK183.out 0; have hcz31_1 : w30.cell? ⟨gb183, 1, none⟩ = some (.slice A1_1 l1_1.length c1_1) := bc_ BK183.out 1; have hfz31_0 := blk_frozen BK183.out 0; have hfz31_1 := blk_frozen BK183.out 1) | ((with_reducible refine gate_callee (f := 10) rfl ?_); refine goesL_ (some 24) rfl rfl Try.func10 (by kernel_rfl) rfl #[.agg #[.slice A1_0 l1_0.length c1_0, .slice A1_1 l1_1.length c1_1], .int .i64 t184] rfl nc_ ?_; (with_reducible refine (laws_szCounter.calls _ _ l1_0 _ _ l1_1 t184 t185 _ ?side1 ?side2 ?side3 ?side4 A10.out).mono ?_); (case side1 => exact kc_ (Kd.C_below HR1_0.out HB.out)); (case side2 => exact HC1_0.out); (case side3 => exact kc_ (Kd.C_below HR1_1.out HB.out)); (case side4 => exact HC1_1.out); rintro e w32 ⟨rfl, hb⟩; refine ⟨_, rfl, ?_⟩; replace BK182 := bb_ BK182 hb; replace BK183 := bb_ BK183 hb; replace HB := Aside0.mk (below_step bl_ hb); clear hb))
 replace BK182 := Aside0.mk (blk_drew BK182.out)
 replace BK183 := Aside0.mk (blk_drew BK183.out)
 replace HB := Aside0.mk (below_drew1 HB.out)
 refine start_ (n := 11) (S := fun w' => w'.cell? ⟨gb182, 0, none⟩ = some (.slice A0_0 l0_0.length c0_0) ∧ w'.cell? ⟨gb182, 1, none⟩ = some (.slice A0_1 l0_1.length c0_1) ∧ w'.cell? ⟨gb183, 0, none⟩ = some (.slice A1_0 l1_0.length c1_0) ∧ w'.cell? ⟨gb183, 1, none⟩ = some (.slice A1_1 l1_1.length c1_1)) (ds := []) #[false, false, false, false, false, false, false, false, false, false, false] (by kernel_rfl) rfl rfl ⟨bc_ BK182.out 0, bc_ BK182.out 1, bc_ BK183.out 0, bc_ BK183.out 1⟩ (fun hHeld => ?_); refine with_tabW laws_FnExactMergeCounter.tab8 laws_FnExactMergeCounter.bits8 (fun HT_ HW_ => ?_)
 generalize w32.drew = w33 at BK182 BK183 HB hHeld ⊢
 refine take_ (i := 0) (N := some 28) (v := ?_) (a' := ?_) #[true, false, false, false, false, false, false, false, false, false, false] rfl rfl (take_ofW HT_.out HW_.out (by kernel_rfl)) (fun _ _ _ h => h) (Or.inl ⟨by rfl, ?_⟩) hHeld ?_ ?_
 rotate_left
 ·rintro w' ⟨s0, s1, s2, s3⟩
  go_simp
  with_reducible rfl
 rotate_left
 ·simp only [Act.put, List.setIfInBounds_toArray, List.set_cons_zero, List.set_cons_succ, i64_w, i32_w]
  rfl
 refine take_ (i := 2) (N := some 30) (v := ?_) (a' := ?_) #[true, false, true, false, false, false, false, false, false, false, false] rfl rfl (take_ofW HT_.out HW_.out (by kernel_rfl)) (fun _ _ _ h => h) (Or.inl ⟨by rfl, ?_⟩) hHeld ?_ ?_
 rotate_left
 ·rintro w' ⟨s0, s1, s2, s3⟩
  go_simp
  with_reducible rfl
 rotate_left
 ·simp only [Act.put, List.setIfInBounds_toArray, List.set_cons_zero, List.set_cons_succ, i64_w, i32_w]
  rfl
 refine join_ (σ := Value × Value × Value × Value × Value × Value × Nat) 2 #[true, true, true, true, true, true, true, true, true, false, false] (fun s_ => [(29, .agg #[s_.1, s_.2.1]), (31, .agg #[s_.2.2.1, s_.2.2.2.1]), (32, .tuple #[.agg #[s_.2.2.2.2.1, s_.2.2.2.2.2.1], .bool t204]), (6, .pointer (some ⟨s_.2.2.2.2.2.2, 0, none⟩)), (27, .tuple #[.agg #[s_.2.2.2.2.1, s_.2.2.2.2.2.1], .bool t204]), (33, .agg #[s_.2.2.2.2.1, s_.2.2.2.2.2.1]), (34, .bool t204)]) (fun s_ w' => (w'.cell? ⟨gb182, 0, none⟩ = some (.slice A0_0 l0_0.length c0_0) ∧ w'.cell? ⟨gb182, 1, none⟩ = some (.slice A0_1 l0_1.length c0_1) ∧ w'.cell? ⟨gb183, 0, none⟩ = some (.slice A1_0 l1_0.length c1_0) ∧ w'.cell? ⟨gb183, 1, none⟩ = some (.slice A1_1 l1_1.length c1_1)) ∧ (Kd.R (Kd.int .i64) 3 w' w.heap.size (fun k_ => some k_ ≠ (s_.2.1 : Value).ownBlock ∧ some k_ ≠ (s_.2.2.1 : Value).ownBlock ∧ some k_ ≠ (s_.2.2.2.1 : Value).ownBlock ∧ some k_ ≠ (s_.2.2.2.2.1 : Value).ownBlock ∧ some k_ ≠ (s_.2.2.2.2.2.1 : Value).ownBlock) s_.1 t186) ∧ (Kd.R (Kd.int .i64) 3 w' w.heap.size (fun k_ => some k_ ≠ (s_.1 : Value).ownBlock ∧ some k_ ≠ (s_.2.2.1 : Value).ownBlock ∧ some k_ ≠ (s_.2.2.2.1 : Value).ownBlock ∧ some k_ ≠ (s_.2.2.2.2.1 : Value).ownBlock ∧ some k_ ≠ (s_.2.2.2.2.2.1 : Value).ownBlock) s_.2.1 t189) ∧ (Kd.R (Kd.int .i64) 3 w' w.heap.size (fun k_ => some k_ ≠ (s_.1 : Value).ownBlock ∧ some k_ ≠ (s_.2.1 : Value).ownBlock ∧ some k_ ≠ (s_.2.2.2.1 : Value).ownBlock ∧ some k_ ≠ (s_.2.2.2.2.1 : Value).ownBlock ∧ some k_ ≠ (s_.2.2.2.2.2.1 : Value).ownBlock) s_.2.2.1 t192) ∧ (Kd.R (Kd.int .i64) 3 w' w.heap.size (fun k_ => some k_ ≠ (s_.1 : Value).ownBlock ∧ some k_ ≠ (s_.2.1 : Value).ownBlock ∧ some k_ ≠ (s_.2.2.1 : Value).ownBlock ∧ some k_ ≠ (s_.2.2.2.2.1 : Value).ownBlock ∧ some k_ ≠ (s_.2.2.2.2.2.1 : Value).ownBlock) s_.2.2.2.1 t195) ∧ (Kd.R (Kd.int .i64) 3 w' w.heap.size (fun k_ => some k_ ≠ (s_.1 : Value).ownBlock ∧ some k_ ≠ (s_.2.1 : Value).ownBlock ∧ some k_ ≠ (s_.2.2.1 : Value).ownBlock ∧ some k_ ≠ (s_.2.2.2.1 : Value).ownBlock ∧ some k_ ≠ (s_.2.2.2.2.2.1 : Value).ownBlock) s_.2.2.2.2.1 t198) ∧ (Kd.R (Kd.int .i64) 3 w' w.heap.size (fun k_ => some k_ ≠ (s_.1 : Value).ownBlock ∧ some k_ ≠ (s_.2.1 : Value).ownBlock ∧ some k_ ≠ (s_.2.2.1 : Value).ownBlock ∧ some k_ ≠ (s_.2.2.2.1 : Value).ownBlock ∧ some k_ ≠ (s_.2.2.2.2.1 : Value).ownBlock) s_.2.2.2.2.2.1 t201) ∧ (w'.heap[gb182]? = some (.cells #[.slice A0_0 l0_0.length c0_0, .slice A0_1 l0_1.length c0_1] 24 (0, 0))) ∧ (w'.heap[gb183]? = some (.cells #[.slice A1_0 l1_0.length c1_0, .slice A1_1 l1_1.length c1_1] 24 (0, 0))) ∧ (w'.heap[s_.2.2.2.2.2.2]? = some (.cells #[.slice none 0 0, .slice none 0 0] 27 (0, 0))) ∧ (w.heap.size ≤ s_.2.2.2.2.2.2) ∧ (w.heap.size ≤ s_.2.2.2.2.2.2) ∧ (gb182 ≠ s_.2.2.2.2.2.2) ∧ (s_.2.2.2.2.2.2 ≠ gb182) ∧ (gb183 ≠ s_.2.2.2.2.2.2) ∧ (s_.2.2.2.2.2.2 ≠ gb183) ∧ (Below w.heap.size w w')) ?_ ?_
 rotate_left
 ·intro hCont
  refine two_ (i := 1) (j := 8) (Ni := some 29) (Nj := some 6) #[true, true, true, false, false, false, false, false, false, false, false] #[true, false, true, false, false, false, false, false, true, false, false] rfl rfl rfl rfl (two_of HT_.out (by kernel_rfl)) (by decide) (by decide) (fun K hK => ?_) (fun K hK => ?_)
  ·skip
   refine goes_ Try.func12 (by kernel_rfl) rfl #[.agg #[.slice A0_0 l0_0.length c0_0, .slice A0_1 l0_1.length c0_1]] (by rfl) rfl rfl nc_ ?_
   with_reducible refine (laws_toCounter.calls k _ _ l0_0 _ _ l0_1 t186 t189 _ ?side1 ?side2 ?side3 ?side4 A19.out).mono ?_
   (case side1 => exact kc_ (Kd.C_below HR0_0.out HB.out))
   (case side2 => exact HC0_0.out)
   (case side3 => exact kc_ (Kd.C_below HR0_1.out HB.out))
   (case side4 => exact HC0_1.out)
   rintro e w34 ⟨v187, v190, rfl, ho0, ho1, hb⟩
   refine ⟨_, rfl, ?_⟩
   have HO188 := Aside0.mk (Kd.R_lower ho0 bz_)
   have HO191 := Aside0.mk (Kd.R_lower ho1 bz_)
   replace BK182 := bb_ BK182 hb
   replace BK183 := bb_ BK183 hb
   replace HB := Aside0.mk (below_step bl_ hb)
   clear hb ho0 ho1
   refine hK.out _ _ ⟨bc_ BK182.out 0, bc_ BK182.out 1, bc_ BK183.out 0, bc_ BK183.out 1⟩ (fun hHeld => ?_)
   clear hK K
   refine norm_ nn_ ?_
   refine two_ (i := 3) (j := 8) (Ni := some 31) (Nj := some 6) #[true, true, true, true, false, false, false, false, false, false, false] #[true, true, true, false, false, false, false, false, true, false, false] rfl rfl rfl rfl (two_of HT_.out (by kernel_rfl)) (by decide) (by decide) (fun K hK => ?_) (fun K hK => ?_)
   ·skip
    refine goes_ Try.func12 (by kernel_rfl) rfl #[.agg #[.slice A1_0 l1_0.length c1_0, .slice A1_1 l1_1.length c1_1]] (by rfl) rfl rfl nc_ ?_
    with_reducible refine (laws_toCounter.calls k _ _ l1_0 _ _ l1_1 t192 t195 _ ?side1 ?side2 ?side3 ?side4 A20.out).mono ?_
    (case side1 => exact kc_ (Kd.C_below HR1_0.out HB.out))
    (case side2 => exact HC1_0.out)
    (case side3 => exact kc_ (Kd.C_below HR1_1.out HB.out))
    (case side4 => exact HC1_1.out)
    rintro e w35 ⟨v193, v196, rfl, ho0, ho1, hb⟩
    refine ⟨_, rfl, ?_⟩
    have HO194 := Aside0.mk (Kd.R_lower (rn_ (rn_ ho0 HO188.out) HO191.out) bz_)
    have HO197 := Aside0.mk (Kd.R_lower (rn_ (rn_ ho1 HO188.out) HO191.out) bz_)
    replace HO188 := rp2_ HO188 hb ho0 ho1
    replace HO191 := rp2_ HO191 hb ho0 ho1
    replace BK182 := bb_ BK182 hb
    replace BK183 := bb_ BK183 hb
    replace HB := Aside0.mk (below_step bl_ hb)
    clear hb ho0 ho1
    obtain ⟨Ao36, co36, eo36⟩ := Kd.R_slice HO188.out
    (first | subst eo36 | (injection eo36 with f1_ f2_ f3_; have f4_ := f1_.symm; have f5_ := f3_.symm; clear f1_ f2_ f3_; subst f4_; subst f5_))
    obtain ⟨Ao37, co37, eo37⟩ := Kd.R_slice HO191.out
    (first | subst eo37 | (injection eo37 with f1_ f2_ f3_; have f4_ := f1_.symm; have f5_ := f3_.symm; clear f1_ f2_ f3_; subst f4_; subst f5_))
    obtain ⟨Ao38, co38, eo38⟩ := Kd.R_slice HO194.out
    (first | subst eo38 | (injection eo38 with f1_ f2_ f3_; have f4_ := f1_.symm; have f5_ := f3_.symm; clear f1_ f2_ f3_; subst f4_; subst f5_))
    obtain ⟨Ao39, co39, eo39⟩ := Kd.R_slice HO197.out
    (first | subst eo39 | (injection eo39 with f1_ f2_ f3_; have f4_ := f1_.symm; have f5_ := f3_.symm; clear f1_ f2_ f3_; subst f4_; subst f5_))
    refine hK.out _ _ ⟨bc_ BK182.out 0, bc_ BK182.out 1, bc_ BK183.out 0, bc_ BK183.out 1⟩ (fun hHeld => ?_)
    clear hK K
    refine norm_ nn_ ?_
    refine two_ (i := 4) (j := 8) (Ni := some 32) (Nj := some 6) #[true, true, true, true, true, false, false, false, false, false, false] #[true, true, true, true, false, false, false, false, true, false, false] rfl rfl rfl rfl (two_of HT_.out (by kernel_rfl)) (by decide) (by decide) (fun K hK => ?_) (fun K hK => ?_)
    ·skip
     refine goes_ Try.func23 (by kernel_rfl) rfl #[.agg #[.slice Ao36 t186.length co36, .slice Ao37 t189.length co37], .agg #[.slice Ao38 t192.length co38, .slice Ao39 t195.length co39]] (by rfl) rfl rfl nc_ ?_
     with_reducible refine (spec_MergeCounter.calls k _ _ t186 _ _ t189 _ _ t192 _ _ t195 t198 t201 t204 _ ?side1 ?side2 ?side3 ?side4 ?side5 ?side6 ?side7 ?side8 A21.out).mono ?_
     (case side1 => exact kc_ (Kd.R_reads' HO188.out).2.2)
     (case side2 => exact (Kd.R_reads' HO188.out).2.1)
     (case side3 => exact kc_ (Kd.R_reads' HO191.out).2.2)
     (case side4 => exact (Kd.R_reads' HO191.out).2.1)
     (case side5 => exact kc_ (Kd.R_reads' HO194.out).2.2)
     (case side6 => exact (Kd.R_reads' HO194.out).2.1)
     (case side7 => exact kc_ (Kd.R_reads' HO197.out).2.2)
     (case side8 => exact (Kd.R_reads' HO197.out).2.1)
     rintro e w40 ⟨v199, v202, rfl, ho0, ho1, hb⟩
     refine ⟨_, rfl, ?_⟩
     have HO200 := Aside0.mk (Kd.R_lower (rn_ (rn_ (rn_ (rn_ ho0 HO188.out) HO191.out) HO194.out) HO197.out) bz_)
     have HO203 := Aside0.mk (Kd.R_lower (rn_ (rn_ (rn_ (rn_ ho1 HO188.out) HO191.out) HO194.out) HO197.out) bz_)
     replace HO188 := rp2_ HO188 hb ho0 ho1
     replace HO191 := rp2_ HO191 hb ho0 ho1
     replace HO194 := rp2_ HO194 hb ho0 ho1
     replace HO197 := rp2_ HO197 hb ho0 ho1
     replace BK182 := bb_ BK182 hb
     replace BK183 := bb_ BK183 hb
     replace HB := Aside0.mk (below_step bl_ hb)
     clear hb ho0 ho1
     refine hK.out _ _ ⟨bc_ BK182.out 0, bc_ BK182.out 1, bc_ BK183.out 0, bc_ BK183.out 1⟩ (fun hHeld => ?_)
     clear hK K
     refine norm_ nn_ ?_
     refine pure_ (i := 5) (N := some 27) (v := ?_) (a' := ?_) #[true, true, true, true, true, true, false, false, false, false, false] rfl rfl (any_of HT_.out (by kernel_rfl)) (fun _ _ _ h => h) (Or.inl ⟨by rfl, ?_⟩) ?_ ?_
     rotate_left
     ·intro w'
      go_simp
      with_reducible rfl
     rotate_left
     ·simp only [Act.put, List.setIfInBounds_toArray, List.set_cons_zero, List.set_cons_succ, i64_w, i32_w]
      rfl
     refine pure_ (i := 6) (N := some 33) (v := ?_) (a' := ?_) #[true, true, true, true, true, true, true, false, false, false, false] rfl rfl (any_of HT_.out (by kernel_rfl)) (fun _ _ _ h => h) (Or.inl ⟨by rfl, ?_⟩) ?_ ?_
     rotate_left
     ·intro w'
      go_simp
      with_reducible rfl
     rotate_left
     ·simp only [Act.put, List.setIfInBounds_toArray, List.set_cons_zero, List.set_cons_succ, i64_w, i32_w]
      rfl
     refine pure_ (i := 7) (N := some 34) (v := ?_) (a' := ?_) #[true, true, true, true, true, true, true, true, false, false, false] rfl rfl (any_of HT_.out (by kernel_rfl)) (fun _ _ _ h => h) (Or.inl ⟨by rfl, ?_⟩) ?_ ?_
     rotate_left
     ·intro w'
      go_simp
      with_reducible rfl
     rotate_left
     ·simp only [Act.put, List.setIfInBounds_toArray, List.set_cons_zero, List.set_cons_succ, i64_w, i32_w]
      rfl
     refine one_ (i := 8) (N := some 6) #[true, true, true, true, true, true, true, true, true, false, false] rfl rfl (one_of HT_.out (by kernel_rfl)) (by decide) (fun K hK => ?_)
     refine box_step rfl (N := 6) rfl (cs := #[.slice none 0 0, .slice none 0 0]) (t := 27) gs_ ?_
     intro gb205 hg w41 hbox hb
     replace HO188 := rb_ HO188 hb
     replace HO191 := rb_ HO191 hb
     replace HO194 := rb_ HO194 hb
     replace HO197 := rb_ HO197 hb
     replace HO200 := rb_ HO200 hb
     replace HO203 := rb_ HO203 hb
     have BK205 := Aside0.mk (hbox)
     have GW205 := Aside0.mk ((by rw [hg]; exact bz_ : w.heap.size ≤ gb205))
     have GE205 := GW205
     replace HB := Aside0.mk (below_step bl_ hb)
     have NB182_205 := nl_ hg BK182
     have NB205_182 := nm_ hg BK182
     replace BK182 := bb_ BK182 hb
     have NB183_205 := nl_ hg BK183
     have NB205_183 := nm_ hg BK183
     replace BK183 := bb_ BK183 hb
     clear hb hbox hg
     refine hK.out _ _ ⟨bc_ BK182.out 0, bc_ BK182.out 1, bc_ BK183.out 0, bc_ BK183.out 1⟩ (fun hHeld => ?_)
     clear hK K
     refine norm_ nn_ ?_
     exact norm_ (by simp only [putAll, Act.put, List.setIfInBounds_toArray, List.set_cons_zero, List.set_cons_succ]) (hCont (.slice Ao36 t186.length co36, .slice Ao37 t189.length co37, .slice Ao38 t192.length co38, .slice Ao39 t195.length co39, v199, v202, gb205) _ ⟨hHeld, kp_ HO188.out, kp_ HO191.out, kp_ HO194.out, kp_ HO197.out, kp_ HO200.out, kp_ HO203.out, kb_ BK182.out, kb_ BK183.out, kb_ BK205.out, GW205.out, GE205.out, NB182_205.out, NB205_182.out, NB183_205.out, NB205_183.out, bl_⟩)
    ·skip
     refine box_step rfl (N := 6) rfl (cs := #[.slice none 0 0, .slice none 0 0]) (t := 27) gs_ ?_
     intro gb205 hg w36 hbox hb
     replace HO188 := rb_ HO188 hb
     replace HO191 := rb_ HO191 hb
     replace HO194 := rb_ HO194 hb
     replace HO197 := rb_ HO197 hb
     have BK205 := Aside0.mk (hbox)
     have GW205 := Aside0.mk ((by rw [hg]; exact bz_ : w.heap.size ≤ gb205))
     have GE205 := GW205
     replace HB := Aside0.mk (below_step bl_ hb)
     have NB182_205 := nl_ hg BK182
     have NB205_182 := nm_ hg BK182
     replace BK182 := bb_ BK182 hb
     have NB183_205 := nl_ hg BK183
     have NB205_183 := nm_ hg BK183
     replace BK183 := bb_ BK183 hb
     clear hb hbox hg
     obtain ⟨Ao37, co37, eo37⟩ := Kd.R_slice HO188.out
     (first | subst eo37 | (injection eo37 with f1_ f2_ f3_; have f4_ := f1_.symm; have f5_ := f3_.symm; clear f1_ f2_ f3_; subst f4_; subst f5_))
     obtain ⟨Ao38, co38, eo38⟩ := Kd.R_slice HO191.out
     (first | subst eo38 | (injection eo38 with f1_ f2_ f3_; have f4_ := f1_.symm; have f5_ := f3_.symm; clear f1_ f2_ f3_; subst f4_; subst f5_))
     obtain ⟨Ao39, co39, eo39⟩ := Kd.R_slice HO194.out
     (first | subst eo39 | (injection eo39 with f1_ f2_ f3_; have f4_ := f1_.symm; have f5_ := f3_.symm; clear f1_ f2_ f3_; subst f4_; subst f5_))
     obtain ⟨Ao40, co40, eo40⟩ := Kd.R_slice HO197.out
     (first | subst eo40 | (injection eo40 with f1_ f2_ f3_; have f4_ := f1_.symm; have f5_ := f3_.symm; clear f1_ f2_ f3_; subst f4_; subst f5_))
     refine hK.out _ _ ⟨bc_ BK182.out 0, bc_ BK182.out 1, bc_ BK183.out 0, bc_ BK183.out 1⟩ (fun hHeld => ?_)
     clear hK K
     refine norm_ nn_ ?_
     refine one_ (i := 4) (N := some 32) #[true, true, true, true, true, false, false, false, true, false, false] rfl rfl (one_of HT_.out (by kernel_rfl)) (by decide) (fun K hK => ?_)
     refine goes_ Try.func23 (by kernel_rfl) rfl #[.agg #[.slice Ao37 t186.length co37, .slice Ao38 t189.length co38], .agg #[.slice Ao39 t192.length co39, .slice Ao40 t195.length co40]] (by rfl) rfl rfl nc_ ?_
     with_reducible refine (spec_MergeCounter.calls k _ _ t186 _ _ t189 _ _ t192 _ _ t195 t198 t201 t204 _ ?side1 ?side2 ?side3 ?side4 ?side5 ?side6 ?side7 ?side8 A21.out).mono ?_
     (case side1 => exact kc_ (Kd.R_reads' HO188.out).2.2)
     (case side2 => exact (Kd.R_reads' HO188.out).2.1)
     (case side3 => exact kc_ (Kd.R_reads' HO191.out).2.2)
     (case side4 => exact (Kd.R_reads' HO191.out).2.1)
     (case side5 => exact kc_ (Kd.R_reads' HO194.out).2.2)
     (case side6 => exact (Kd.R_reads' HO194.out).2.1)
     (case side7 => exact kc_ (Kd.R_reads' HO197.out).2.2)
     (case side8 => exact (Kd.R_reads' HO197.out).2.1)
     rintro e w41 ⟨v199, v202, rfl, ho0, ho1, hb⟩
     refine ⟨_, rfl, ?_⟩
     have HO200 := Aside0.mk (Kd.R_lower (rn_ (rn_ (rn_ (rn_ ho0 HO188.out) HO191.out) HO194.out) HO197.out) bz_)
     have HO203 := Aside0.mk (Kd.R_lower (rn_ (rn_ (rn_ (rn_ ho1 HO188.out) HO191.out) HO194.out) HO197.out) bz_)
     replace HO188 := rp2_ HO188 hb ho0 ho1
     replace HO191 := rp2_ HO191 hb ho0 ho1
     replace HO194 := rp2_ HO194 hb ho0 ho1
     replace HO197 := rp2_ HO197 hb ho0 ho1
     replace BK182 := bb_ BK182 hb
     replace BK183 := bb_ BK183 hb
     replace BK205 := bb_ BK205 hb
     replace HB := Aside0.mk (below_step bl_ hb)
     clear hb ho0 ho1
     refine hK.out _ _ ⟨bc_ BK182.out 0, bc_ BK182.out 1, bc_ BK183.out 0, bc_ BK183.out 1⟩ (fun hHeld => ?_)
     clear hK K
     refine norm_ nn_ ?_
     refine pure_ (i := 5) (N := some 27) (v := ?_) (a' := ?_) #[true, true, true, true, true, true, false, false, true, false, false] rfl rfl (any_of HT_.out (by kernel_rfl)) (fun _ _ _ h => h) (Or.inl ⟨by rfl, ?_⟩) ?_ ?_
     rotate_left
     ·intro w'
      go_simp
      with_reducible rfl
     rotate_left
     ·simp only [Act.put, List.setIfInBounds_toArray, List.set_cons_zero, List.set_cons_succ, i64_w, i32_w]
      rfl
     refine pure_ (i := 6) (N := some 33) (v := ?_) (a' := ?_) #[true, true, true, true, true, true, true, false, true, false, false] rfl rfl (any_of HT_.out (by kernel_rfl)) (fun _ _ _ h => h) (Or.inl ⟨by rfl, ?_⟩) ?_ ?_
     rotate_left
     ·intro w'
      go_simp
      with_reducible rfl
     rotate_left
     ·simp only [Act.put, List.setIfInBounds_toArray, List.set_cons_zero, List.set_cons_succ, i64_w, i32_w]
      rfl
     refine pure_ (i := 7) (N := some 34) (v := ?_) (a' := ?_) #[true, true, true, true, true, true, true, true, true, false, false] rfl rfl (any_of HT_.out (by kernel_rfl)) (fun _ _ _ h => h) (Or.inl ⟨by rfl, ?_⟩) ?_ ?_
     rotate_left
     ·intro w'
      go_simp
      with_reducible rfl
     rotate_left
     ·simp only [Act.put, List.setIfInBounds_toArray, List.set_cons_zero, List.set_cons_succ, i64_w, i32_w]
      rfl
     exact norm_ (by simp only [putAll, Act.put, List.setIfInBounds_toArray, List.set_cons_zero, List.set_cons_succ]) (hCont (.slice Ao37 t186.length co37, .slice Ao38 t189.length co38, .slice Ao39 t192.length co39, .slice Ao40 t195.length co40, v199, v202, gb205) _ ⟨hHeld, kp_ HO188.out, kp_ HO191.out, kp_ HO194.out, kp_ HO197.out, kp_ HO200.out, kp_ HO203.out, kb_ BK182.out, kb_ BK183.out, kb_ BK205.out, GW205.out, GE205.out, NB182_205.out, NB205_182.out, NB183_205.out, NB205_183.out, bl_⟩)
   ·skip
    refine box_step rfl (N := 6) rfl (cs := #[.slice none 0 0, .slice none 0 0]) (t := 27) gs_ ?_
    intro gb205 hg w35 hbox hb
    replace HO188 := rb_ HO188 hb
    replace HO191 := rb_ HO191 hb
    have BK205 := Aside0.mk (hbox)
    have GW205 := Aside0.mk ((by rw [hg]; exact bz_ : w.heap.size ≤ gb205))
    have GE205 := GW205
    replace HB := Aside0.mk (below_step bl_ hb)
    have NB182_205 := nl_ hg BK182
    have NB205_182 := nm_ hg BK182
    replace BK182 := bb_ BK182 hb
    have NB183_205 := nl_ hg BK183
    have NB205_183 := nm_ hg BK183
    replace BK183 := bb_ BK183 hb
    clear hb hbox hg
    refine hK.out _ _ ⟨bc_ BK182.out 0, bc_ BK182.out 1, bc_ BK183.out 0, bc_ BK183.out 1⟩ (fun hHeld => ?_)
    clear hK K
    refine norm_ nn_ ?_
    refine one_ (i := 3) (N := some 31) #[true, true, true, true, false, false, false, false, true, false, false] rfl rfl (one_of HT_.out (by kernel_rfl)) (by decide) (fun K hK => ?_)
    refine goes_ Try.func12 (by kernel_rfl) rfl #[.agg #[.slice A1_0 l1_0.length c1_0, .slice A1_1 l1_1.length c1_1]] (by rfl) rfl rfl nc_ ?_
    with_reducible refine (laws_toCounter.calls k _ _ l1_0 _ _ l1_1 t192 t195 _ ?side1 ?side2 ?side3 ?side4 A20.out).mono ?_
    (case side1 => exact kc_ (Kd.C_below HR1_0.out HB.out))
    (case side2 => exact HC1_0.out)
    (case side3 => exact kc_ (Kd.C_below HR1_1.out HB.out))
    (case side4 => exact HC1_1.out)
    rintro e w36 ⟨v193, v196, rfl, ho0, ho1, hb⟩
    refine ⟨_, rfl, ?_⟩
    have HO194 := Aside0.mk (Kd.R_lower (rn_ (rn_ ho0 HO188.out) HO191.out) bz_)
    have HO197 := Aside0.mk (Kd.R_lower (rn_ (rn_ ho1 HO188.out) HO191.out) bz_)
    replace HO188 := rp2_ HO188 hb ho0 ho1
    replace HO191 := rp2_ HO191 hb ho0 ho1
    replace BK182 := bb_ BK182 hb
    replace BK183 := bb_ BK183 hb
    replace BK205 := bb_ BK205 hb
    replace HB := Aside0.mk (below_step bl_ hb)
    clear hb ho0 ho1
    obtain ⟨Ao37, co37, eo37⟩ := Kd.R_slice HO188.out
    (first | subst eo37 | (injection eo37 with f1_ f2_ f3_; have f4_ := f1_.symm; have f5_ := f3_.symm; clear f1_ f2_ f3_; subst f4_; subst f5_))
    obtain ⟨Ao38, co38, eo38⟩ := Kd.R_slice HO191.out
    (first | subst eo38 | (injection eo38 with f1_ f2_ f3_; have f4_ := f1_.symm; have f5_ := f3_.symm; clear f1_ f2_ f3_; subst f4_; subst f5_))
    obtain ⟨Ao39, co39, eo39⟩ := Kd.R_slice HO194.out
    (first | subst eo39 | (injection eo39 with f1_ f2_ f3_; have f4_ := f1_.symm; have f5_ := f3_.symm; clear f1_ f2_ f3_; subst f4_; subst f5_))
    obtain ⟨Ao40, co40, eo40⟩ := Kd.R_slice HO197.out
    (first | subst eo40 | (injection eo40 with f1_ f2_ f3_; have f4_ := f1_.symm; have f5_ := f3_.symm; clear f1_ f2_ f3_; subst f4_; subst f5_))
    refine hK.out _ _ ⟨bc_ BK182.out 0, bc_ BK182.out 1, bc_ BK183.out 0, bc_ BK183.out 1⟩ (fun hHeld => ?_)
    clear hK K
    refine norm_ nn_ ?_
    refine one_ (i := 4) (N := some 32) #[true, true, true, true, true, false, false, false, true, false, false] rfl rfl (one_of HT_.out (by kernel_rfl)) (by decide) (fun K hK => ?_)
    refine goes_ Try.func23 (by kernel_rfl) rfl #[.agg #[.slice Ao37 t186.length co37, .slice Ao38 t189.length co38], .agg #[.slice Ao39 t192.length co39, .slice Ao40 t195.length co40]] (by rfl) rfl rfl nc_ ?_
    with_reducible refine (spec_MergeCounter.calls k _ _ t186 _ _ t189 _ _ t192 _ _ t195 t198 t201 t204 _ ?side1 ?side2 ?side3 ?side4 ?side5 ?side6 ?side7 ?side8 A21.out).mono ?_
    (case side1 => exact kc_ (Kd.R_reads' HO188.out).2.2)
    (case side2 => exact (Kd.R_reads' HO188.out).2.1)
    (case side3 => exact kc_ (Kd.R_reads' HO191.out).2.2)
    (case side4 => exact (Kd.R_reads' HO191.out).2.1)
    (case side5 => exact kc_ (Kd.R_reads' HO194.out).2.2)
    (case side6 => exact (Kd.R_reads' HO194.out).2.1)
    (case side7 => exact kc_ (Kd.R_reads' HO197.out).2.2)
    (case side8 => exact (Kd.R_reads' HO197.out).2.1)
    rintro e w41 ⟨v199, v202, rfl, ho0, ho1, hb⟩
    refine ⟨_, rfl, ?_⟩
    have HO200 := Aside0.mk (Kd.R_lower (rn_ (rn_ (rn_ (rn_ ho0 HO188.out) HO191.out) HO194.out) HO197.out) bz_)
    have HO203 := Aside0.mk (Kd.R_lower (rn_ (rn_ (rn_ (rn_ ho1 HO188.out) HO191.out) HO194.out) HO197.out) bz_)
    replace HO188 := rp2_ HO188 hb ho0 ho1
    replace HO191 := rp2_ HO191 hb ho0 ho1
    replace HO194 := rp2_ HO194 hb ho0 ho1
    replace HO197 := rp2_ HO197 hb ho0 ho1
    replace BK182 := bb_ BK182 hb
    replace BK183 := bb_ BK183 hb
    replace BK205 := bb_ BK205 hb
    replace HB := Aside0.mk (below_step bl_ hb)
    clear hb ho0 ho1
    refine hK.out _ _ ⟨bc_ BK182.out 0, bc_ BK182.out 1, bc_ BK183.out 0, bc_ BK183.out 1⟩ (fun hHeld => ?_)
    clear hK K
    refine norm_ nn_ ?_
    refine pure_ (i := 5) (N := some 27) (v := ?_) (a' := ?_) #[true, true, true, true, true, true, false, false, true, false, false] rfl rfl (any_of HT_.out (by kernel_rfl)) (fun _ _ _ h => h) (Or.inl ⟨by rfl, ?_⟩) ?_ ?_
    rotate_left
    ·intro w'
     go_simp
     with_reducible rfl
    rotate_left
    ·simp only [Act.put, List.setIfInBounds_toArray, List.set_cons_zero, List.set_cons_succ, i64_w, i32_w]
     rfl
    refine pure_ (i := 6) (N := some 33) (v := ?_) (a' := ?_) #[true, true, true, true, true, true, true, false, true, false, false] rfl rfl (any_of HT_.out (by kernel_rfl)) (fun _ _ _ h => h) (Or.inl ⟨by rfl, ?_⟩) ?_ ?_
    rotate_left
    ·intro w'
     go_simp
     with_reducible rfl
    rotate_left
    ·simp only [Act.put, List.setIfInBounds_toArray, List.set_cons_zero, List.set_cons_succ, i64_w, i32_w]
     rfl
    refine pure_ (i := 7) (N := some 34) (v := ?_) (a' := ?_) #[true, true, true, true, true, true, true, true, true, false, false] rfl rfl (any_of HT_.out (by kernel_rfl)) (fun _ _ _ h => h) (Or.inl ⟨by rfl, ?_⟩) ?_ ?_
    rotate_left
    ·intro w'
     go_simp
     with_reducible rfl
    rotate_left
    ·simp only [Act.put, List.setIfInBounds_toArray, List.set_cons_zero, List.set_cons_succ, i64_w, i32_w]
     rfl
    exact norm_ (by simp only [putAll, Act.put, List.setIfInBounds_toArray, List.set_cons_zero, List.set_cons_succ]) (hCont (.slice Ao37 t186.length co37, .slice Ao38 t189.length co38, .slice Ao39 t192.length co39, .slice Ao40 t195.length co40, v199, v202, gb205) _ ⟨hHeld, kp_ HO188.out, kp_ HO191.out, kp_ HO194.out, kp_ HO197.out, kp_ HO200.out, kp_ HO203.out, kb_ BK182.out, kb_ BK183.out, kb_ BK205.out, GW205.out, GE205.out, NB182_205.out, NB205_182.out, NB183_205.out, NB205_183.out, bl_⟩)
  ·skip
   refine box_step rfl (N := 6) rfl (cs := #[.slice none 0 0, .slice none 0 0]) (t := 27) gs_ ?_
   intro gb205 hg w34 hbox hb
   have BK205 := Aside0.mk (hbox)
   have GW205 := Aside0.mk ((by rw [hg]; exact bz_ : w.heap.size ≤ gb205))
   have GE205 := GW205
   replace HB := Aside0.mk (below_step bl_ hb)
   have NB182_205 := nl_ hg BK182
   have NB205_182 := nm_ hg BK182
   replace BK182 := bb_ BK182 hb
   have NB183_205 := nl_ hg BK183
   have NB205_183 := nm_ hg BK183
   replace BK183 := bb_ BK183 hb
   clear hb hbox hg
   refine hK.out _ _ ⟨bc_ BK182.out 0, bc_ BK182.out 1, bc_ BK183.out 0, bc_ BK183.out 1⟩ (fun hHeld => ?_)
   clear hK K
   refine norm_ nn_ ?_
   refine one_ (i := 1) (N := some 29) #[true, true, true, false, false, false, false, false, true, false, false] rfl rfl (one_of HT_.out (by kernel_rfl)) (by decide) (fun K hK => ?_)
   refine goes_ Try.func12 (by kernel_rfl) rfl #[.agg #[.slice A0_0 l0_0.length c0_0, .slice A0_1 l0_1.length c0_1]] (by rfl) rfl rfl nc_ ?_
   with_reducible refine (laws_toCounter.calls k _ _ l0_0 _ _ l0_1 t186 t189 _ ?side1 ?side2 ?side3 ?side4 A19.out).mono ?_
   (case side1 => exact kc_ (Kd.C_below HR0_0.out HB.out))
   (case side2 => exact HC0_0.out)
   (case side3 => exact kc_ (Kd.C_below HR0_1.out HB.out))
   (case side4 => exact HC0_1.out)
   rintro e w35 ⟨v187, v190, rfl, ho0, ho1, hb⟩
   refine ⟨_, rfl, ?_⟩
   have HO188 := Aside0.mk (Kd.R_lower ho0 bz_)
   have HO191 := Aside0.mk (Kd.R_lower ho1 bz_)
   replace BK182 := bb_ BK182 hb
   replace BK183 := bb_ BK183 hb
   replace BK205 := bb_ BK205 hb
   replace HB := Aside0.mk (below_step bl_ hb)
   clear hb ho0 ho1
   refine hK.out _ _ ⟨bc_ BK182.out 0, bc_ BK182.out 1, bc_ BK183.out 0, bc_ BK183.out 1⟩ (fun hHeld => ?_)
   clear hK K
   refine norm_ nn_ ?_
   refine one_ (i := 3) (N := some 31) #[true, true, true, true, false, false, false, false, true, false, false] rfl rfl (one_of HT_.out (by kernel_rfl)) (by decide) (fun K hK => ?_)
   refine goes_ Try.func12 (by kernel_rfl) rfl #[.agg #[.slice A1_0 l1_0.length c1_0, .slice A1_1 l1_1.length c1_1]] (by rfl) rfl rfl nc_ ?_
   with_reducible refine (laws_toCounter.calls k _ _ l1_0 _ _ l1_1 t192 t195 _ ?side1 ?side2 ?side3 ?side4 A20.out).mono ?_
   (case side1 => exact kc_ (Kd.C_below HR1_0.out HB.out))
   (case side2 => exact HC1_0.out)
   (case side3 => exact kc_ (Kd.C_below HR1_1.out HB.out))
   (case side4 => exact HC1_1.out)
   rintro e w36 ⟨v193, v196, rfl, ho0, ho1, hb⟩
   refine ⟨_, rfl, ?_⟩
   have HO194 := Aside0.mk (Kd.R_lower (rn_ (rn_ ho0 HO188.out) HO191.out) bz_)
   have HO197 := Aside0.mk (Kd.R_lower (rn_ (rn_ ho1 HO188.out) HO191.out) bz_)
   replace HO188 := rp2_ HO188 hb ho0 ho1
   replace HO191 := rp2_ HO191 hb ho0 ho1
   replace BK182 := bb_ BK182 hb
   replace BK183 := bb_ BK183 hb
   replace BK205 := bb_ BK205 hb
   replace HB := Aside0.mk (below_step bl_ hb)
   clear hb ho0 ho1
   obtain ⟨Ao37, co37, eo37⟩ := Kd.R_slice HO188.out
   (first | subst eo37 | (injection eo37 with f1_ f2_ f3_; have f4_ := f1_.symm; have f5_ := f3_.symm; clear f1_ f2_ f3_; subst f4_; subst f5_))
   obtain ⟨Ao38, co38, eo38⟩ := Kd.R_slice HO191.out
   (first | subst eo38 | (injection eo38 with f1_ f2_ f3_; have f4_ := f1_.symm; have f5_ := f3_.symm; clear f1_ f2_ f3_; subst f4_; subst f5_))
   obtain ⟨Ao39, co39, eo39⟩ := Kd.R_slice HO194.out
   (first | subst eo39 | (injection eo39 with f1_ f2_ f3_; have f4_ := f1_.symm; have f5_ := f3_.symm; clear f1_ f2_ f3_; subst f4_; subst f5_))
   obtain ⟨Ao40, co40, eo40⟩ := Kd.R_slice HO197.out
   (first | subst eo40 | (injection eo40 with f1_ f2_ f3_; have f4_ := f1_.symm; have f5_ := f3_.symm; clear f1_ f2_ f3_; subst f4_; subst f5_))
   refine hK.out _ _ ⟨bc_ BK182.out 0, bc_ BK182.out 1, bc_ BK183.out 0, bc_ BK183.out 1⟩ (fun hHeld => ?_)
   clear hK K
   refine norm_ nn_ ?_
   refine one_ (i := 4) (N := some 32) #[true, true, true, true, true, false, false, false, true, false, false] rfl rfl (one_of HT_.out (by kernel_rfl)) (by decide) (fun K hK => ?_)
   refine goes_ Try.func23 (by kernel_rfl) rfl #[.agg #[.slice Ao37 t186.length co37, .slice Ao38 t189.length co38], .agg #[.slice Ao39 t192.length co39, .slice Ao40 t195.length co40]] (by rfl) rfl rfl nc_ ?_
   with_reducible refine (spec_MergeCounter.calls k _ _ t186 _ _ t189 _ _ t192 _ _ t195 t198 t201 t204 _ ?side1 ?side2 ?side3 ?side4 ?side5 ?side6 ?side7 ?side8 A21.out).mono ?_
   (case side1 => exact kc_ (Kd.R_reads' HO188.out).2.2)
   (case side2 => exact (Kd.R_reads' HO188.out).2.1)
   (case side3 => exact kc_ (Kd.R_reads' HO191.out).2.2)
   (case side4 => exact (Kd.R_reads' HO191.out).2.1)
   (case side5 => exact kc_ (Kd.R_reads' HO194.out).2.2)
   (case side6 => exact (Kd.R_reads' HO194.out).2.1)
   (case side7 => exact kc_ (Kd.R_reads' HO197.out).2.2)
   (case side8 => exact (Kd.R_reads' HO197.out).2.1)
   rintro e w41 ⟨v199, v202, rfl, ho0, ho1, hb⟩
   refine ⟨_, rfl, ?_⟩
   have HO200 := Aside0.mk (Kd.R_lower (rn_ (rn_ (rn_ (rn_ ho0 HO188.out) HO191.out) HO194.out) HO197.out) bz_)
   have HO203 := Aside0.mk (Kd.R_lower (rn_ (rn_ (rn_ (rn_ ho1 HO188.out) HO191.out) HO194.out) HO197.out) bz_)
   replace HO188 := rp2_ HO188 hb ho0 ho1
   replace HO191 := rp2_ HO191 hb ho0 ho1
   replace HO194 := rp2_ HO194 hb ho0 ho1
   replace HO197 := rp2_ HO197 hb ho0 ho1
   replace BK182 := bb_ BK182 hb
   replace BK183 := bb_ BK183 hb
   replace BK205 := bb_ BK205 hb
   replace HB := Aside0.mk (below_step bl_ hb)
   clear hb ho0 ho1
   refine hK.out _ _ ⟨bc_ BK182.out 0, bc_ BK182.out 1, bc_ BK183.out 0, bc_ BK183.out 1⟩ (fun hHeld => ?_)
   clear hK K
   refine norm_ nn_ ?_
   refine pure_ (i := 5) (N := some 27) (v := ?_) (a' := ?_) #[true, true, true, true, true, true, false, false, true, false, false] rfl rfl (any_of HT_.out (by kernel_rfl)) (fun _ _ _ h => h) (Or.inl ⟨by rfl, ?_⟩) ?_ ?_
   rotate_left
   ·intro w'
    go_simp
    with_reducible rfl
   rotate_left
   ·simp only [Act.put, List.setIfInBounds_toArray, List.set_cons_zero, List.set_cons_succ, i64_w, i32_w]
    rfl
   refine pure_ (i := 6) (N := some 33) (v := ?_) (a' := ?_) #[true, true, true, true, true, true, true, false, true, false, false] rfl rfl (any_of HT_.out (by kernel_rfl)) (fun _ _ _ h => h) (Or.inl ⟨by rfl, ?_⟩) ?_ ?_
   rotate_left
   ·intro w'
    go_simp
    with_reducible rfl
   rotate_left
   ·simp only [Act.put, List.setIfInBounds_toArray, List.set_cons_zero, List.set_cons_succ, i64_w, i32_w]
    rfl
   refine pure_ (i := 7) (N := some 34) (v := ?_) (a' := ?_) #[true, true, true, true, true, true, true, true, true, false, false] rfl rfl (any_of HT_.out (by kernel_rfl)) (fun _ _ _ h => h) (Or.inl ⟨by rfl, ?_⟩) ?_ ?_
   rotate_left
   ·intro w'
    go_simp
    with_reducible rfl
   rotate_left
   ·simp only [Act.put, List.setIfInBounds_toArray, List.set_cons_zero, List.set_cons_succ, i64_w, i32_w]
    rfl
   exact norm_ (by simp only [putAll, Act.put, List.setIfInBounds_toArray, List.set_cons_zero, List.set_cons_succ]) (hCont (.slice Ao37 t186.length co37, .slice Ao38 t189.length co38, .slice Ao39 t192.length co39, .slice Ao40 t195.length co40, v199, v202, gb205) _ ⟨hHeld, kp_ HO188.out, kp_ HO191.out, kp_ HO194.out, kp_ HO197.out, kp_ HO200.out, kp_ HO203.out, kb_ BK182.out, kb_ BK183.out, kb_ BK205.out, GW205.out, GE205.out, NB182_205.out, NB205_182.out, NB183_205.out, NB205_183.out, bl_⟩)
 rintro ⟨v187, v190, v193, v196, v199, v202, gb205⟩ w42 ⟨hS_, h0_, h1_, h2_, h3_, h4_, h5_, h6_, h7_, h8_, h9_, h10_, h11_, h12_, h13_, h14_, h15_⟩
 dsimp only at h0_ h1_ h2_ h3_ h4_ h5_ h6_ h7_ h8_ h9_ h10_ h11_ h12_ h13_ h14_ h15_
 have HO188 := Aside0.mk h0_
 have HO191 := Aside0.mk h1_
 have HO194 := Aside0.mk h2_
 have HO197 := Aside0.mk h3_
 have HO200 := Aside0.mk h4_
 have HO203 := Aside0.mk h5_
 replace BK182 := Aside0.mk h6_
 replace BK183 := Aside0.mk h7_
 have BK205 := Aside0.mk h8_
 have GW205 := Aside0.mk h9_
 have GE205 := Aside0.mk h10_
 have NB182_205 := Aside0.mk h11_
 have NB205_182 := Aside0.mk h12_
 have NB183_205 := Aside0.mk h13_
 have NB205_183 := Aside0.mk h14_
 replace HB := Aside0.mk h15_
 clear h0_ h1_ h2_ h3_ h4_ h5_ h6_ h7_ h8_ h9_ h10_ h11_ h12_ h13_ h14_ h15_
 try dsimp only at hS_
 have hHeld := hS_
 obtain ⟨Ao43, co43, eo43⟩ := Kd.R_slice HO200.out
 (first | subst eo43 | (injection eo43 with f1_ f2_ f3_; have f4_ := f1_.symm; have f5_ := f3_.symm; clear f1_ f2_ f3_; subst f4_; subst f5_))
 obtain ⟨Ao45, co45, eo45⟩ := Kd.R_slice HO203.out
 (first | subst eo45 | (injection eo45 with f1_ f2_ f3_; have f4_ := f1_.symm; have f5_ := f3_.symm; clear f1_ f2_ f3_; subst f4_; subst f5_))
 refine norm_ np_ ?_
 refine one_ (i := 9) (N := none) #[true, true, true, true, true, true, true, true, true, true, false] rfl rfl (one_of HT_.out (by kernel_rfl)) (by decide) (fun K hK => ?_)
 have hs44 : w42.cell? ⟨gb205, 0, none⟩ = some (.slice none 0 0) := bc_ BK205.out 0
 have hfs44 := blk_frozen BK205.out 0
 have hns44_0 := NB182_205.out
 have hns44_1 := NB183_205.out
 have hms44_0 := NB205_182.out
 have hms44_1 := NB205_183.out
 have hs46 : w42.cell? ⟨gb205, 1, none⟩ = some (.slice none 0 0) := bc_ BK205.out 1
 have hfs46 := blk_frozen BK205.out 1
 have hns46_0 := NB182_205.out
 have hns46_1 := NB183_205.out
 have hms46_0 := NB205_182.out
 have hms46_1 := NB205_183.out
 refine skip_ (w1 := ?_) (by rfl) rfl ?_ ?_
 rotate_left
 ·go_simp
  rfl
 refine hK.out _ _ ⟨((cell_far (p := ⟨gb205, _, none⟩) NB182_205.out _).trans (((cell_far (p := ⟨gb205, _, none⟩) NB182_205.out _).trans (hHeld.1)))), ((cell_far (p := ⟨gb205, _, none⟩) NB182_205.out _).trans (((cell_far (p := ⟨gb205, _, none⟩) NB182_205.out _).trans (hHeld.2.1)))), ((cell_far (p := ⟨gb205, _, none⟩) NB183_205.out _).trans (((cell_far (p := ⟨gb205, _, none⟩) NB183_205.out _).trans (hHeld.2.2.1)))), ((cell_far (p := ⟨gb205, _, none⟩) NB183_205.out _).trans (((cell_far (p := ⟨gb205, _, none⟩) NB183_205.out _).trans (hHeld.2.2.2))))⟩ (fun hHeld => ?_)
 clear hK K
 refine pure_ (i := 10) (N := some 7) (v := ?_) (a' := ?_) #[true, true, true, true, true, true, true, true, true, true, true] rfl rfl (any_of HT_.out (by kernel_rfl)) (fun _ _ _ h => h) (Or.inl ⟨by rfl, ?_⟩) ?_ ?_
 rotate_left
 ·intro w'
  go_simp
  with_reducible rfl
 rotate_left
 ·simp only [Act.put, List.setIfInBounds_toArray, List.set_cons_zero, List.set_cons_succ, i64_w, i32_w]
  rfl
 refine done_ (done_of HT_.out (by kernel_rfl)) ?_
 have hnb47 := NB182_205.out
 have hnc47 := NB205_182.out
 have hcz48_0 : w42.cell? ⟨gb182, 0, none⟩ = some (.slice A0_0 l0_0.length c0_0) := bc_ BK182.out 0
 have hcz48_1 : w42.cell? ⟨gb182, 1, none⟩ = some (.slice A0_1 l0_1.length c0_1) := bc_ BK182.out 1
 have hfz48_0 := blk_frozen BK182.out 0
 have hfz48_1 := blk_frozen BK182.out 1
 go_upto_region 12 with (first | ((with_reducible refine gate_callee (f := 12) rfl ?_); refine goesL_ (some 36) rfl rfl Try.func12 (by kernel_rfl) rfl #[.agg #[.slice A0_0 l0_0.length c0_0, .slice A0_1 l0_1.length c0_1]] rfl nc_ ?_; (with_reducible refine (laws_toCounter.calls k _ _ l0_0 _ _ l0_1 t206 t209 _ ?side1 ?side2 ?side3 ?side4 A22.out).mono ?_); (case side1 => exact Kd.C_below HR0_0.out bl_); (case side2 => exact HC0_0.out); (case side3 => exact Kd.C_below HR0_1.out bl_); (case side4 => exact HC0_1.out); rintro e w49 ⟨v207, v210, rfl, ho0, ho1, hb⟩; refine ⟨_, rfl, ?_⟩; have HO208 := Aside0.mk (Kd.R_lower (rn_ (rn_ (rn_ (rn_ (rn_ (rn_ ho0 (rs2_ HO188.out BK205.out (.slice Ao43 t198.length co43) (.slice Ao45 t201.length co45))) (rs2_ HO191.out BK205.out (.slice Ao43 t198.length co43) (.slice Ao45 t201.length co45))) (rs2_ HO194.out BK205.out (.slice Ao43 t198.length co43) (.slice Ao45 t201.length co45))) (rs2_ HO197.out BK205.out (.slice Ao43 t198.length co43) (.slice Ao45 t201.length co45))) (rs2_ HO200.out BK205.out (.slice Ao43 t198.length co43) (.slice Ao45 t201.length co45))) (rs2_ HO203.out BK205.out (.slice Ao43 t198.length co43) (.slice Ao45 t201.length co45))) bz_); have HO211 := Aside0.mk (Kd.R_lower (rn_ (rn_ (rn_ (rn_ (rn_ (rn_ ho1 (rs2_ HO188.out BK205.out (.slice Ao43 t198.length co43) (.slice Ao45 t201.length co45))) (rs2_ HO191.out BK205.out (.slice Ao43 t198.length co43) (.slice Ao45 t201.length co45))) (rs2_ HO194.out BK205.out (.slice Ao43 t198.length co43) (.slice Ao45 t201.length co45))) (rs2_ HO197.out BK205.out (.slice Ao43 t198.length co43) (.slice Ao45 t201.length co45))) (rs2_ HO200.out BK205.out (.slice Ao43 t198.length co43) (.slice Ao45 t201.length co45))) (rs2_ HO203.out BK205.out (.slice Ao43 t198.length co43) (.slice Ao45 t201.length co45))) bz_); replace HO188 := Aside0.mk (ro2_ (rs2_ HO188.out BK205.out (.slice Ao43 t198.length co43) (.slice Ao45 t201.length co45)) hb (Kd.R_base ho0) (Kd.R_base ho1)); replace HO191 := Aside0.mk (ro2_ (rs2_ HO191.out BK205.out (.slice Ao43 t198.length co43) (.slice Ao45 t201.length co45)) hb (Kd.R_base ho0) (Kd.R_base ho1)); replace HO194 := Aside0.mk (ro2_ (rs2_ HO194.out BK205.out (.slice Ao43 t198.length co43) (.slice Ao45 t201.length co45)) hb (Kd.R_base ho0) (Kd.R_base ho1)); replace HO197 := Aside0.mk (ro2_ (rs2_ HO197.out BK205.out (.slice Ao43 t198.length co43) (.slice Ao45 t201.length co45)) hb (Kd.R_base ho0) (Kd.R_base ho1)); replace HO200 := Aside0.mk (ro2_ (rs2_ HO200.out BK205.out (.slice Ao43 t198.length co43) (.slice Ao45 t201.length co45)) hb (Kd.R_base ho0) (Kd.R_base ho1)); replace HO203 := Aside0.mk (ro2_ (rs2_ HO203.out BK205.out (.slice Ao43 t198.length co43) (.slice Ao45 t201.length co45)) hb (Kd.R_base ho0) (Kd.R_base ho1)); replace BK182 := Aside0.mk (blk_below (g := gb182) (o := .cells #[.slice A0_0 l0_0.length c0_0, .slice A0_1 l0_1.length c0_1] 24 (0, 0)) kz_ hb); replace BK183 := Aside0.mk (blk_below (g := gb183) (o := .cells #[.slice A1_0 l1_0.length c1_0, .slice A1_1 l1_1.length c1_1] 24 (0, 0)) kz_ hb); replace BK205 := Aside0.mk (blk_below (g := gb205) (o := .cells #[.slice Ao43 t198.length co43, .slice Ao45 t201.length co45] 27 (0, 0)) (by (with_reducible repeat (first | refine blk_drewN ?_ _ | refine blk_drew ?_ | refine blk_alloc ?_ _)); refine blk_put (cs := #[.slice Ao43 t198.length co43, .slice none 0 0]) ?_ 1 _ rfl; (with_reducible repeat (first | refine blk_drewN ?_ _ | refine blk_drew ?_ | refine blk_alloc ?_ _)); refine blk_put (cs := #[.slice none 0 0, .slice none 0 0]) ?_ 0 _ rfl; exact kb_ BK205.out) hb); replace HB := Aside0.mk (below_step bl_ hb); clear hb ho0 ho1) | ((with_reducible refine gate_dst (N := 8) rfl ?_); refine box_event rfl (N := 8) rfl (cs := #[.slice none 0 0, .slice none 0 0]) (t := 27) gs_ ?_; intro gb212 hg w50 hbox hb; replace HO188 := rb_ HO188 hb; replace HO191 := rb_ HO191 hb; replace HO194 := rb_ HO194 hb; replace HO197 := rb_ HO197 hb; replace HO200 := rb_ HO200 hb; replace HO203 := rb_ HO203 hb; replace HO208 := rb_ HO208 hb; replace HO211 := rb_ HO211 hb; have BK212 := Aside0.mk (hbox); have GW212 := Aside0.mk ((by rw [hg]; exact bz_ : w.heap.size ≤ gb212)); have GE212 := GW212; replace HB := Aside0.mk (below_step bl_ hb); have NB182_212 := nl_ hg BK182; have NB212_182 := nm_ hg BK182; replace BK182 := bb_ BK182 hb; have NB183_212 := nl_ hg BK183; have NB212_183 := nm_ hg BK183; replace BK183 := bb_ BK183 hb; have NB205_212 := nl_ hg BK205; have NB212_205 := nm_ hg BK205; replace BK205 := bb_ BK205 hb; clear hb hbox hg; obtain ⟨Ao51, co51, eo51⟩ := Kd.R_slice HO208.out; subst eo51; have hnb52 := NB212_182.out; have hnc52 := NB182_212.out; have hnb53 := NB212_183.out; have hnc53 := NB183_212.out; have hnb54 := NB212_205.out; have hnc54 := NB205_212.out; have hcz55_0 : w50.cell? ⟨gb212, 0, none⟩ = some (.slice none 0 0) := bc_ BK212.out 0; have hcz55_1 : w50.cell? ⟨gb212, 1, none⟩ = some (.slice none 0 0) := bc_ BK212.out 1; have hfz55_0 := blk_frozen BK212.out 0; have hfz55_1 := blk_frozen BK212.out 1; obtain ⟨Ao56, co56, eo56⟩ := Kd.R_slice HO211.out; subst eo56; have hnb57 := NB183_205.out; have hnc57 := NB205_183.out; have hcz58_0 : w50.cell? ⟨gb183, 0, none⟩ = some (.slice A1_0 l1_0.length c1_0) := bc_ BK183.out 0; have hcz58_1 : w50.cell? ⟨gb183, 1, none⟩ = some (.slice A1_1 l1_1.length c1_1) := bc_ BK183.out 1; have hfz58_0 := blk_frozen BK183.out 0; have hfz58_1 := blk_frozen BK183.out 1) | ((with_reducible refine gate_callee (f := 12) rfl ?_); refine goesL_ (some 38) rfl rfl Try.func12 (by kernel_rfl) rfl #[.agg #[.slice A1_0 l1_0.length c1_0, .slice A1_1 l1_1.length c1_1]] rfl nc_ ?_; (with_reducible refine (laws_toCounter.calls k _ _ l1_0 _ _ l1_1 t213 t216 _ ?side1 ?side2 ?side3 ?side4 A23.out).mono ?_); (case side1 => exact Kd.C_below HR1_0.out bl_); (case side2 => exact HC1_0.out); (case side3 => exact Kd.C_below HR1_1.out bl_); (case side4 => exact HC1_1.out); rintro e w59 ⟨v214, v217, rfl, ho0, ho1, hb⟩; refine ⟨_, rfl, ?_⟩; have HO215 := Aside0.mk (Kd.R_lower (Kd.R_new' (rn_ (rn_ (rn_ (rn_ (rn_ (rn_ (rn_ ho0 (rs2_ HO188.out BK212.out (.slice Ao51 t206.length co51) (.slice Ao56 t209.length co56))) (rs2_ HO191.out BK212.out (.slice Ao51 t206.length co51) (.slice Ao56 t209.length co56))) (rs2_ HO194.out BK212.out (.slice Ao51 t206.length co51) (.slice Ao56 t209.length co56))) (rs2_ HO197.out BK212.out (.slice Ao51 t206.length co51) (.slice Ao56 t209.length co56))) (rs2_ HO200.out BK212.out (.slice Ao51 t206.length co51) (.slice Ao56 t209.length co56))) (rs2_ HO203.out BK212.out (.slice Ao51 t206.length co51) (.slice Ao56 t209.length co56))) (rs2_ HO208.out BK212.out (.slice Ao51 t206.length co51) (.slice Ao56 t209.length co56))) (Kd.R_lt (kr_ (rs2_ HO211.out BK212.out (.slice Ao51 t206.length co51) (.slice Ao56 t209.length co56))))) bz_); have HO218 := Aside0.mk (Kd.R_lower (Kd.R_new' (rn_ (rn_ (rn_ (rn_ (rn_ (rn_ (rn_ ho1 (rs2_ HO188.out BK212.out (.slice Ao51 t206.length co51) (.slice Ao56 t209.length co56))) (rs2_ HO191.out BK212.out (.slice Ao51 t206.length co51) (.slice Ao56 t209.length co56))) (rs2_ HO194.out BK212.out (.slice Ao51 t206.length co51) (.slice Ao56 t209.length co56))) (rs2_ HO197.out BK212.out (.slice Ao51 t206.length co51) (.slice Ao56 t209.length co56))) (rs2_ HO200.out BK212.out (.slice Ao51 t206.length co51) (.slice Ao56 t209.length co56))) (rs2_ HO203.out BK212.out (.slice Ao51 t206.length co51) (.slice Ao56 t209.length co56))) (rs2_ HO208.out BK212.out (.slice Ao51 t206.length co51) (.slice Ao56 t209.length co56))) (Kd.R_lt (kr_ (rs2_ HO211.out BK212.out (.slice Ao51 t206.length co51) (.slice Ao56 t209.length co56))))) bz_); replace HO188 := Aside0.mk (ro2_ (rs2_ HO188.out BK212.out (.slice Ao51 t206.length co51) (.slice Ao56 t209.length co56)) hb (Kd.R_base ho0) (Kd.R_base ho1)); replace HO191 := Aside0.mk (ro2_ (rs2_ HO191.out BK212.out (.slice Ao51 t206.length co51) (.slice Ao56 t209.length co56)) hb (Kd.R_base ho0) (Kd.R_base ho1)); replace HO194 := Aside0.mk (ro2_ (rs2_ HO194.out BK212.out (.slice Ao51 t206.length co51) (.slice Ao56 t209.length co56)) hb (Kd.R_base ho0) (Kd.R_base ho1)); replace HO197 := Aside0.mk (ro2_ (rs2_ HO197.out BK212.out (.slice Ao51 t206.length co51) (.slice Ao56 t209.length co56)) hb (Kd.R_base ho0) (Kd.R_base ho1)); replace HO200 := Aside0.mk (ro2_ (rs2_ HO200.out BK212.out (.slice Ao51 t206.length co51) (.slice Ao56 t209.length co56)) hb (Kd.R_base ho0) (Kd.R_base ho1)); replace HO203 := Aside0.mk (ro2_ (rs2_ HO203.out BK212.out (.slice Ao51 t206.length co51) (.slice Ao56 t209.length co56)) hb (Kd.R_base ho0) (Kd.R_base ho1)); replace HO208 := Aside0.mk (ro2_ (rs2_ HO208.out BK212.out (.slice Ao51 t206.length co51) (.slice Ao56 t209.length co56)) hb (Kd.R_base ho0) (Kd.R_base ho1)); replace HO211 := Aside0.mk (ro2_ (rs2_ HO211.out BK212.out (.slice Ao51 t206.length co51) (.slice Ao56 t209.length co56)) hb (Kd.R_base ho0) (Kd.R_base ho1)); replace BK182 := Aside0.mk (blk_below (g := gb182) (o := .cells #[.slice A0_0 l0_0.length c0_0, .slice A0_1 l0_1.length c0_1] 24 (0, 0)) kz_ hb); replace BK183 := Aside0.mk (blk_below (g := gb183) (o := .cells #[.slice A1_0 l1_0.length c1_0, .slice A1_1 l1_1.length c1_1] 24 (0, 0)) kz_ hb); replace BK205 := Aside0.mk (blk_below (g := gb205) (o := .cells #[.slice Ao43 t198.length co43, .slice Ao45 t201.length co45] 27 (0, 0)) kz_ hb); replace BK212 := Aside0.mk (blk_below (g := gb212) (o := .cells #[.slice Ao51 t206.length co51, .slice Ao56 t209.length co56] 27 (0, 0)) (by (with_reducible repeat (first | refine blk_drewN ?_ _ | refine blk_drew ?_ | refine blk_alloc ?_ _)); refine blk_put (cs := #[.slice Ao51 t206.length co51, .slice none 0 0]) ?_ 1 _ rfl; (with_reducible repeat (first | refine blk_drewN ?_ _ | refine blk_drew ?_ | refine blk_alloc ?_ _)); refine blk_put (cs := #[.slice none 0 0, .slice none 0 0]) ?_ 0 _ rfl; exact kb_ BK212.out) hb); replace HB := Aside0.mk (below_step bl_ hb); clear hb ho0 ho1) | ((with_reducible refine gate_dst (N := 9) rfl ?_); refine box_event rfl (N := 9) rfl (cs := #[.slice none 0 0, .slice none 0 0]) (t := 27) gs_ ?_; intro gb219 hg w60 hbox hb; replace HO188 := rb_ HO188 hb; replace HO191 := rb_ HO191 hb; replace HO194 := rb_ HO194 hb; replace HO197 := rb_ HO197 hb; replace HO200 := rb_ HO200 hb; replace HO203 := rb_ HO203 hb; replace HO208 := rb_ HO208 hb; replace HO211 := rb_ HO211 hb; replace HO215 := rb_ HO215 hb; replace HO218 := rb_ HO218 hb; have BK219 := Aside0.mk (hbox); have GW219 := Aside0.mk ((by rw [hg]; exact bz_ : w.heap.size ≤ gb219)); have GE219 := GW219; replace HB := Aside0.mk (below_step bl_ hb); have NB182_219 := nl_ hg BK182; have NB219_182 := nm_ hg BK182; replace BK182 := bb_ BK182 hb; have NB183_219 := nl_ hg BK183; have NB219_183 := nm_ hg BK183; replace BK183 := bb_ BK183 hb; have NB205_219 := nl_ hg BK205; have NB219_205 := nm_ hg BK205; replace BK205 := bb_ BK205 hb; have NB212_219 := nl_ hg BK212; have NB219_212 := nm_ hg BK212; replace BK212 := bb_ BK212 hb; clear hb hbox hg; obtain ⟨Ao61, co61, eo61⟩ := Kd.R_slice HO215.out; subst eo61; have hnb62 := NB219_182.out; have hnc62 := NB182_219.out; have hnb63 := NB219_183.out; have hnc63 := NB183_219.out; have hnb64 := NB219_205.out; have hnc64 := NB205_219.out; have hnb65 := NB219_212.out; have hnc65 := NB212_219.out; have hcz66_0 : w60.cell? ⟨gb219, 0, none⟩ = some (.slice none 0 0) := bc_ BK219.out 0; have hcz66_1 : w60.cell? ⟨gb219, 1, none⟩ = some (.slice none 0 0) := bc_ BK219.out 1; have hfz66_0 := blk_frozen BK219.out 0; have hfz66_1 := blk_frozen BK219.out 1; obtain ⟨Ao67, co67, eo67⟩ := Kd.R_slice HO218.out; subst eo67; have hcz68_0 : w60.cell? ⟨gb212, 0, none⟩ = some (.slice Ao51 t206.length co51) := bc_ BK212.out 0; have hcz68_1 : w60.cell? ⟨gb212, 1, none⟩ = some (.slice Ao56 t209.length co56) := bc_ BK212.out 1; have hfz68_0 := blk_frozen BK212.out 0; have hfz68_1 := blk_frozen BK212.out 1) | ((with_reducible refine gate_callee (f := 24) rfl ?_); refine goesL_ (some 42) rfl rfl Try.func24 (by kernel_rfl) rfl #[.agg #[.slice Ao51 t206.length co51, .slice Ao56 t209.length co56], .agg #[.slice Ao61 t213.length co61, .slice Ao67 t216.length co67]] rfl nc_ ?_; (with_reducible refine (impl_MergeCounter.calls k _ _ t206 _ _ t209 _ _ t213 _ _ t216 t220 t223 t226 _ ?side1 ?side2 ?side3 ?side4 ?side5 ?side6 ?side7 ?side8 A24.out).mono ?_); (case side1 => refine (Kd.R_reads' (e := 3) (base := w.heap.size) (ok := fun k_ => ((((((((some k_ ≠ (.slice Ao56 t209.length co56 : Value).ownBlock ∧ some k_ ≠ (v187 : Value).ownBlock) ∧ some k_ ≠ (v190 : Value).ownBlock) ∧ some k_ ≠ (v193 : Value).ownBlock) ∧ some k_ ≠ (v196 : Value).ownBlock) ∧ some k_ ≠ (.slice Ao43 t198.length co43 : Value).ownBlock) ∧ some k_ ≠ (.slice Ao45 t201.length co45 : Value).ownBlock) ∧ some k_ ≠ (.slice Ao61 t213.length co61 : Value).ownBlock) ∧ some k_ ≠ (.slice Ao67 t216.length co67 : Value).ownBlock)) (n := t206.length) (c := co51) ?_).2.2; exact (kr_ (rs2_ HO208.out BK219.out (.slice Ao61 t213.length co61) (.slice Ao67 t216.length co67)))); (case side2 => exact (Kd.R_reads' HO208.out).2.1); (case side3 => refine (Kd.R_reads' (e := 3) (base := w.heap.size) (ok := fun k_ => ((((((((some k_ ≠ (.slice Ao51 t206.length co51 : Value).ownBlock ∧ some k_ ≠ (v187 : Value).ownBlock) ∧ some k_ ≠ (v190 : Value).ownBlock) ∧ some k_ ≠ (v193 : Value).ownBlock) ∧ some k_ ≠ (v196 : Value).ownBlock) ∧ some k_ ≠ (.slice Ao43 t198.length co43 : Value).ownBlock) ∧ some k_ ≠ (.slice Ao45 t201.length co45 : Value).ownBlock) ∧ some k_ ≠ (.slice Ao61 t213.length co61 : Value).ownBlock) ∧ some k_ ≠ (.slice Ao67 t216.length co67 : Value).ownBlock)) (n := t209.length) (c := co56) ?_).2.2; exact (kr_ (rs2_ HO211.out BK219.out (.slice Ao61 t213.length co61) (.slice Ao67 t216.length co67)))); (case side4 => exact (Kd.R_reads' HO211.out).2.1); (case side5 => refine (Kd.R_reads' (e := 3) (base := w.heap.size) (ok := fun k_ => ((((((((some k_ ≠ (.slice Ao67 t216.length co67 : Value).ownBlock ∧ some k_ ≠ (v187 : Value).ownBlock) ∧ some k_ ≠ (v190 : Value).ownBlock) ∧ some k_ ≠ (v193 : Value).ownBlock) ∧ some k_ ≠ (v196 : Value).ownBlock) ∧ some k_ ≠ (.slice Ao43 t198.length co43 : Value).ownBlock) ∧ some k_ ≠ (.slice Ao45 t201.length co45 : Value).ownBlock) ∧ some k_ ≠ (.slice Ao51 t206.length co51 : Value).ownBlock) ∧ some k_ ≠ (.slice Ao56 t209.length co56 : Value).ownBlock)) (n := t213.length) (c := co61) ?_).2.2; exact (kr_ (rs2_ HO215.out BK219.out (.slice Ao61 t213.length co61) (.slice Ao67 t216.length co67)))); (case side6 => exact (Kd.R_reads' HO215.out).2.1); (case side7 => refine (Kd.R_reads' (e := 3) (base := w.heap.size) (ok := fun k_ => ((((((((some k_ ≠ (.slice Ao61 t213.length co61 : Value).ownBlock ∧ some k_ ≠ (v187 : Value).ownBlock) ∧ some k_ ≠ (v190 : Value).ownBlock) ∧ some k_ ≠ (v193 : Value).ownBlock) ∧ some k_ ≠ (v196 : Value).ownBlock) ∧ some k_ ≠ (.slice Ao43 t198.length co43 : Value).ownBlock) ∧ some k_ ≠ (.slice Ao45 t201.length co45 : Value).ownBlock) ∧ some k_ ≠ (.slice Ao51 t206.length co51 : Value).ownBlock) ∧ some k_ ≠ (.slice Ao56 t209.length co56 : Value).ownBlock)) (n := t216.length) (c := co67) ?_).2.2; exact (kr_ (rs2_ HO218.out BK219.out (.slice Ao61 t213.length co61) (.slice Ao67 t216.length co67)))); (case side8 => exact (Kd.R_reads' HO218.out).2.1); rintro e w69 ⟨v221, v224, rfl, ho0, ho1, hb⟩; refine ⟨_, rfl, ?_⟩; have HO222 := Aside0.mk (Kd.R_lower (Kd.R_new' (Kd.R_new' (Kd.R_new' (rn_ (rn_ (rn_ (rn_ (rn_ (rn_ (rn_ ho0 (rs2_ HO188.out BK219.out (.slice Ao61 t213.length co61) (.slice Ao67 t216.length co67))) (rs2_ HO191.out BK219.out (.slice Ao61 t213.length co61) (.slice Ao67 t216.length co67))) (rs2_ HO194.out BK219.out (.slice Ao61 t213.length co61) (.slice Ao67 t216.length co67))) (rs2_ HO197.out BK219.out (.slice Ao61 t213.length co61) (.slice Ao67 t216.length co67))) (rs2_ HO200.out BK219.out (.slice Ao61 t213.length co61) (.slice Ao67 t216.length co67))) (rs2_ HO203.out BK219.out (.slice Ao61 t213.length co61) (.slice Ao67 t216.length co67))) (rs2_ HO208.out BK219.out (.slice Ao61 t213.length co61) (.slice Ao67 t216.length co67))) (Kd.R_lt (kr_ (rs2_ HO211.out BK219.out (.slice Ao61 t213.length co61) (.slice Ao67 t216.length co67))))) (Kd.R_lt (kr_ (rs2_ HO215.out BK219.out (.slice Ao61 t213.length co61) (.slice Ao67 t216.length co67))))) (Kd.R_lt (kr_ (rs2_ HO218.out BK219.out (.slice Ao61 t213.length co61) (.slice Ao67 t216.length co67))))) bz_); have HO225 := Aside0.mk (Kd.R_lower (Kd.R_new' (Kd.R_new' (Kd.R_new' (rn_ (rn_ (rn_ (rn_ (rn_ (rn_ (rn_ ho1 (rs2_ HO188.out BK219.out (.slice Ao61 t213.length co61) (.slice Ao67 t216.length co67))) (rs2_ HO191.out BK219.out (.slice Ao61 t213.length co61) (.slice Ao67 t216.length co67))) (rs2_ HO194.out BK219.out (.slice Ao61 t213.length co61) (.slice Ao67 t216.length co67))) (rs2_ HO197.out BK219.out (.slice Ao61 t213.length co61) (.slice Ao67 t216.length co67))) (rs2_ HO200.out BK219.out (.slice Ao61 t213.length co61) (.slice Ao67 t216.length co67))) (rs2_ HO203.out BK219.out (.slice Ao61 t213.length co61) (.slice Ao67 t216.length co67))) (rs2_ HO208.out BK219.out (.slice Ao61 t213.length co61) (.slice Ao67 t216.length co67))) (Kd.R_lt (kr_ (rs2_ HO211.out BK219.out (.slice Ao61 t213.length co61) (.slice Ao67 t216.length co67))))) (Kd.R_lt (kr_ (rs2_ HO215.out BK219.out (.slice Ao61 t213.length co61) (.slice Ao67 t216.length co67))))) (Kd.R_lt (kr_ (rs2_ HO218.out BK219.out (.slice Ao61 t213.length co61) (.slice Ao67 t216.length co67))))) bz_); replace HO188 := Aside0.mk (ro2_ (rs2_ HO188.out BK219.out (.slice Ao61 t213.length co61) (.slice Ao67 t216.length co67)) hb (Kd.R_base ho0) (Kd.R_base ho1)); replace HO191 := Aside0.mk (ro2_ (rs2_ HO191.out BK219.out (.slice Ao61 t213.length co61) (.slice Ao67 t216.length co67)) hb (Kd.R_base ho0) (Kd.R_base ho1)); replace HO194 := Aside0.mk (ro2_ (rs2_ HO194.out BK219.out (.slice Ao61 t213.length co61) (.slice Ao67 t216.length co67)) hb (Kd.R_base ho0) (Kd.R_base ho1)); replace HO197 := Aside0.mk (ro2_ (rs2_ HO197.out BK219.out (.slice Ao61 t213.length co61) (.slice Ao67 t216.length co67)) hb (Kd.R_base ho0) (Kd.R_base ho1)); replace HO200 := Aside0.mk (ro2_ (rs2_ HO200.out BK219.out (.slice Ao61 t213.length co61) (.slice Ao67 t216.length co67)) hb (Kd.R_base ho0) (Kd.R_base ho1)); replace HO203 := Aside0.mk (ro2_ (rs2_ HO203.out BK219.out (.slice Ao61 t213.length co61) (.slice Ao67 t216.length co67)) hb (Kd.R_base ho0) (Kd.R_base ho1)); replace HO208 := Aside0.mk (ro2_ (rs2_ HO208.out BK219.out (.slice Ao61 t213.length co61) (.slice Ao67 t216.length co67)) hb (Kd.R_base ho0) (Kd.R_base ho1)); replace HO211 := Aside0.mk (ro2_ (rs2_ HO211.out BK219.out (.slice Ao61 t213.length co61) (.slice Ao67 t216.length co67)) hb (Kd.R_base ho0) (Kd.R_base ho1)); replace HO215 := Aside0.mk (ro2_ (rs2_ HO215.out BK219.out (.slice Ao61 t213.length co61) (.slice Ao67 t216.length co67)) hb (Kd.R_base ho0) (Kd.R_base ho1)); replace HO218 := Aside0.mk (ro2_ (rs2_ HO218.out BK219.out (.slice Ao61 t213.length co61) (.slice Ao67 t216.length co67)) hb (Kd.R_base ho0) (Kd.R_base ho1)); replace BK182 := Aside0.mk (blk_below (g := gb182) (o := .cells #[.slice A0_0 l0_0.length c0_0, .slice A0_1 l0_1.length c0_1] 24 (0, 0)) kz_ hb); replace BK183 := Aside0.mk (blk_below (g := gb183) (o := .cells #[.slice A1_0 l1_0.length c1_0, .slice A1_1 l1_1.length c1_1] 24 (0, 0)) kz_ hb); replace BK205 := Aside0.mk (blk_below (g := gb205) (o := .cells #[.slice Ao43 t198.length co43, .slice Ao45 t201.length co45] 27 (0, 0)) kz_ hb); replace BK212 := Aside0.mk (blk_below (g := gb212) (o := .cells #[.slice Ao51 t206.length co51, .slice Ao56 t209.length co56] 27 (0, 0)) kz_ hb); replace BK219 := Aside0.mk (blk_below (g := gb219) (o := .cells #[.slice Ao61 t213.length co61, .slice Ao67 t216.length co67] 27 (0, 0)) (by (with_reducible repeat (first | refine blk_drewN ?_ _ | refine blk_drew ?_ | refine blk_alloc ?_ _)); refine blk_put (cs := #[.slice Ao61 t213.length co61, .slice none 0 0]) ?_ 1 _ rfl; (with_reducible repeat (first | refine blk_drewN ?_ _ | refine blk_drew ?_ | refine blk_alloc ?_ _)); refine blk_put (cs := #[.slice none 0 0, .slice none 0 0]) ?_ 0 _ rfl; exact kb_ BK219.out) hb); replace HB := Aside0.mk (below_step bl_ hb); clear hb ho0 ho1) | ((with_reducible refine gate_dst (N := 10) rfl ?_); refine box_event rfl (N := 10) rfl (cs := #[.slice none 0 0, .slice none 0 0]) (t := 27) gs_ ?_; intro gb227 hg w70 hbox hb; replace HO188 := rb_ HO188 hb; replace HO191 := rb_ HO191 hb; replace HO194 := rb_ HO194 hb; replace HO197 := rb_ HO197 hb; replace HO200 := rb_ HO200 hb; replace HO203 := rb_ HO203 hb; replace HO208 := rb_ HO208 hb; replace HO211 := rb_ HO211 hb; replace HO215 := rb_ HO215 hb; replace HO218 := rb_ HO218 hb; replace HO222 := rb_ HO222 hb; replace HO225 := rb_ HO225 hb; have BK227 := Aside0.mk (hbox); have GW227 := Aside0.mk ((by rw [hg]; exact bz_ : w.heap.size ≤ gb227)); have GE227 := GW227; replace HB := Aside0.mk (below_step bl_ hb); have NB182_227 := nl_ hg BK182; have NB227_182 := nm_ hg BK182; replace BK182 := bb_ BK182 hb; have NB183_227 := nl_ hg BK183; have NB227_183 := nm_ hg BK183; replace BK183 := bb_ BK183 hb; have NB205_227 := nl_ hg BK205; have NB227_205 := nm_ hg BK205; replace BK205 := bb_ BK205 hb; have NB212_227 := nl_ hg BK212; have NB227_212 := nm_ hg BK212; replace BK212 := bb_ BK212 hb; have NB219_227 := nl_ hg BK219; have NB227_219 := nm_ hg BK219; replace BK219 := bb_ BK219 hb; clear hb hbox hg; obtain ⟨Ao71, co71, eo71⟩ := Kd.R_slice HO222.out; subst eo71; have hnb72 := NB227_182.out; have hnc72 := NB182_227.out; have hnb73 := NB227_183.out; have hnc73 := NB183_227.out; have hnb74 := NB227_205.out; have hnc74 := NB205_227.out; have hnb75 := NB227_212.out; have hnc75 := NB212_227.out; have hnb76 := NB227_219.out; have hnc76 := NB219_227.out; have hcz77_0 : w70.cell? ⟨gb227, 0, none⟩ = some (.slice none 0 0) := bc_ BK227.out 0; have hcz77_1 : w70.cell? ⟨gb227, 1, none⟩ = some (.slice none 0 0) := bc_ BK227.out 1; have hfz77_0 := blk_frozen BK227.out 0; have hfz77_1 := blk_frozen BK227.out 1; obtain ⟨Ao78, co78, eo78⟩ := Kd.R_slice HO225.out; subst eo78))
 (try simp only [Act.put, List.setIfInBounds_toArray, List.set_cons_zero, List.set_cons_succ])
 go_cut [53] (fun v53 wc => ∃ (kq : Nat) (x53_24 : Bool), v53 = .bool x53_24 ∧ Aside0 (laws_FnExactMergeCounter.j0 kq t204 t226 x53_24 l0_0 l0_1 l1_0 l1_1 t198 t201 t206 t209 t213 t216 t220 t223 = some r) ∧ Aside0 (kq ≤ k) ∧ Aside0 (Kd.R (Kd.int .i64) 3 wc w.heap.size (fun k_ => some k_ ≠ ((.slice Ao45 t201.length co45) : Value).ownBlock ∧ some k_ ≠ ((.slice Ao51 t206.length co51) : Value).ownBlock ∧ some k_ ≠ ((.slice Ao56 t209.length co56) : Value).ownBlock ∧ some k_ ≠ ((.slice Ao61 t213.length co61) : Value).ownBlock ∧ some k_ ≠ ((.slice Ao67 t216.length co67) : Value).ownBlock ∧ some k_ ≠ ((.slice Ao71 t220.length co71) : Value).ownBlock ∧ some k_ ≠ ((.slice Ao78 t223.length co78) : Value).ownBlock) (.slice Ao43 t198.length co43) t198) ∧ Aside0 (Kd.R (Kd.int .i64) 3 wc w.heap.size (fun k_ => some k_ ≠ ((.slice Ao43 t198.length co43) : Value).ownBlock ∧ some k_ ≠ ((.slice Ao51 t206.length co51) : Value).ownBlock ∧ some k_ ≠ ((.slice Ao56 t209.length co56) : Value).ownBlock ∧ some k_ ≠ ((.slice Ao61 t213.length co61) : Value).ownBlock ∧ some k_ ≠ ((.slice Ao67 t216.length co67) : Value).ownBlock ∧ some k_ ≠ ((.slice Ao71 t220.length co71) : Value).ownBlock ∧ some k_ ≠ ((.slice Ao78 t223.length co78) : Value).ownBlock) (.slice Ao45 t201.length co45) t201) ∧ Aside0 (Kd.R (Kd.int .i64) 3 wc w.heap.size (fun k_ => some k_ ≠ ((.slice Ao43 t198.length co43) : Value).ownBlock ∧ some k_ ≠ ((.slice Ao45 t201.length co45) : Value).ownBlock ∧ some k_ ≠ ((.slice Ao56 t209.length co56) : Value).ownBlock ∧ some k_ ≠ ((.slice Ao61 t213.length co61) : Value).ownBlock ∧ some k_ ≠ ((.slice Ao67 t216.length co67) : Value).ownBlock ∧ some k_ ≠ ((.slice Ao71 t220.length co71) : Value).ownBlock ∧ some k_ ≠ ((.slice Ao78 t223.length co78) : Value).ownBlock) (.slice Ao51 t206.length co51) t206) ∧ Aside0 (Kd.R (Kd.int .i64) 3 wc w.heap.size (fun k_ => some k_ ≠ ((.slice Ao43 t198.length co43) : Value).ownBlock ∧ some k_ ≠ ((.slice Ao45 t201.length co45) : Value).ownBlock ∧ some k_ ≠ ((.slice Ao51 t206.length co51) : Value).ownBlock ∧ some k_ ≠ ((.slice Ao61 t213.length co61) : Value).ownBlock ∧ some k_ ≠ ((.slice Ao67 t216.length co67) : Value).ownBlock ∧ some k_ ≠ ((.slice Ao71 t220.length co71) : Value).ownBlock ∧ some k_ ≠ ((.slice Ao78 t223.length co78) : Value).ownBlock) (.slice Ao56 t209.length co56) t209) ∧ Aside0 (Kd.R (Kd.int .i64) 3 wc w.heap.size (fun k_ => some k_ ≠ ((.slice Ao43 t198.length co43) : Value).ownBlock ∧ some k_ ≠ ((.slice Ao45 t201.length co45) : Value).ownBlock ∧ some k_ ≠ ((.slice Ao51 t206.length co51) : Value).ownBlock ∧ some k_ ≠ ((.slice Ao56 t209.length co56) : Value).ownBlock ∧ some k_ ≠ ((.slice Ao67 t216.length co67) : Value).ownBlock ∧ some k_ ≠ ((.slice Ao71 t220.length co71) : Value).ownBlock ∧ some k_ ≠ ((.slice Ao78 t223.length co78) : Value).ownBlock) (.slice Ao61 t213.length co61) t213) ∧ Aside0 (Kd.R (Kd.int .i64) 3 wc w.heap.size (fun k_ => some k_ ≠ ((.slice Ao43 t198.length co43) : Value).ownBlock ∧ some k_ ≠ ((.slice Ao45 t201.length co45) : Value).ownBlock ∧ some k_ ≠ ((.slice Ao51 t206.length co51) : Value).ownBlock ∧ some k_ ≠ ((.slice Ao56 t209.length co56) : Value).ownBlock ∧ some k_ ≠ ((.slice Ao61 t213.length co61) : Value).ownBlock ∧ some k_ ≠ ((.slice Ao71 t220.length co71) : Value).ownBlock ∧ some k_ ≠ ((.slice Ao78 t223.length co78) : Value).ownBlock) (.slice Ao67 t216.length co67) t216) ∧ Aside0 (Kd.R (Kd.int .i64) 3 wc w.heap.size (fun k_ => some k_ ≠ ((.slice Ao43 t198.length co43) : Value).ownBlock ∧ some k_ ≠ ((.slice Ao45 t201.length co45) : Value).ownBlock ∧ some k_ ≠ ((.slice Ao51 t206.length co51) : Value).ownBlock ∧ some k_ ≠ ((.slice Ao56 t209.length co56) : Value).ownBlock ∧ some k_ ≠ ((.slice Ao61 t213.length co61) : Value).ownBlock ∧ some k_ ≠ ((.slice Ao67 t216.length co67) : Value).ownBlock ∧ some k_ ≠ ((.slice Ao78 t223.length co78) : Value).ownBlock) (.slice Ao71 t220.length co71) t220) ∧ Aside0 (Kd.R (Kd.int .i64) 3 wc w.heap.size (fun k_ => some k_ ≠ ((.slice Ao43 t198.length co43) : Value).ownBlock ∧ some k_ ≠ ((.slice Ao45 t201.length co45) : Value).ownBlock ∧ some k_ ≠ ((.slice Ao51 t206.length co51) : Value).ownBlock ∧ some k_ ≠ ((.slice Ao56 t209.length co56) : Value).ownBlock ∧ some k_ ≠ ((.slice Ao61 t213.length co61) : Value).ownBlock ∧ some k_ ≠ ((.slice Ao67 t216.length co67) : Value).ownBlock ∧ some k_ ≠ ((.slice Ao71 t220.length co71) : Value).ownBlock) (.slice Ao78 t223.length co78) t223) ∧ Aside0 (wc.heap[gb182]? = some (.cells #[(.slice A0_0 l0_0.length c0_0), (.slice A0_1 l0_1.length c0_1)] 24 (0, 0))) ∧ Aside0 (wc.heap[gb183]? = some (.cells #[(.slice A1_0 l1_0.length c1_0), (.slice A1_1 l1_1.length c1_1)] 24 (0, 0))) ∧ Aside0 (wc.heap[gb205]? = some (.cells #[(.slice Ao43 t198.length co43), (.slice Ao45 t201.length co45)] 27 (0, 0))) ∧ Aside0 (wc.heap[gb212]? = some (.cells #[(.slice Ao51 t206.length co51), (.slice Ao56 t209.length co56)] 27 (0, 0))) ∧ Aside0 (wc.heap[gb219]? = some (.cells #[(.slice Ao61 t213.length co61), (.slice Ao67 t216.length co67)] 27 (0, 0))) ∧ Aside0 (wc.heap[gb227]? = some (.cells #[(.slice Ao71 t220.length co71), (.slice Ao78 t223.length co78)] 27 (0, 0))) ∧ Aside0 (Below w.heap.size w wc))
 case first =>
  have H := HC25.out
  clear HC25
  replace H := Option.bind_eq_some_iff.mp H
  obtain ⟨t228, A790, H⟩ := H
  replace H : (if t228 = true then (laws_FnExactMergeCounter.j0 k t204 t226 (t226 != t204) l0_0 l0_1 l1_0 l1_1 t198 t201 t206 t209 t213 t216 t220 t223) else (none)) = some r := H
  have A79 := Aside0.mk A790
  clear A790
  by_cases c80 : t228 = true
  rotate_left
  ·replace c80 := Bool.eq_false_iff.mpr c80
   subst c80
   have H1 : (none) = some r := by rw [if_neg (show ¬ (false = true) by decide)] at H; exact H
   clear H
   have H := H1
   clear H1
   exact absurd H (by simp)
  subst c80
  have H1 : (laws_FnExactMergeCounter.j0 k t204 t226 (t226 != t204) l0_0 l0_1 l1_0 l1_1 t198 t201 t206 t209 t213 t216 t220 t223) = some r := by rw [if_pos rfl] at H; exact H
  clear H
  have H := H1
  clear H1
  have H' := Aside0.mk H
  clear H
  have hnb81 := NB227_182.out
  have hnc81 := NB182_227.out
  have hnb82 := NB227_183.out
  have hnc82 := NB183_227.out
  have hnb83 := NB227_205.out
  have hnc83 := NB205_227.out
  have hnb84 := NB227_212.out
  have hnc84 := NB212_227.out
  have hnb85 := NB227_219.out
  have hnc85 := NB219_227.out
  have hcz86_0 : w70.cell? ⟨gb227, 0, none⟩ = some (.slice none 0 0) := bc_ BK227.out 0
  have hcz86_1 : w70.cell? ⟨gb227, 1, none⟩ = some (.slice none 0 0) := bc_ BK227.out 1
  have hfz86_0 := blk_frozen BK227.out 0
  have hfz86_1 := blk_frozen BK227.out 1
  have hnb87 := NB205_182.out
  have hnc87 := NB182_205.out
  have hnb88 := NB205_183.out
  have hnc88 := NB183_205.out
  have hnb89 := NB205_212.out
  have hnc89 := NB212_205.out
  have hnb90 := NB205_219.out
  have hnc90 := NB219_205.out
  have hcz91_0 : w70.cell? ⟨gb205, 0, none⟩ = some (.slice Ao43 t198.length co43) := bc_ BK205.out 0
  have hcz91_1 : w70.cell? ⟨gb205, 1, none⟩ = some (.slice Ao45 t201.length co45) := bc_ BK205.out 1
  have hfz91_0 := blk_frozen BK205.out 0
  have hfz91_1 := blk_frozen BK205.out 1
  go_wp2_with (first | ((with_reducible refine gate_callee (f := 14) rfl ?_); refine goesL_ (some 47) rfl rfl Try.func14 (by kernel_rfl) rfl #[.agg #[.slice Ao71 t220.length co71, .slice Ao78 t223.length co78], .agg #[.slice Ao43 t198.length co43, .slice Ao45 t201.length co45]] rfl nc_ ?_; (with_reducible refine (laws_eqCounter.calls k _ _ t220 _ _ t223 _ _ t198 _ _ t201 true _ ?side1 ?side2 ?side3 ?side4 ?side5 ?side6 ?side7 ?side8 A79.out).mono ?_); (case side1 => refine (Kd.R_reads' (e := 3) (base := w.heap.size) (ok := fun k_ => ((((((((((some k_ ≠ (.slice Ao78 t223.length co78 : Value).ownBlock ∧ some k_ ≠ (v187 : Value).ownBlock) ∧ some k_ ≠ (v190 : Value).ownBlock) ∧ some k_ ≠ (v193 : Value).ownBlock) ∧ some k_ ≠ (v196 : Value).ownBlock) ∧ some k_ ≠ (.slice Ao43 t198.length co43 : Value).ownBlock) ∧ some k_ ≠ (.slice Ao45 t201.length co45 : Value).ownBlock) ∧ some k_ ≠ (.slice Ao51 t206.length co51 : Value).ownBlock) ∧ some k_ ≠ (.slice Ao56 t209.length co56 : Value).ownBlock) ∧ some k_ ≠ (.slice Ao61 t213.length co61 : Value).ownBlock) ∧ some k_ ≠ (.slice Ao67 t216.length co67 : Value).ownBlock)) (n := t220.length) (c := co71) ?_).2.2; exact (kr_ (rs2_ HO222.out BK227.out (.slice Ao71 t220.length co71) (.slice Ao78 t223.length co78)))); (case side2 => exact (Kd.R_reads' HO222.out).2.1); (case side3 => refine (Kd.R_reads' (e := 3) (base := w.heap.size) (ok := fun k_ => ((((((((((some k_ ≠ (.slice Ao71 t220.length co71 : Value).ownBlock ∧ some k_ ≠ (v187 : Value).ownBlock) ∧ some k_ ≠ (v190 : Value).ownBlock) ∧ some k_ ≠ (v193 : Value).ownBlock) ∧ some k_ ≠ (v196 : Value).ownBlock) ∧ some k_ ≠ (.slice Ao43 t198.length co43 : Value).ownBlock) ∧ some k_ ≠ (.slice Ao45 t201.length co45 : Value).ownBlock) ∧ some k_ ≠ (.slice Ao51 t206.length co51 : Value).ownBlock) ∧ some k_ ≠ (.slice Ao56 t209.length co56 : Value).ownBlock) ∧ some k_ ≠ (.slice Ao61 t213.length co61 : Value).ownBlock) ∧ some k_ ≠ (.slice Ao67 t216.length co67 : Value).ownBlock)) (n := t223.length) (c := co78) ?_).2.2; exact (kr_ (rs2_ HO225.out BK227.out (.slice Ao71 t220.length co71) (.slice Ao78 t223.length co78)))); (case side4 => exact (Kd.R_reads' HO225.out).2.1); (case side5 => refine (Kd.R_reads' (e := 3) (base := w.heap.size) (ok := fun k_ => (((((((some k_ ≠ (v187 : Value).ownBlock ∧ (some k_ ≠ (v190 : Value).ownBlock ∧ (some k_ ≠ (v193 : Value).ownBlock ∧ (some k_ ≠ (v196 : Value).ownBlock ∧ some k_ ≠ (.slice Ao45 t201.length co45 : Value).ownBlock)))) ∧ some k_ ≠ (.slice Ao51 t206.length co51 : Value).ownBlock) ∧ some k_ ≠ (.slice Ao56 t209.length co56 : Value).ownBlock) ∧ some k_ ≠ (.slice Ao61 t213.length co61 : Value).ownBlock) ∧ some k_ ≠ (.slice Ao67 t216.length co67 : Value).ownBlock) ∧ some k_ ≠ (.slice Ao71 t220.length co71 : Value).ownBlock) ∧ some k_ ≠ (.slice Ao78 t223.length co78 : Value).ownBlock)) (n := t198.length) (c := co43) ?_).2.2; exact (kr_ (rs2_ HO200.out BK227.out (.slice Ao71 t220.length co71) (.slice Ao78 t223.length co78)))); (case side6 => exact (Kd.R_reads' HO200.out).2.1); (case side7 => refine (Kd.R_reads' (e := 3) (base := w.heap.size) (ok := fun k_ => (((((((some k_ ≠ (v187 : Value).ownBlock ∧ (some k_ ≠ (v190 : Value).ownBlock ∧ (some k_ ≠ (v193 : Value).ownBlock ∧ (some k_ ≠ (v196 : Value).ownBlock ∧ some k_ ≠ (.slice Ao43 t198.length co43 : Value).ownBlock)))) ∧ some k_ ≠ (.slice Ao51 t206.length co51 : Value).ownBlock) ∧ some k_ ≠ (.slice Ao56 t209.length co56 : Value).ownBlock) ∧ some k_ ≠ (.slice Ao61 t213.length co61 : Value).ownBlock) ∧ some k_ ≠ (.slice Ao67 t216.length co67 : Value).ownBlock) ∧ some k_ ≠ (.slice Ao71 t220.length co71 : Value).ownBlock) ∧ some k_ ≠ (.slice Ao78 t223.length co78 : Value).ownBlock)) (n := t201.length) (c := co45) ?_).2.2; exact (kr_ (rs2_ HO203.out BK227.out (.slice Ao71 t220.length co71) (.slice Ao78 t223.length co78)))); (case side8 => exact (Kd.R_reads' HO203.out).2.1); rintro e w92 ⟨rfl, hb⟩; refine ⟨_, rfl, ?_⟩; replace HO188 := Aside0.mk (Kd.R_below (kr_ (rs2_ HO188.out BK227.out (.slice Ao71 t220.length co71) (.slice Ao78 t223.length co78))) hb); replace HO191 := Aside0.mk (Kd.R_below (kr_ (rs2_ HO191.out BK227.out (.slice Ao71 t220.length co71) (.slice Ao78 t223.length co78))) hb); replace HO194 := Aside0.mk (Kd.R_below (kr_ (rs2_ HO194.out BK227.out (.slice Ao71 t220.length co71) (.slice Ao78 t223.length co78))) hb); replace HO197 := Aside0.mk (Kd.R_below (kr_ (rs2_ HO197.out BK227.out (.slice Ao71 t220.length co71) (.slice Ao78 t223.length co78))) hb); replace HO200 := Aside0.mk (Kd.R_below (kr_ (rs2_ HO200.out BK227.out (.slice Ao71 t220.length co71) (.slice Ao78 t223.length co78))) hb); replace HO203 := Aside0.mk (Kd.R_below (kr_ (rs2_ HO203.out BK227.out (.slice Ao71 t220.length co71) (.slice Ao78 t223.length co78))) hb); replace HO208 := Aside0.mk (Kd.R_below (kr_ (rs2_ HO208.out BK227.out (.slice Ao71 t220.length co71) (.slice Ao78 t223.length co78))) hb); replace HO211 := Aside0.mk (Kd.R_below (kr_ (rs2_ HO211.out BK227.out (.slice Ao71 t220.length co71) (.slice Ao78 t223.length co78))) hb); replace HO215 := Aside0.mk (Kd.R_below (kr_ (rs2_ HO215.out BK227.out (.slice Ao71 t220.length co71) (.slice Ao78 t223.length co78))) hb); replace HO218 := Aside0.mk (Kd.R_below (kr_ (rs2_ HO218.out BK227.out (.slice Ao71 t220.length co71) (.slice Ao78 t223.length co78))) hb); replace HO222 := Aside0.mk (Kd.R_below (kr_ (rs2_ HO222.out BK227.out (.slice Ao71 t220.length co71) (.slice Ao78 t223.length co78))) hb); replace HO225 := Aside0.mk (Kd.R_below (kr_ (rs2_ HO225.out BK227.out (.slice Ao71 t220.length co71) (.slice Ao78 t223.length co78))) hb); replace BK182 := Aside0.mk (blk_below (g := gb182) (o := .cells #[.slice A0_0 l0_0.length c0_0, .slice A0_1 l0_1.length c0_1] 24 (0, 0)) kz_ hb); replace BK183 := Aside0.mk (blk_below (g := gb183) (o := .cells #[.slice A1_0 l1_0.length c1_0, .slice A1_1 l1_1.length c1_1] 24 (0, 0)) kz_ hb); replace BK205 := Aside0.mk (blk_below (g := gb205) (o := .cells #[.slice Ao43 t198.length co43, .slice Ao45 t201.length co45] 27 (0, 0)) kz_ hb); replace BK212 := Aside0.mk (blk_below (g := gb212) (o := .cells #[.slice Ao51 t206.length co51, .slice Ao56 t209.length co56] 27 (0, 0)) kz_ hb); replace BK219 := Aside0.mk (blk_below (g := gb219) (o := .cells #[.slice Ao61 t213.length co61, .slice Ao67 t216.length co67] 27 (0, 0)) kz_ hb); replace BK227 := Aside0.mk (blk_below (g := gb227) (o := .cells #[.slice Ao71 t220.length co71, .slice Ao78 t223.length co78] 27 (0, 0)) (by (with_reducible repeat (first | refine blk_drewN ?_ _ | refine blk_drew ?_ | refine blk_alloc ?_ _)); refine blk_put (cs := #[.slice Ao71 t220.length co71, .slice none 0 0]) ?_ 1 _ rfl; (with_reducible repeat (first | refine blk_drewN ?_ _ | refine blk_drew ?_ | refine blk_alloc ?_ _)); refine blk_put (cs := #[.slice none 0 0, .slice none 0 0]) ?_ 0 _ rfl; exact kb_ BK227.out) hb); replace HB := Aside0.mk (below_step bl_ hb); clear hb))
  go_meet
  case rel => exact ⟨_, ((t226 != t204)), (by first | rfl | (simp; done) | (simp [*]; done)), H', ⟨by first | omega | exact Nat.le_refl _⟩, ⟨kp_ HO200.out⟩, ⟨kp_ HO203.out⟩, ⟨kp_ HO208.out⟩, ⟨kp_ HO211.out⟩, ⟨kp_ HO215.out⟩, ⟨kp_ HO218.out⟩, ⟨kp_ HO222.out⟩, ⟨kp_ HO225.out⟩, ⟨by exact kb_ BK182.out⟩, ⟨by exact kb_ BK183.out⟩, ⟨by exact kb_ BK205.out⟩, ⟨by exact kb_ BK212.out⟩, ⟨by exact kb_ BK219.out⟩, ⟨by exact kb_ BK227.out⟩, ⟨bl_⟩⟩
 clear HC25
 try clear c1
 try clear c2
 try clear p2
 try clear c4
 try clear c5
 try clear c6
 try clear c7
 try clear c8
 try clear c9
 try clear c12
 try clear c14
 try clear c23
 try clear c24
 try clear c47
 try clear c52
 try clear c53
 try clear c54
 try clear c57
 try clear c62
 try clear c63
 try clear c64
 try clear c65
 try clear c72
 try clear c73
 try clear c74
 try clear c75
 try clear c76
 try clear c80
 try clear c81
 try clear c82
 try clear c83
 try clear c84
 try clear c85
 try clear c87
 try clear c88
 try clear c89
 try clear c90
 try clear hcz48_0
 try clear hcz48_1
 try clear hcz55_0
 try clear hcz55_1
 try clear hcz58_0
 try clear hcz58_1
 try clear hcz66_0
 try clear hcz66_1
 try clear hcz68_0
 try clear hcz68_1
 try clear hcz77_0
 try clear hcz77_1
 try clear hcz86_0
 try clear hcz86_1
 try clear hcz91_0
 try clear hcz91_1
 try clear hfz48_0
 try clear hfz48_1
 try clear hfz55_0
 try clear hfz55_1
 try clear hfz58_0
 try clear hfz58_1
 try clear hfz66_0
 try clear hfz66_1
 try clear hfz68_0
 try clear hfz68_1
 try clear hfz77_0
 try clear hfz77_1
 try clear hfz86_0
 try clear hfz86_1
 try clear hfz91_0
 try clear hfz91_1
 obtain ⟨kq, x53_24, rfl, HA, HJ24, HO_206000, HO_206001, HO_213000, HO_213001, HO_220000, HO_220001, HO_228000, HO_228001, BK182, BK183, BK205, BK212, BK219, BK227, HB⟩ := hcut
 cases kq with
 | zero => exact absurd HA.out (by simp [laws_FnExactMergeCounter.j0])
 | succ kj24 => ?_
 have H := HA.out
 clear HA
 simp only [laws_FnExactMergeCounter.j0] at H
 by_cases c93 : x53_24 = true
 ·subst c93
  have H1 : (none) = some r := by rw [if_pos rfl] at H; exact H
  clear H
  have H := H1
  clear H1
  exact absurd H (by simp)
 replace c93 := Bool.eq_false_iff.mpr c93
 subst c93
 have H1 : ((laws_toCounter.f kj24 l0_0 l0_1).bind fun bt229 => ((laws_eqCounter.f kj24 t206 t209 bt229.1 bt229.2).bind fun t235 => (if t235 = true then ((laws_toCounter.f kj24 l1_0 l1_1).bind fun bt236 => ((laws_eqCounter.f kj24 t213 t216 bt236.1 bt236.2).bind fun t242 => (if t242 = true then ((laws_markCounter.f kj24 t206 t209 1).bind fun bt243 => ((laws_markCounter.f kj24 t213 t216 bt243.1).bind fun bt246 => (if bt246.1 < 0 then (none) else ((laws_eqCounter.f kj24 t220 t223 t198 t201).bind fun t249 => (if t249 = true then (laws_FnExactMergeCounter.j1 kj24 t204 (t226 != t204) l0_0 l0_1 l1_0 l1_1 t198 t201 t220 t223) else (none)))))) else (none)))) else (none)))) = some r := by rw [if_neg (show ¬ (false = true) by decide)] at H; exact H
 clear H
 have H := H1
 clear H1
 replace H := Option.bind_eq_some_iff.mp H
 obtain ⟨⟨t229, t232⟩, A940, H⟩ := H
 replace H : ((laws_eqCounter.f kj24 t206 t209 t229 t232).bind fun t235 => (if t235 = true then ((laws_toCounter.f kj24 l1_0 l1_1).bind fun bt236 => ((laws_eqCounter.f kj24 t213 t216 bt236.1 bt236.2).bind fun t242 => (if t242 = true then ((laws_markCounter.f kj24 t206 t209 1).bind fun bt243 => ((laws_markCounter.f kj24 t213 t216 bt243.1).bind fun bt246 => (if bt246.1 < 0 then (none) else ((laws_eqCounter.f kj24 t220 t223 t198 t201).bind fun t249 => (if t249 = true then (laws_FnExactMergeCounter.j1 kj24 t204 (t226 != t204) l0_0 l0_1 l1_0 l1_1 t198 t201 t220 t223) else (none)))))) else (none)))) else (none))) = some r := H
 have A94 := Aside0.mk A940
 clear A940
 replace H := Option.bind_eq_some_iff.mp H
 obtain ⟨t235, A950, H⟩ := H
 replace H : (if t235 = true then ((laws_toCounter.f kj24 l1_0 l1_1).bind fun bt236 => ((laws_eqCounter.f kj24 t213 t216 bt236.1 bt236.2).bind fun t242 => (if t242 = true then ((laws_markCounter.f kj24 t206 t209 1).bind fun bt243 => ((laws_markCounter.f kj24 t213 t216 bt243.1).bind fun bt246 => (if bt246.1 < 0 then (none) else ((laws_eqCounter.f kj24 t220 t223 t198 t201).bind fun t249 => (if t249 = true then (laws_FnExactMergeCounter.j1 kj24 t204 (t226 != t204) l0_0 l0_1 l1_0 l1_1 t198 t201 t220 t223) else (none)))))) else (none)))) else (none)) = some r := H
 have A95 := Aside0.mk A950
 clear A950
 by_cases c96 : t235 = true
 rotate_left
 ·replace c96 := Bool.eq_false_iff.mpr c96
  subst c96
  have H1 : (none) = some r := by rw [if_neg (show ¬ (false = true) by decide)] at H; exact H
  clear H
  have H := H1
  clear H1
  exact absurd H (by simp)
 subst c96
 have H1 : ((laws_toCounter.f kj24 l1_0 l1_1).bind fun bt236 => ((laws_eqCounter.f kj24 t213 t216 bt236.1 bt236.2).bind fun t242 => (if t242 = true then ((laws_markCounter.f kj24 t206 t209 1).bind fun bt243 => ((laws_markCounter.f kj24 t213 t216 bt243.1).bind fun bt246 => (if bt246.1 < 0 then (none) else ((laws_eqCounter.f kj24 t220 t223 t198 t201).bind fun t249 => (if t249 = true then (laws_FnExactMergeCounter.j1 kj24 t204 (t226 != t204) l0_0 l0_1 l1_0 l1_1 t198 t201 t220 t223) else (none)))))) else (none)))) = some r := by rw [if_pos rfl] at H; exact H
 clear H
 have H := H1
 clear H1
 replace H := Option.bind_eq_some_iff.mp H
 obtain ⟨⟨t236, t239⟩, A970, H⟩ := H
 replace H : ((laws_eqCounter.f kj24 t213 t216 t236 t239).bind fun t242 => (if t242 = true then ((laws_markCounter.f kj24 t206 t209 1).bind fun bt243 => ((laws_markCounter.f kj24 t213 t216 bt243.1).bind fun bt246 => (if bt246.1 < 0 then (none) else ((laws_eqCounter.f kj24 t220 t223 t198 t201).bind fun t249 => (if t249 = true then (laws_FnExactMergeCounter.j1 kj24 t204 (t226 != t204) l0_0 l0_1 l1_0 l1_1 t198 t201 t220 t223) else (none)))))) else (none))) = some r := H
 have A97 := Aside0.mk A970
 clear A970
 replace H := Option.bind_eq_some_iff.mp H
 obtain ⟨t242, A980, H⟩ := H
 replace H : (if t242 = true then ((laws_markCounter.f kj24 t206 t209 1).bind fun bt243 => ((laws_markCounter.f kj24 t213 t216 bt243.1).bind fun bt246 => (if bt246.1 < 0 then (none) else ((laws_eqCounter.f kj24 t220 t223 t198 t201).bind fun t249 => (if t249 = true then (laws_FnExactMergeCounter.j1 kj24 t204 (t226 != t204) l0_0 l0_1 l1_0 l1_1 t198 t201 t220 t223) else (none)))))) else (none)) = some r := H
 have A98 := Aside0.mk A980
 clear A980
 by_cases c99 : t242 = true
 rotate_left
 ·replace c99 := Bool.eq_false_iff.mpr c99
  subst c99
  have H1 : (none) = some r := by rw [if_neg (show ¬ (false = true) by decide)] at H; exact H
  clear H
  have H := H1
  clear H1
  exact absurd H (by simp)
 subst c99
 have H1 : ((laws_markCounter.f kj24 t206 t209 1).bind fun bt243 => ((laws_markCounter.f kj24 t213 t216 bt243.1).bind fun bt246 => (if bt246.1 < 0 then (none) else ((laws_eqCounter.f kj24 t220 t223 t198 t201).bind fun t249 => (if t249 = true then (laws_FnExactMergeCounter.j1 kj24 t204 (t226 != t204) l0_0 l0_1 l1_0 l1_1 t198 t201 t220 t223) else (none)))))) = some r := by rw [if_pos rfl] at H; exact H
 clear H
 have H := H1
 clear H1
 replace H := Option.bind_eq_some_iff.mp H
 obtain ⟨⟨t243, t244, t245⟩, A1000, H⟩ := H
 replace H : ((laws_markCounter.f kj24 t213 t216 t243).bind fun bt246 => (if bt246.1 < 0 then (none) else ((laws_eqCounter.f kj24 t220 t223 t198 t201).bind fun t249 => (if t249 = true then (laws_FnExactMergeCounter.j1 kj24 t204 (t226 != t204) l0_0 l0_1 l1_0 l1_1 t198 t201 t220 t223) else (none))))) = some r := H
 have A100 := Aside0.mk A1000
 clear A1000
 replace H := Option.bind_eq_some_iff.mp H
 obtain ⟨⟨t246, t247, t248⟩, A1010, H⟩ := H
 replace H : (if t246 < 0 then (none) else ((laws_eqCounter.f kj24 t220 t223 t198 t201).bind fun t249 => (if t249 = true then (laws_FnExactMergeCounter.j1 kj24 t204 (t226 != t204) l0_0 l0_1 l1_0 l1_1 t198 t201 t220 t223) else (none)))) = some r := H
 have A101 := Aside0.mk A1010
 clear A1010
 have HC102 := Aside0.mk H
 clear H
 try go_wp2
 replace HO_206000 := Aside0.mk (Kd.R_drew HO_206000.out)
 replace HO_206001 := Aside0.mk (Kd.R_drew HO_206001.out)
 replace HO_213000 := Aside0.mk (Kd.R_drew HO_213000.out)
 replace HO_213001 := Aside0.mk (Kd.R_drew HO_213001.out)
 replace HO_220000 := Aside0.mk (Kd.R_drew HO_220000.out)
 replace HO_220001 := Aside0.mk (Kd.R_drew HO_220001.out)
 replace HO_228000 := Aside0.mk (Kd.R_drew HO_228000.out)
 replace HO_228001 := Aside0.mk (Kd.R_drew HO_228001.out)
 replace BK182 := Aside0.mk (blk_drew BK182.out)
 replace BK183 := Aside0.mk (blk_drew BK183.out)
 replace BK205 := Aside0.mk (blk_drew BK205.out)
 replace BK212 := Aside0.mk (blk_drew BK212.out)
 replace BK219 := Aside0.mk (blk_drew BK219.out)
 replace BK227 := Aside0.mk (blk_drew BK227.out)
 replace HB := Aside0.mk (below_drew1 HB.out)
 refine start_ (n := 5) (S := fun w' => w'.cell? ⟨gb212, 0, none⟩ = some (.slice Ao51 t206.length co51) ∧ w'.cell? ⟨gb212, 1, none⟩ = some (.slice Ao56 t209.length co56) ∧ w'.cell? ⟨gb182, 0, none⟩ = some (.slice A0_0 l0_0.length c0_0) ∧ w'.cell? ⟨gb182, 1, none⟩ = some (.slice A0_1 l0_1.length c0_1)) (ds := []) #[false, false, false, false, false] (by kernel_rfl) rfl rfl ⟨bc_ BK212.out 0, bc_ BK212.out 1, bc_ BK182.out 0, bc_ BK182.out 1⟩ (fun hHeld => ?_)
 generalize wc.drew = w103 at HO_206000 HO_206001 HO_213000 HO_213001 HO_220000 HO_220001 HO_228000 HO_228001 BK182 BK183 BK205 BK212 BK219 BK227 HB hHeld ⊢
 refine take_ (i := 0) (N := some 54) (v := ?_) (a' := ?_) #[true, false, false, false, false] rfl rfl (by kernel_rfl) (fun _ _ _ h => h) (Or.inl ⟨by rfl, ?_⟩) hHeld ?_ ?_
 rotate_left
 ·rintro w' ⟨s0, s1, s2, s3⟩
  go_simp
  with_reducible rfl
 rotate_left
 ·simp only [Act.put, List.setIfInBounds_toArray, List.set_cons_zero, List.set_cons_succ, i64_w, i32_w]
  rfl
 refine take_ (i := 1) (N := some 55) (v := ?_) (a' := ?_) #[true, true, false, false, false] rfl rfl (by kernel_rfl) (fun _ _ _ h => h) (Or.inl ⟨by rfl, ?_⟩) hHeld ?_ ?_
 rotate_left
 ·rintro w' ⟨s0, s1, s2, s3⟩
  go_simp
  with_reducible rfl
 rotate_left
 ·simp only [Act.put, List.setIfInBounds_toArray, List.set_cons_zero, List.set_cons_succ, i64_w, i32_w]
  rfl
 refine one_ (i := 2) (N := some 56) #[true, true, true, false, false] rfl rfl (by kernel_rfl) (by decide) (fun K hK => ?_)
 refine goes_ Try.func12 (by kernel_rfl) rfl #[.agg #[.slice A0_0 l0_0.length c0_0, .slice A0_1 l0_1.length c0_1]] (by rfl) rfl rfl nc_ ?_
 with_reducible refine (laws_toCounter.calls kj24 _ _ l0_0 _ _ l0_1 t229 t232 _ ?side1 ?side2 ?side3 ?side4 A94.out).mono ?_
 (case side1 => exact kc_ (Kd.C_below HR0_0.out HB.out))
 (case side2 => exact HC0_0.out)
 (case side3 => exact kc_ (Kd.C_below HR0_1.out HB.out))
 (case side4 => exact HC0_1.out)
 rintro e w104 ⟨v230, v233, rfl, ho0, ho1, hb⟩
 refine ⟨_, rfl, ?_⟩
 have HO231 := Aside0.mk (Kd.R_lower (rn_ (rn_ (rn_ (rn_ (rn_ (rn_ (rn_ (rn_ ho0 HO_206000.out) HO_206001.out) HO_213000.out) HO_213001.out) HO_220000.out) HO_220001.out) HO_228000.out) HO_228001.out) bz_)
 have HO234 := Aside0.mk (Kd.R_lower (rn_ (rn_ (rn_ (rn_ (rn_ (rn_ (rn_ (rn_ ho1 HO_206000.out) HO_206001.out) HO_213000.out) HO_213001.out) HO_220000.out) HO_220001.out) HO_228000.out) HO_228001.out) bz_)
 replace HO_206000 := rp2_ HO_206000 hb ho0 ho1
 replace HO_206001 := rp2_ HO_206001 hb ho0 ho1
 replace HO_213000 := rp2_ HO_213000 hb ho0 ho1
 replace HO_213001 := rp2_ HO_213001 hb ho0 ho1
 replace HO_220000 := rp2_ HO_220000 hb ho0 ho1
 replace HO_220001 := rp2_ HO_220001 hb ho0 ho1
 replace HO_228000 := rp2_ HO_228000 hb ho0 ho1
 replace HO_228001 := rp2_ HO_228001 hb ho0 ho1
 replace BK182 := bb_ BK182 hb
 replace BK183 := bb_ BK183 hb
 replace BK205 := bb_ BK205 hb
 replace BK212 := bb_ BK212 hb
 replace BK219 := bb_ BK219 hb
 replace BK227 := bb_ BK227 hb
 replace HB := Aside0.mk (below_step bl_ hb)
 clear hb ho0 ho1
 obtain ⟨Ao105, co105, eo105⟩ := Kd.R_slice HO231.out
 (first | subst eo105 | (injection eo105 with f1_ f2_ f3_; have f4_ := f1_.symm; have f5_ := f3_.symm; clear f1_ f2_ f3_; subst f4_; subst f5_))
 obtain ⟨Ao106, co106, eo106⟩ := Kd.R_slice HO234.out
 (first | subst eo106 | (injection eo106 with f1_ f2_ f3_; have f4_ := f1_.symm; have f5_ := f3_.symm; clear f1_ f2_ f3_; subst f4_; subst f5_))
 refine hK.out _ _ ⟨bc_ BK212.out 0, bc_ BK212.out 1, bc_ BK182.out 0, bc_ BK182.out 1⟩ (fun hHeld => ?_)
 clear hK K
 refine norm_ nn_ ?_
 refine one_ (i := 3) (N := some 57) #[true, true, true, true, false] rfl rfl (by kernel_rfl) (by decide) (fun K hK => ?_)
 refine goes_ Try.func14 (by kernel_rfl) rfl #[.agg #[.slice Ao51 t206.length co51, .slice Ao56 t209.length co56], .agg #[.slice Ao105 t229.length co105, .slice Ao106 t232.length co106]] (by rfl) rfl rfl nc_ ?_
 with_reducible refine (laws_eqCounter.calls kj24 _ _ t206 _ _ t209 _ _ t229 _ _ t232 true _ ?side1 ?side2 ?side3 ?side4 ?side5 ?side6 ?side7 ?side8 A95.out).mono ?_
 (case side1 => exact kc_ (Kd.R_reads' HO_213000.out).2.2)
 (case side2 => exact (Kd.R_reads' HO_213000.out).2.1)
 (case side3 => exact kc_ (Kd.R_reads' HO_213001.out).2.2)
 (case side4 => exact (Kd.R_reads' HO_213001.out).2.1)
 (case side5 => exact kc_ (Kd.R_reads' HO231.out).2.2)
 (case side6 => exact (Kd.R_reads' HO231.out).2.1)
 (case side7 => exact kc_ (Kd.R_reads' HO234.out).2.2)
 (case side8 => exact (Kd.R_reads' HO234.out).2.1)
 rintro e w107 ⟨rfl, hb⟩
 refine ⟨_, rfl, ?_⟩
 replace HO_206000 := rb_ HO_206000 hb
 replace HO_206001 := rb_ HO_206001 hb
 replace HO_213000 := rb_ HO_213000 hb
 replace HO_213001 := rb_ HO_213001 hb
 replace HO_220000 := rb_ HO_220000 hb
 replace HO_220001 := rb_ HO_220001 hb
 replace HO_228000 := rb_ HO_228000 hb
 replace HO_228001 := rb_ HO_228001 hb
 replace HO231 := rb_ HO231 hb
 replace HO234 := rb_ HO234 hb
 replace BK182 := bb_ BK182 hb
 replace BK183 := bb_ BK183 hb
 replace BK205 := bb_ BK205 hb
 replace BK212 := bb_ BK212 hb
 replace BK219 := bb_ BK219 hb
 replace BK227 := bb_ BK227 hb
 replace HB := Aside0.mk (below_step bl_ hb)
 clear hb
 refine hK.out _ _ ⟨bc_ BK212.out 0, bc_ BK212.out 1, bc_ BK182.out 0, bc_ BK182.out 1⟩ (fun hHeld => ?_)
 clear hK K
 refine norm_ nn_ ?_
 refine pure_ (i := 4) (N := some 58) (v := ?_) (a' := ?_) #[true, true, true, true, true] rfl rfl (by kernel_rfl) (fun _ _ _ h => h) (Or.inl ⟨by rfl, ?_⟩) ?_ ?_
 rotate_left
 ·intro w'
  go_simp
  with_reducible rfl
 rotate_left
 ·simp only [Act.put, List.setIfInBounds_toArray, List.set_cons_zero, List.set_cons_succ, i64_w, i32_w]
  rfl
 refine done_ (by kernel_rfl) ?_
 try go_wp2
 replace HO_206000 := Aside0.mk (Kd.R_drew HO_206000.out)
 replace HO_206001 := Aside0.mk (Kd.R_drew HO_206001.out)
 replace HO_213000 := Aside0.mk (Kd.R_drew HO_213000.out)
 replace HO_213001 := Aside0.mk (Kd.R_drew HO_213001.out)
 replace HO_220000 := Aside0.mk (Kd.R_drew HO_220000.out)
 replace HO_220001 := Aside0.mk (Kd.R_drew HO_220001.out)
 replace HO_228000 := Aside0.mk (Kd.R_drew HO_228000.out)
 replace HO_228001 := Aside0.mk (Kd.R_drew HO_228001.out)
 replace HO231 := Aside0.mk (Kd.R_drew HO231.out)
 replace HO234 := Aside0.mk (Kd.R_drew HO234.out)
 replace BK182 := Aside0.mk (blk_drew BK182.out)
 replace BK183 := Aside0.mk (blk_drew BK183.out)
 replace BK205 := Aside0.mk (blk_drew BK205.out)
 replace BK212 := Aside0.mk (blk_drew BK212.out)
 replace BK219 := Aside0.mk (blk_drew BK219.out)
 replace BK227 := Aside0.mk (blk_drew BK227.out)
 replace HB := Aside0.mk (below_drew1 HB.out)
 refine start_ (n := 5) (S := fun w' => w'.cell? ⟨gb219, 0, none⟩ = some (.slice Ao61 t213.length co61) ∧ w'.cell? ⟨gb219, 1, none⟩ = some (.slice Ao67 t216.length co67) ∧ w'.cell? ⟨gb183, 0, none⟩ = some (.slice A1_0 l1_0.length c1_0) ∧ w'.cell? ⟨gb183, 1, none⟩ = some (.slice A1_1 l1_1.length c1_1)) (ds := []) #[false, false, false, false, false] (by kernel_rfl) rfl rfl ⟨bc_ BK219.out 0, bc_ BK219.out 1, bc_ BK183.out 0, bc_ BK183.out 1⟩ (fun hHeld => ?_)
 generalize w107.drew = w108 at HO_206000 HO_206001 HO_213000 HO_213001 HO_220000 HO_220001 HO_228000 HO_228001 HO231 HO234 BK182 BK183 BK205 BK212 BK219 BK227 HB hHeld ⊢
 refine take_ (i := 0) (N := some 59) (v := ?_) (a' := ?_) #[true, false, false, false, false] rfl rfl (by kernel_rfl) (fun _ _ _ h => h) (Or.inl ⟨by rfl, ?_⟩) hHeld ?_ ?_
 rotate_left
 ·rintro w' ⟨s0, s1, s2, s3⟩
  go_simp
  with_reducible rfl
 rotate_left
 ·simp only [Act.put, List.setIfInBounds_toArray, List.set_cons_zero, List.set_cons_succ, i64_w, i32_w]
  rfl
 refine take_ (i := 1) (N := some 60) (v := ?_) (a' := ?_) #[true, true, false, false, false] rfl rfl (by kernel_rfl) (fun _ _ _ h => h) (Or.inl ⟨by rfl, ?_⟩) hHeld ?_ ?_
 rotate_left
 ·rintro w' ⟨s0, s1, s2, s3⟩
  go_simp
  with_reducible rfl
 rotate_left
 ·simp only [Act.put, List.setIfInBounds_toArray, List.set_cons_zero, List.set_cons_succ, i64_w, i32_w]
  rfl
 refine one_ (i := 2) (N := some 61) #[true, true, true, false, false] rfl rfl (by kernel_rfl) (by decide) (fun K hK => ?_)
 refine goes_ Try.func12 (by kernel_rfl) rfl #[.agg #[.slice A1_0 l1_0.length c1_0, .slice A1_1 l1_1.length c1_1]] (by rfl) rfl rfl nc_ ?_
 with_reducible refine (laws_toCounter.calls kj24 _ _ l1_0 _ _ l1_1 t236 t239 _ ?side1 ?side2 ?side3 ?side4 A97.out).mono ?_
 (case side1 => exact kc_ (Kd.C_below HR1_0.out HB.out))
 (case side2 => exact HC1_0.out)
 (case side3 => exact kc_ (Kd.C_below HR1_1.out HB.out))
 (case side4 => exact HC1_1.out)
 rintro e w109 ⟨v237, v240, rfl, ho0, ho1, hb⟩
 refine ⟨_, rfl, ?_⟩
 have HO238 := Aside0.mk (Kd.R_lower (Kd.R_new' (rn_ (rn_ (rn_ (rn_ (rn_ (rn_ (rn_ (rn_ (rn_ ho0 HO_206000.out) HO_206001.out) HO_213000.out) HO_213001.out) HO_220000.out) HO_220001.out) HO_228000.out) HO_228001.out) HO231.out) (Kd.R_lt (kr_ HO234.out))) bz_)
 have HO241 := Aside0.mk (Kd.R_lower (Kd.R_new' (rn_ (rn_ (rn_ (rn_ (rn_ (rn_ (rn_ (rn_ (rn_ ho1 HO_206000.out) HO_206001.out) HO_213000.out) HO_213001.out) HO_220000.out) HO_220001.out) HO_228000.out) HO_228001.out) HO231.out) (Kd.R_lt (kr_ HO234.out))) bz_)
 replace HO_206000 := rp2_ HO_206000 hb ho0 ho1
 replace HO_206001 := rp2_ HO_206001 hb ho0 ho1
 replace HO_213000 := rp2_ HO_213000 hb ho0 ho1
 replace HO_213001 := rp2_ HO_213001 hb ho0 ho1
 replace HO_220000 := rp2_ HO_220000 hb ho0 ho1
 replace HO_220001 := rp2_ HO_220001 hb ho0 ho1
 replace HO_228000 := rp2_ HO_228000 hb ho0 ho1
 replace HO_228001 := rp2_ HO_228001 hb ho0 ho1
 replace HO231 := rp2_ HO231 hb ho0 ho1
 replace HO234 := rp2_ HO234 hb ho0 ho1
 replace BK182 := bb_ BK182 hb
 replace BK183 := bb_ BK183 hb
 replace BK205 := bb_ BK205 hb
 replace BK212 := bb_ BK212 hb
 replace BK219 := bb_ BK219 hb
 replace BK227 := bb_ BK227 hb
 replace HB := Aside0.mk (below_step bl_ hb)
 clear hb ho0 ho1
 obtain ⟨Ao110, co110, eo110⟩ := Kd.R_slice HO238.out
 (first | subst eo110 | (injection eo110 with f1_ f2_ f3_; have f4_ := f1_.symm; have f5_ := f3_.symm; clear f1_ f2_ f3_; subst f4_; subst f5_))
 obtain ⟨Ao111, co111, eo111⟩ := Kd.R_slice HO241.out
 (first | subst eo111 | (injection eo111 with f1_ f2_ f3_; have f4_ := f1_.symm; have f5_ := f3_.symm; clear f1_ f2_ f3_; subst f4_; subst f5_))
 refine hK.out _ _ ⟨bc_ BK219.out 0, bc_ BK219.out 1, bc_ BK183.out 0, bc_ BK183.out 1⟩ (fun hHeld => ?_)
 clear hK K
 refine norm_ nn_ ?_
 refine one_ (i := 3) (N := some 62) #[true, true, true, true, false] rfl rfl (by kernel_rfl) (by decide) (fun K hK => ?_)
 refine goes_ Try.func14 (by kernel_rfl) rfl #[.agg #[.slice Ao61 t213.length co61, .slice Ao67 t216.length co67], .agg #[.slice Ao110 t236.length co110, .slice Ao111 t239.length co111]] (by rfl) rfl rfl nc_ ?_
 with_reducible refine (laws_eqCounter.calls kj24 _ _ t213 _ _ t216 _ _ t236 _ _ t239 true _ ?side1 ?side2 ?side3 ?side4 ?side5 ?side6 ?side7 ?side8 A98.out).mono ?_
 (case side1 => exact kc_ (Kd.R_reads' HO_220000.out).2.2)
 (case side2 => exact (Kd.R_reads' HO_220000.out).2.1)
 (case side3 => exact kc_ (Kd.R_reads' HO_220001.out).2.2)
 (case side4 => exact (Kd.R_reads' HO_220001.out).2.1)
 (case side5 => exact kc_ (Kd.R_reads' HO238.out).2.2)
 (case side6 => exact (Kd.R_reads' HO238.out).2.1)
 (case side7 => exact kc_ (Kd.R_reads' HO241.out).2.2)
 (case side8 => exact (Kd.R_reads' HO241.out).2.1)
 rintro e w112 ⟨rfl, hb⟩
 refine ⟨_, rfl, ?_⟩
 replace HO_206000 := rb_ HO_206000 hb
 replace HO_206001 := rb_ HO_206001 hb
 replace HO_213000 := rb_ HO_213000 hb
 replace HO_213001 := rb_ HO_213001 hb
 replace HO_220000 := rb_ HO_220000 hb
 replace HO_220001 := rb_ HO_220001 hb
 replace HO_228000 := rb_ HO_228000 hb
 replace HO_228001 := rb_ HO_228001 hb
 replace HO231 := rb_ HO231 hb
 replace HO234 := rb_ HO234 hb
 replace HO238 := rb_ HO238 hb
 replace HO241 := rb_ HO241 hb
 replace BK182 := bb_ BK182 hb
 replace BK183 := bb_ BK183 hb
 replace BK205 := bb_ BK205 hb
 replace BK212 := bb_ BK212 hb
 replace BK219 := bb_ BK219 hb
 replace BK227 := bb_ BK227 hb
 replace HB := Aside0.mk (below_step bl_ hb)
 clear hb
 refine hK.out _ _ ⟨bc_ BK219.out 0, bc_ BK219.out 1, bc_ BK183.out 0, bc_ BK183.out 1⟩ (fun hHeld => ?_)
 clear hK K
 refine norm_ nn_ ?_
 refine pure_ (i := 4) (N := some 63) (v := ?_) (a' := ?_) #[true, true, true, true, true] rfl rfl (by kernel_rfl) (fun _ _ _ h => h) (Or.inl ⟨by rfl, ?_⟩) ?_ ?_
 rotate_left
 ·intro w'
  go_simp
  with_reducible rfl
 rotate_left
 ·simp only [Act.put, List.setIfInBounds_toArray, List.set_cons_zero, List.set_cons_succ, i64_w, i32_w]
  rfl
 refine done_ (by kernel_rfl) ?_
 have hnb113 := NB212_182.out
 have hnc113 := NB182_212.out
 have hnb114 := NB212_183.out
 have hnc114 := NB183_212.out
 have hnb115 := NB212_205.out
 have hnc115 := NB205_212.out
 have hnb116 := NB212_219.out
 have hnc116 := NB219_212.out
 have hnb117 := NB212_227.out
 have hnc117 := NB227_212.out
 have hcz118_0 : w112.cell? ⟨gb212, 0, none⟩ = some (.slice Ao51 t206.length co51) := bc_ BK212.out 0
 have hcz118_1 : w112.cell? ⟨gb212, 1, none⟩ = some (.slice Ao56 t209.length co56) := bc_ BK212.out 1
 have hfz118_0 := blk_frozen BK212.out 0
 have hfz118_1 := blk_frozen BK212.out 1
 go_upto_region 21 with (first | ((with_reducible refine gate_callee (f := 25) rfl ?_); refine goesL_ (some 66) rfl rfl Try.func25 (by kernel_rfl) rfl #[.agg #[.slice Ao51 t206.length co51, .slice Ao56 t209.length co56], .int .i64 1] rfl nc_ ?_; (with_reducible refine (laws_markCounter.calls kj24 (fun k_ => some k_ = (.slice Ao51 t206.length co51 : Value).ownBlock) (.slice Ao51 t206.length co51) t206 (fun k_ => some k_ = (.slice Ao56 t209.length co56 : Value).ownBlock) (.slice Ao56 t209.length co56) t209 1 t243 t244 t245 w _ ?side1 ?side2 ?side3 ?side4 ?side5 A100.out).mono ?_); (case side1 => repeat (first | (with_reducible first | exact HB.out | apply below_alloc | apply pw_below_drewN | apply below_drew1 | refine below_set ?_ GE182.out | refine below_set ?_ GE183.out | refine below_set ?_ GE205.out | refine below_set ?_ GE212.out | refine below_set ?_ GE219.out | refine below_set ?_ GE227.out) | exact HB.out)); (case side2 => exact Kd.R_tight rfl HO_213000.out); (case side3 => exact fun k_ e_ => (HO_213000.out.1 k_ e_.symm).1.1.1.1.2.2.1); (case side4 => exact Kd.R_tight rfl HO_213001.out); (case side5 => exact fun k_ e_ => (HO_213001.out.1 k_ e_.symm).1.1.1.1.2.2.1); rintro e w119 ⟨rfl, hy0, hy1, hb, hkp⟩; refine ⟨_, rfl, ?_⟩; replace HO_206000 := Aside0.mk (Kd.R_mono (ok' := fun k_ => some k_ ≠ (.slice Ao45 t201.length co45 : Value).ownBlock ∧ some k_ ≠ (.slice Ao51 t206.length co51 : Value).ownBlock ∧ some k_ ≠ (.slice Ao56 t209.length co56 : Value).ownBlock ∧ some k_ ≠ (.slice Ao61 t213.length co61 : Value).ownBlock ∧ some k_ ≠ (.slice Ao67 t216.length co67 : Value).ownBlock ∧ some k_ ≠ (.slice Ao71 t220.length co71 : Value).ownBlock ∧ some k_ ≠ (.slice Ao78 t223.length co78 : Value).ownBlock ∧ some k_ ≠ (.slice Ao105 t229.length co105 : Value).ownBlock ∧ some k_ ≠ (.slice Ao106 t232.length co106 : Value).ownBlock ∧ some k_ ≠ (.slice Ao110 t236.length co110 : Value).ownBlock ∧ some k_ ≠ (.slice Ao111 t239.length co111 : Value).ownBlock) (Kd.R_keptB (HO_206000.out) hkp (fun k_ hk_ hs_ => Or.elim hs_ (fun e_ => (hk_.1.1.1.1.2.1) e_) (fun e_ => (hk_.1.1.1.1.2.2.1) e_))) (fun k_ hk_ => ⟨hk_.1.1.1.1.1.1, hk_.1.1.1.1.1.2.1, hk_.1.1.1.1.1.2.2.1, hk_.1.1.1.1.1.2.2.2.1, hk_.1.1.1.1.1.2.2.2.2.1, hk_.1.1.1.1.1.2.2.2.2.2.1, hk_.1.1.1.1.1.2.2.2.2.2.2, hk_.1.1.1.1.2, hk_.1.1.1.2, hk_.1.1.2, hk_.1.2⟩)); replace HO_206001 := Aside0.mk (Kd.R_mono (ok' := fun k_ => some k_ ≠ (.slice Ao43 t198.length co43 : Value).ownBlock ∧ some k_ ≠ (.slice Ao51 t206.length co51 : Value).ownBlock ∧ some k_ ≠ (.slice Ao56 t209.length co56 : Value).ownBlock ∧ some k_ ≠ (.slice Ao61 t213.length co61 : Value).ownBlock ∧ some k_ ≠ (.slice Ao67 t216.length co67 : Value).ownBlock ∧ some k_ ≠ (.slice Ao71 t220.length co71 : Value).ownBlock ∧ some k_ ≠ (.slice Ao78 t223.length co78 : Value).ownBlock ∧ some k_ ≠ (.slice Ao105 t229.length co105 : Value).ownBlock ∧ some k_ ≠ (.slice Ao106 t232.length co106 : Value).ownBlock ∧ some k_ ≠ (.slice Ao110 t236.length co110 : Value).ownBlock ∧ some k_ ≠ (.slice Ao111 t239.length co111 : Value).ownBlock) (Kd.R_keptB (HO_206001.out) hkp (fun k_ hk_ hs_ => Or.elim hs_ (fun e_ => (hk_.1.1.1.1.2.1) e_) (fun e_ => (hk_.1.1.1.1.2.2.1) e_))) (fun k_ hk_ => ⟨hk_.1.1.1.1.1.1, hk_.1.1.1.1.1.2.1, hk_.1.1.1.1.1.2.2.1, hk_.1.1.1.1.1.2.2.2.1, hk_.1.1.1.1.1.2.2.2.2.1, hk_.1.1.1.1.1.2.2.2.2.2.1, hk_.1.1.1.1.1.2.2.2.2.2.2, hk_.1.1.1.1.2, hk_.1.1.1.2, hk_.1.1.2, hk_.1.2⟩)); replace HO_220000 := Aside0.mk (Kd.R_mono (ok' := fun k_ => some k_ ≠ (.slice Ao43 t198.length co43 : Value).ownBlock ∧ some k_ ≠ (.slice Ao45 t201.length co45 : Value).ownBlock ∧ some k_ ≠ (.slice Ao51 t206.length co51 : Value).ownBlock ∧ some k_ ≠ (.slice Ao56 t209.length co56 : Value).ownBlock ∧ some k_ ≠ (.slice Ao67 t216.length co67 : Value).ownBlock ∧ some k_ ≠ (.slice Ao71 t220.length co71 : Value).ownBlock ∧ some k_ ≠ (.slice Ao78 t223.length co78 : Value).ownBlock ∧ some k_ ≠ (.slice Ao105 t229.length co105 : Value).ownBlock ∧ some k_ ≠ (.slice Ao106 t232.length co106 : Value).ownBlock ∧ some k_ ≠ (.slice Ao110 t236.length co110 : Value).ownBlock ∧ some k_ ≠ (.slice Ao111 t239.length co111 : Value).ownBlock) (Kd.R_keptB (HO_220000.out) hkp (fun k_ hk_ hs_ => Or.elim hs_ (fun e_ => (hk_.1.1.1.1.2.2.1) e_) (fun e_ => (hk_.1.1.1.1.2.2.2.1) e_))) (fun k_ hk_ => ⟨hk_.1.1.1.1.1.1, hk_.1.1.1.1.1.2.1, hk_.1.1.1.1.1.2.2.1, hk_.1.1.1.1.1.2.2.2.1, hk_.1.1.1.1.1.2.2.2.2.1, hk_.1.1.1.1.1.2.2.2.2.2.1, hk_.1.1.1.1.1.2.2.2.2.2.2, hk_.1.1.1.1.2, hk_.1.1.1.2, hk_.1.1.2, hk_.1.2⟩)); replace HO_220001 := Aside0.mk (Kd.R_mono (ok' := fun k_ => some k_ ≠ (.slice Ao43 t198.length co43 : Value).ownBlock ∧ some k_ ≠ (.slice Ao45 t201.length co45 : Value).ownBlock ∧ some k_ ≠ (.slice Ao51 t206.length co51 : Value).ownBlock ∧ some k_ ≠ (.slice Ao56 t209.length co56 : Value).ownBlock ∧ some k_ ≠ (.slice Ao61 t213.length co61 : Value).ownBlock ∧ some k_ ≠ (.slice Ao71 t220.length co71 : Value).ownBlock ∧ some k_ ≠ (.slice Ao78 t223.length co78 : Value).ownBlock ∧ some k_ ≠ (.slice Ao105 t229.length co105 : Value).ownBlock ∧ some k_ ≠ (.slice Ao106 t232.length co106 : Value).ownBlock ∧ some k_ ≠ (.slice Ao110 t236.length co110 : Value).ownBlock ∧ some k_ ≠ (.slice Ao111 t239.length co111 : Value).ownBlock) (Kd.R_keptB (HO_220001.out) hkp (fun k_ hk_ hs_ => Or.elim hs_ (fun e_ => (hk_.1.1.1.1.2.2.1) e_) (fun e_ => (hk_.1.1.1.1.2.2.2.1) e_))) (fun k_ hk_ => ⟨hk_.1.1.1.1.1.1, hk_.1.1.1.1.1.2.1, hk_.1.1.1.1.1.2.2.1, hk_.1.1.1.1.1.2.2.2.1, hk_.1.1.1.1.1.2.2.2.2.1, hk_.1.1.1.1.1.2.2.2.2.2.1, hk_.1.1.1.1.1.2.2.2.2.2.2, hk_.1.1.1.1.2, hk_.1.1.1.2, hk_.1.1.2, hk_.1.2⟩)); replace HO_228000 := Aside0.mk (Kd.R_mono (ok' := fun k_ => some k_ ≠ (.slice Ao43 t198.length co43 : Value).ownBlock ∧ some k_ ≠ (.slice Ao45 t201.length co45 : Value).ownBlock ∧ some k_ ≠ (.slice Ao51 t206.length co51 : Value).ownBlock ∧ some k_ ≠ (.slice Ao56 t209.length co56 : Value).ownBlock ∧ some k_ ≠ (.slice Ao61 t213.length co61 : Value).ownBlock ∧ some k_ ≠ (.slice Ao67 t216.length co67 : Value).ownBlock ∧ some k_ ≠ (.slice Ao78 t223.length co78 : Value).ownBlock ∧ some k_ ≠ (.slice Ao105 t229.length co105 : Value).ownBlock ∧ some k_ ≠ (.slice Ao106 t232.length co106 : Value).ownBlock ∧ some k_ ≠ (.slice Ao110 t236.length co110 : Value).ownBlock ∧ some k_ ≠ (.slice Ao111 t239.length co111 : Value).ownBlock) (Kd.R_keptB (HO_228000.out) hkp (fun k_ hk_ hs_ => Or.elim hs_ (fun e_ => (hk_.1.1.1.1.2.2.1) e_) (fun e_ => (hk_.1.1.1.1.2.2.2.1) e_))) (fun k_ hk_ => ⟨hk_.1.1.1.1.1.1, hk_.1.1.1.1.1.2.1, hk_.1.1.1.1.1.2.2.1, hk_.1.1.1.1.1.2.2.2.1, hk_.1.1.1.1.1.2.2.2.2.1, hk_.1.1.1.1.1.2.2.2.2.2.1, hk_.1.1.1.1.1.2.2.2.2.2.2, hk_.1.1.1.1.2, hk_.1.1.1.2, hk_.1.1.2, hk_.1.2⟩)); replace HO_228001 := Aside0.mk (Kd.R_mono (ok' := fun k_ => some k_ ≠ (.slice Ao43 t198.length co43 : Value).ownBlock ∧ some k_ ≠ (.slice Ao45 t201.length co45 : Value).ownBlock ∧ some k_ ≠ (.slice Ao51 t206.length co51 : Value).ownBlock ∧ some k_ ≠ (.slice Ao56 t209.length co56 : Value).ownBlock ∧ some k_ ≠ (.slice Ao61 t213.length co61 : Value).ownBlock ∧ some k_ ≠ (.slice Ao67 t216.length co67 : Value).ownBlock ∧ some k_ ≠ (.slice Ao71 t220.length co71 : Value).ownBlock ∧ some k_ ≠ (.slice Ao105 t229.length co105 : Value).ownBlock ∧ some k_ ≠ (.slice Ao106 t232.length co106 : Value).ownBlock ∧ some k_ ≠ (.slice Ao110 t236.length co110 : Value).ownBlock ∧ some k_ ≠ (.slice Ao111 t239.length co111 : Value).ownBlock) (Kd.R_keptB (HO_228001.out) hkp (fun k_ hk_ hs_ => Or.elim hs_ (fun e_ => (hk_.1.1.1.1.2.2.1) e_) (fun e_ => (hk_.1.1.1.1.2.2.2.1) e_))) (fun k_ hk_ => ⟨hk_.1.1.1.1.1.1, hk_.1.1.1.1.1.2.1, hk_.1.1.1.1.1.2.2.1, hk_.1.1.1.1.1.2.2.2.1, hk_.1.1.1.1.1.2.2.2.2.1, hk_.1.1.1.1.1.2.2.2.2.2.1, hk_.1.1.1.1.1.2.2.2.2.2.2, hk_.1.1.1.1.2, hk_.1.1.1.2, hk_.1.1.2, hk_.1.2⟩)); replace BK182 := Aside0.mk (blk_kept (kb_ BK182.out) hkp (fun hs_ => Or.elim hs_ (fun e_ => (fun e_ => (Kd.R_ne HO_213000.out BK182.out (by decide)) e_) e_) (fun e_ => (fun e_ => (Kd.R_ne HO_213001.out BK182.out (by decide)) e_) e_))); replace BK183 := Aside0.mk (blk_kept (kb_ BK183.out) hkp (fun hs_ => Or.elim hs_ (fun e_ => (fun e_ => (Kd.R_ne HO_213000.out BK183.out (by decide)) e_) e_) (fun e_ => (fun e_ => (Kd.R_ne HO_213001.out BK183.out (by decide)) e_) e_))); replace BK205 := Aside0.mk (blk_kept (kb_ BK205.out) hkp (fun hs_ => Or.elim hs_ (fun e_ => (fun e_ => (Kd.R_ne HO_213000.out BK205.out (by decide)) e_) e_) (fun e_ => (fun e_ => (Kd.R_ne HO_213001.out BK205.out (by decide)) e_) e_))); replace BK212 := Aside0.mk (blk_kept (kb_ BK212.out) hkp (fun hs_ => Or.elim hs_ (fun e_ => (fun e_ => (Kd.R_ne HO_213000.out BK212.out (by decide)) e_) e_) (fun e_ => (fun e_ => (Kd.R_ne HO_213001.out BK212.out (by decide)) e_) e_))); replace BK219 := Aside0.mk (blk_kept (kb_ BK219.out) hkp (fun hs_ => Or.elim hs_ (fun e_ => (fun e_ => (Kd.R_ne HO_213000.out BK219.out (by decide)) e_) e_) (fun e_ => (fun e_ => (Kd.R_ne HO_213001.out BK219.out (by decide)) e_) e_))); replace BK227 := Aside0.mk (blk_kept (kb_ BK227.out) hkp (fun hs_ => Or.elim hs_ (fun e_ => (fun e_ => (Kd.R_ne HO_213000.out BK227.out (by decide)) e_) e_) (fun e_ => (fun e_ => (Kd.R_ne HO_213001.out BK227.out (by decide)) e_) e_))); replace HO_213000 := Aside0.mk (Kd.R_reok rfl hy0 (fun k_ e_ => HO_213000.out.1 k_ e_)); replace HO_213001 := Aside0.mk (Kd.R_reok rfl hy1 (fun k_ e_ => HO_213001.out.1 k_ e_)); replace HO231 := Aside0.mk (Kd.R_mono (ok' := fun k_ => some k_ ≠ (.slice Ao43 t198.length co43 : Value).ownBlock ∧ some k_ ≠ (.slice Ao45 t201.length co45 : Value).ownBlock ∧ some k_ ≠ (.slice Ao51 t206.length co51 : Value).ownBlock ∧ some k_ ≠ (.slice Ao56 t209.length co56 : Value).ownBlock ∧ some k_ ≠ (.slice Ao61 t213.length co61 : Value).ownBlock ∧ some k_ ≠ (.slice Ao67 t216.length co67 : Value).ownBlock ∧ some k_ ≠ (.slice Ao71 t220.length co71 : Value).ownBlock ∧ some k_ ≠ (.slice Ao78 t223.length co78 : Value).ownBlock ∧ some k_ ≠ (.slice Ao106 t232.length co106 : Value).ownBlock ∧ some k_ ≠ (.slice Ao110 t236.length co110 : Value).ownBlock ∧ some k_ ≠ (.slice Ao111 t239.length co111 : Value).ownBlock) (Kd.R_keptB (HO231.out) hkp (fun k_ hk_ hs_ => Or.elim hs_ (fun e_ => (hk_.1.1.1.1.1.1.1.2) e_) (fun e_ => (hk_.1.1.1.1.1.1.2) e_))) (fun k_ hk_ => ⟨hk_.1.1.1.1.1.1.1.1.1.1.2, hk_.1.1.1.1.1.1.1.1.1.2, hk_.1.1.1.1.1.1.1.1.2, hk_.1.1.1.1.1.1.1.2, hk_.1.1.1.1.1.1.2, hk_.1.1.1.1.1.2, hk_.1.1.1.1.2, hk_.1.1.1.2, hk_.1.1.1.1.1.1.1.1.1.1.1, hk_.1.1.2, hk_.1.2⟩)); replace HO234 := Aside0.mk (Kd.R_mono (ok' := fun k_ => some k_ ≠ (.slice Ao43 t198.length co43 : Value).ownBlock ∧ some k_ ≠ (.slice Ao45 t201.length co45 : Value).ownBlock ∧ some k_ ≠ (.slice Ao51 t206.length co51 : Value).ownBlock ∧ some k_ ≠ (.slice Ao56 t209.length co56 : Value).ownBlock ∧ some k_ ≠ (.slice Ao61 t213.length co61 : Value).ownBlock ∧ some k_ ≠ (.slice Ao67 t216.length co67 : Value).ownBlock ∧ some k_ ≠ (.slice Ao71 t220.length co71 : Value).ownBlock ∧ some k_ ≠ (.slice Ao78 t223.length co78 : Value).ownBlock ∧ some k_ ≠ (.slice Ao105 t229.length co105 : Value).ownBlock ∧ some k_ ≠ (.slice Ao110 t236.length co110 : Value).ownBlock ∧ some k_ ≠ (.slice Ao111 t239.length co111 : Value).ownBlock) (Kd.R_keptB (HO234.out) hkp (fun k_ hk_ hs_ => Or.elim hs_ (fun e_ => (hk_.1.1.1.1.1.1.1.2) e_) (fun e_ => (hk_.1.1.1.1.1.1.2) e_))) (fun k_ hk_ => ⟨hk_.1.1.1.1.1.1.1.1.1.1.2, hk_.1.1.1.1.1.1.1.1.1.2, hk_.1.1.1.1.1.1.1.1.2, hk_.1.1.1.1.1.1.1.2, hk_.1.1.1.1.1.1.2, hk_.1.1.1.1.1.2, hk_.1.1.1.1.2, hk_.1.1.1.2, hk_.1.1.1.1.1.1.1.1.1.1.1, hk_.1.1.2, hk_.1.2⟩)); replace HO238 := Aside0.mk (Kd.R_mono (ok' := fun k_ => some k_ ≠ (.slice Ao43 t198.length co43 : Value).ownBlock ∧ some k_ ≠ (.slice Ao45 t201.length co45 : Value).ownBlock ∧ some k_ ≠ (.slice Ao51 t206.length co51 : Value).ownBlock ∧ some k_ ≠ (.slice Ao56 t209.length co56 : Value).ownBlock ∧ some k_ ≠ (.slice Ao61 t213.length co61 : Value).ownBlock ∧ some k_ ≠ (.slice Ao67 t216.length co67 : Value).ownBlock ∧ some k_ ≠ (.slice Ao71 t220.length co71 : Value).ownBlock ∧ some k_ ≠ (.slice Ao78 t223.length co78 : Value).ownBlock ∧ some k_ ≠ (.slice Ao105 t229.length co105 : Value).ownBlock ∧ some k_ ≠ (.slice Ao106 t232.length co106 : Value).ownBlock ∧ some k_ ≠ (.slice Ao111 t239.length co111 : Value).ownBlock) (Kd.R_keptB (HO238.out) hkp (fun k_ hk_ hs_ => Or.elim hs_ (fun e_ => (hk_.1.1.1.1.1.1.1.2) e_) (fun e_ => (hk_.1.1.1.1.1.1.2) e_))) (fun k_ hk_ => ⟨hk_.1.1.1.1.1.1.1.1.1.1.2, hk_.1.1.1.1.1.1.1.1.1.2, hk_.1.1.1.1.1.1.1.1.2, hk_.1.1.1.1.1.1.1.2, hk_.1.1.1.1.1.1.2, hk_.1.1.1.1.1.2, hk_.1.1.1.1.2, hk_.1.1.1.2, hk_.1.1.2, hk_.1.2, hk_.1.1.1.1.1.1.1.1.1.1.1⟩)); replace HO241 := Aside0.mk (Kd.R_mono (ok' := fun k_ => some k_ ≠ (.slice Ao43 t198.length co43 : Value).ownBlock ∧ some k_ ≠ (.slice Ao45 t201.length co45 : Value).ownBlock ∧ some k_ ≠ (.slice Ao51 t206.length co51 : Value).ownBlock ∧ some k_ ≠ (.slice Ao56 t209.length co56 : Value).ownBlock ∧ some k_ ≠ (.slice Ao61 t213.length co61 : Value).ownBlock ∧ some k_ ≠ (.slice Ao67 t216.length co67 : Value).ownBlock ∧ some k_ ≠ (.slice Ao71 t220.length co71 : Value).ownBlock ∧ some k_ ≠ (.slice Ao78 t223.length co78 : Value).ownBlock ∧ some k_ ≠ (.slice Ao105 t229.length co105 : Value).ownBlock ∧ some k_ ≠ (.slice Ao106 t232.length co106 : Value).ownBlock ∧ some k_ ≠ (.slice Ao110 t236.length co110 : Value).ownBlock) (Kd.R_keptB (HO241.out) hkp (fun k_ hk_ hs_ => Or.elim hs_ (fun e_ => (hk_.1.1.1.1.1.1.1.2) e_) (fun e_ => (hk_.1.1.1.1.1.1.2) e_))) (fun k_ hk_ => ⟨hk_.1.1.1.1.1.1.1.1.1.1.2, hk_.1.1.1.1.1.1.1.1.1.2, hk_.1.1.1.1.1.1.1.1.2, hk_.1.1.1.1.1.1.1.2, hk_.1.1.1.1.1.1.2, hk_.1.1.1.1.1.2, hk_.1.1.1.1.2, hk_.1.1.1.2, hk_.1.1.2, hk_.1.2, hk_.1.1.1.1.1.1.1.1.1.1.1⟩)); replace HB := Aside0.mk (hb); clear hb; have hnb120 := NB219_182.out; have hnc120 := NB182_219.out; have hnb121 := NB219_183.out; have hnc121 := NB183_219.out; have hnb122 := NB219_205.out; have hnc122 := NB205_219.out; have hnb123 := NB219_227.out; have hnc123 := NB227_219.out; have hcz124_0 : w119.cell? ⟨gb219, 0, none⟩ = some (.slice Ao61 t213.length co61) := bc_ BK219.out 0; have hcz124_1 : w119.cell? ⟨gb219, 1, none⟩ = some (.slice Ao67 t216.length co67) := bc_ BK219.out 1; have hfz124_0 := blk_frozen BK219.out 0; have hfz124_1 := blk_frozen BK219.out 1) | ((with_reducible refine gate_callee (f := 25) rfl ?_); refine goesL_ (some 69) rfl rfl Try.func25 (by kernel_rfl) rfl #[.agg #[.slice Ao61 t213.length co61, .slice Ao67 t216.length co67], .int .i64 t243] rfl nc_ ?_; (with_reducible refine (laws_markCounter.calls kj24 (fun k_ => some k_ = (.slice Ao61 t213.length co61 : Value).ownBlock) (.slice Ao61 t213.length co61) t213 (fun k_ => some k_ = (.slice Ao67 t216.length co67 : Value).ownBlock) (.slice Ao67 t216.length co67) t216 t243 t246 t247 t248 w _ ?side1 ?side2 ?side3 ?side4 ?side5 A101.out).mono ?_); (case side1 => repeat (first | (with_reducible first | exact HB.out | apply below_alloc | apply pw_below_drewN | apply below_drew1 | refine below_set ?_ GE182.out | refine below_set ?_ GE183.out | refine below_set ?_ GE205.out | refine below_set ?_ GE212.out | refine below_set ?_ GE219.out | refine below_set ?_ GE227.out) | exact HB.out)); (case side2 => exact Kd.R_tight rfl HO_220000.out); (case side3 => exact fun k_ e_ => (HO_220000.out.1 k_ e_.symm).2.2.2.2.1); (case side4 => exact Kd.R_tight rfl HO_220001.out); (case side5 => exact fun k_ e_ => (HO_220001.out.1 k_ e_.symm).2.2.2.2.1); rintro e w125 ⟨rfl, hy0, hy1, hb, hkp⟩; refine ⟨_, rfl, ?_⟩; replace HO_206000 := Aside0.mk (Kd.R_mono (ok' := fun k_ => some k_ ≠ (.slice Ao45 t201.length co45 : Value).ownBlock ∧ some k_ ≠ (.slice Ao51 t206.length co51 : Value).ownBlock ∧ some k_ ≠ (.slice Ao56 t209.length co56 : Value).ownBlock ∧ some k_ ≠ (.slice Ao61 t213.length co61 : Value).ownBlock ∧ some k_ ≠ (.slice Ao67 t216.length co67 : Value).ownBlock ∧ some k_ ≠ (.slice Ao71 t220.length co71 : Value).ownBlock ∧ some k_ ≠ (.slice Ao78 t223.length co78 : Value).ownBlock ∧ some k_ ≠ (.slice Ao105 t229.length co105 : Value).ownBlock ∧ some k_ ≠ (.slice Ao106 t232.length co106 : Value).ownBlock ∧ some k_ ≠ (.slice Ao110 t236.length co110 : Value).ownBlock ∧ some k_ ≠ (.slice Ao111 t239.length co111 : Value).ownBlock) (Kd.R_keptB (HO_206000.out) hkp (fun k_ hk_ hs_ => Or.elim hs_ (fun e_ => (hk_.2.2.2.1) e_) (fun e_ => (hk_.2.2.2.2.1) e_))) (fun k_ hk_ => ⟨hk_.1.1, hk_.1.2.1, hk_.1.2.2.1, hk_.1.2.2.2.1, hk_.1.2.2.2.2.1, hk_.1.2.2.2.2.2.1, hk_.1.2.2.2.2.2.2.1, hk_.1.2.2.2.2.2.2.2.1, hk_.1.2.2.2.2.2.2.2.2.1, hk_.1.2.2.2.2.2.2.2.2.2.1, hk_.1.2.2.2.2.2.2.2.2.2.2⟩)); replace HO_206001 := Aside0.mk (Kd.R_mono (ok' := fun k_ => some k_ ≠ (.slice Ao43 t198.length co43 : Value).ownBlock ∧ some k_ ≠ (.slice Ao51 t206.length co51 : Value).ownBlock ∧ some k_ ≠ (.slice Ao56 t209.length co56 : Value).ownBlock ∧ some k_ ≠ (.slice Ao61 t213.length co61 : Value).ownBlock ∧ some k_ ≠ (.slice Ao67 t216.length co67 : Value).ownBlock ∧ some k_ ≠ (.slice Ao71 t220.length co71 : Value).ownBlock ∧ some k_ ≠ (.slice Ao78 t223.length co78 : Value).ownBlock ∧ some k_ ≠ (.slice Ao105 t229.length co105 : Value).ownBlock ∧ some k_ ≠ (.slice Ao106 t232.length co106 : Value).ownBlock ∧ some k_ ≠ (.slice Ao110 t236.length co110 : Value).ownBlock ∧ some k_ ≠ (.slice Ao111 t239.length co111 : Value).ownBlock) (Kd.R_keptB (HO_206001.out) hkp (fun k_ hk_ hs_ => Or.elim hs_ (fun e_ => (hk_.2.2.2.1) e_) (fun e_ => (hk_.2.2.2.2.1) e_))) (fun k_ hk_ => ⟨hk_.1.1, hk_.1.2.1, hk_.1.2.2.1, hk_.1.2.2.2.1, hk_.1.2.2.2.2.1, hk_.1.2.2.2.2.2.1, hk_.1.2.2.2.2.2.2.1, hk_.1.2.2.2.2.2.2.2.1, hk_.1.2.2.2.2.2.2.2.2.1, hk_.1.2.2.2.2.2.2.2.2.2.1, hk_.1.2.2.2.2.2.2.2.2.2.2⟩)); replace HO_213000 := Aside0.mk (Kd.R_mono (ok' := fun k_ => some k_ ≠ (.slice Ao43 t198.length co43 : Value).ownBlock ∧ some k_ ≠ (.slice Ao45 t201.length co45 : Value).ownBlock ∧ some k_ ≠ (.slice Ao56 t209.length co56 : Value).ownBlock ∧ some k_ ≠ (.slice Ao61 t213.length co61 : Value).ownBlock ∧ some k_ ≠ (.slice Ao67 t216.length co67 : Value).ownBlock ∧ some k_ ≠ (.slice Ao71 t220.length co71 : Value).ownBlock ∧ some k_ ≠ (.slice Ao78 t223.length co78 : Value).ownBlock ∧ some k_ ≠ (.slice Ao105 t229.length co105 : Value).ownBlock ∧ some k_ ≠ (.slice Ao106 t232.length co106 : Value).ownBlock ∧ some k_ ≠ (.slice Ao110 t236.length co110 : Value).ownBlock ∧ some k_ ≠ (.slice Ao111 t239.length co111 : Value).ownBlock) (Kd.R_keptB (HO_213000.out) hkp (fun k_ hk_ hs_ => Or.elim hs_ (fun e_ => (hk_.1.1.1.1.2.2.2.1) e_) (fun e_ => (hk_.1.1.1.1.2.2.2.2.1) e_))) (fun k_ hk_ => ⟨hk_.1.1.1.1.1.1, hk_.1.1.1.1.1.2.1, hk_.1.1.1.1.1.2.2.1, hk_.1.1.1.1.1.2.2.2.1, hk_.1.1.1.1.1.2.2.2.2.1, hk_.1.1.1.1.1.2.2.2.2.2.1, hk_.1.1.1.1.1.2.2.2.2.2.2, hk_.1.1.1.1.2, hk_.1.1.1.2, hk_.1.1.2, hk_.1.2⟩)); replace HO_213001 := Aside0.mk (Kd.R_mono (ok' := fun k_ => some k_ ≠ (.slice Ao43 t198.length co43 : Value).ownBlock ∧ some k_ ≠ (.slice Ao45 t201.length co45 : Value).ownBlock ∧ some k_ ≠ (.slice Ao51 t206.length co51 : Value).ownBlock ∧ some k_ ≠ (.slice Ao61 t213.length co61 : Value).ownBlock ∧ some k_ ≠ (.slice Ao67 t216.length co67 : Value).ownBlock ∧ some k_ ≠ (.slice Ao71 t220.length co71 : Value).ownBlock ∧ some k_ ≠ (.slice Ao78 t223.length co78 : Value).ownBlock ∧ some k_ ≠ (.slice Ao105 t229.length co105 : Value).ownBlock ∧ some k_ ≠ (.slice Ao106 t232.length co106 : Value).ownBlock ∧ some k_ ≠ (.slice Ao110 t236.length co110 : Value).ownBlock ∧ some k_ ≠ (.slice Ao111 t239.length co111 : Value).ownBlock) (Kd.R_keptB (HO_213001.out) hkp (fun k_ hk_ hs_ => Or.elim hs_ (fun e_ => (hk_.1.1.1.1.2.2.2.1) e_) (fun e_ => (hk_.1.1.1.1.2.2.2.2.1) e_))) (fun k_ hk_ => ⟨hk_.1.1.1.1.1.1, hk_.1.1.1.1.1.2.1, hk_.1.1.1.1.1.2.2.1, hk_.1.1.1.1.1.2.2.2.1, hk_.1.1.1.1.1.2.2.2.2.1, hk_.1.1.1.1.1.2.2.2.2.2.1, hk_.1.1.1.1.1.2.2.2.2.2.2, hk_.1.1.1.1.2, hk_.1.1.1.2, hk_.1.1.2, hk_.1.2⟩)); replace HO_228000 := Aside0.mk (Kd.R_mono (ok' := fun k_ => some k_ ≠ (.slice Ao43 t198.length co43 : Value).ownBlock ∧ some k_ ≠ (.slice Ao45 t201.length co45 : Value).ownBlock ∧ some k_ ≠ (.slice Ao51 t206.length co51 : Value).ownBlock ∧ some k_ ≠ (.slice Ao56 t209.length co56 : Value).ownBlock ∧ some k_ ≠ (.slice Ao61 t213.length co61 : Value).ownBlock ∧ some k_ ≠ (.slice Ao67 t216.length co67 : Value).ownBlock ∧ some k_ ≠ (.slice Ao78 t223.length co78 : Value).ownBlock ∧ some k_ ≠ (.slice Ao105 t229.length co105 : Value).ownBlock ∧ some k_ ≠ (.slice Ao106 t232.length co106 : Value).ownBlock ∧ some k_ ≠ (.slice Ao110 t236.length co110 : Value).ownBlock ∧ some k_ ≠ (.slice Ao111 t239.length co111 : Value).ownBlock) (Kd.R_keptB (HO_228000.out) hkp (fun k_ hk_ hs_ => Or.elim hs_ (fun e_ => (hk_.2.2.2.2.1) e_) (fun e_ => (hk_.2.2.2.2.2.1) e_))) (fun k_ hk_ => ⟨hk_.1.1, hk_.1.2.1, hk_.1.2.2.1, hk_.1.2.2.2.1, hk_.1.2.2.2.2.1, hk_.1.2.2.2.2.2.1, hk_.1.2.2.2.2.2.2.1, hk_.1.2.2.2.2.2.2.2.1, hk_.1.2.2.2.2.2.2.2.2.1, hk_.1.2.2.2.2.2.2.2.2.2.1, hk_.1.2.2.2.2.2.2.2.2.2.2⟩)); replace HO_228001 := Aside0.mk (Kd.R_mono (ok' := fun k_ => some k_ ≠ (.slice Ao43 t198.length co43 : Value).ownBlock ∧ some k_ ≠ (.slice Ao45 t201.length co45 : Value).ownBlock ∧ some k_ ≠ (.slice Ao51 t206.length co51 : Value).ownBlock ∧ some k_ ≠ (.slice Ao56 t209.length co56 : Value).ownBlock ∧ some k_ ≠ (.slice Ao61 t213.length co61 : Value).ownBlock ∧ some k_ ≠ (.slice Ao67 t216.length co67 : Value).ownBlock ∧ some k_ ≠ (.slice Ao71 t220.length co71 : Value).ownBlock ∧ some k_ ≠ (.slice Ao105 t229.length co105 : Value).ownBlock ∧ some k_ ≠ (.slice Ao106 t232.length co106 : Value).ownBlock ∧ some k_ ≠ (.slice Ao110 t236.length co110 : Value).ownBlock ∧ some k_ ≠ (.slice Ao111 t239.length co111 : Value).ownBlock) (Kd.R_keptB (HO_228001.out) hkp (fun k_ hk_ hs_ => Or.elim hs_ (fun e_ => (hk_.2.2.2.2.1) e_) (fun e_ => (hk_.2.2.2.2.2.1) e_))) (fun k_ hk_ => ⟨hk_.1.1, hk_.1.2.1, hk_.1.2.2.1, hk_.1.2.2.2.1, hk_.1.2.2.2.2.1, hk_.1.2.2.2.2.2.1, hk_.1.2.2.2.2.2.2.1, hk_.1.2.2.2.2.2.2.2.1, hk_.1.2.2.2.2.2.2.2.2.1, hk_.1.2.2.2.2.2.2.2.2.2.1, hk_.1.2.2.2.2.2.2.2.2.2.2⟩)); replace BK182 := Aside0.mk (blk_kept (kb_ BK182.out) hkp (fun hs_ => Or.elim hs_ (fun e_ => (fun e_ => (Kd.R_ne HO_220000.out BK182.out (by decide)) e_) e_) (fun e_ => (fun e_ => (Kd.R_ne HO_220001.out BK182.out (by decide)) e_) e_))); replace BK183 := Aside0.mk (blk_kept (kb_ BK183.out) hkp (fun hs_ => Or.elim hs_ (fun e_ => (fun e_ => (Kd.R_ne HO_220000.out BK183.out (by decide)) e_) e_) (fun e_ => (fun e_ => (Kd.R_ne HO_220001.out BK183.out (by decide)) e_) e_))); replace BK205 := Aside0.mk (blk_kept (kb_ BK205.out) hkp (fun hs_ => Or.elim hs_ (fun e_ => (fun e_ => (Kd.R_ne HO_220000.out BK205.out (by decide)) e_) e_) (fun e_ => (fun e_ => (Kd.R_ne HO_220001.out BK205.out (by decide)) e_) e_))); replace BK212 := Aside0.mk (blk_kept (kb_ BK212.out) hkp (fun hs_ => Or.elim hs_ (fun e_ => (fun e_ => (Kd.R_ne HO_220000.out BK212.out (by decide)) e_) e_) (fun e_ => (fun e_ => (Kd.R_ne HO_220001.out BK212.out (by decide)) e_) e_))); replace BK219 := Aside0.mk (blk_kept (kb_ BK219.out) hkp (fun hs_ => Or.elim hs_ (fun e_ => (fun e_ => (Kd.R_ne HO_220000.out BK219.out (by decide)) e_) e_) (fun e_ => (fun e_ => (Kd.R_ne HO_220001.out BK219.out (by decide)) e_) e_))); replace BK227 := Aside0.mk (blk_kept (kb_ BK227.out) hkp (fun hs_ => Or.elim hs_ (fun e_ => (fun e_ => (Kd.R_ne HO_220000.out BK227.out (by decide)) e_) e_) (fun e_ => (fun e_ => (Kd.R_ne HO_220001.out BK227.out (by decide)) e_) e_))); replace HO_220000 := Aside0.mk (Kd.R_reok rfl hy0 (fun k_ e_ => HO_220000.out.1 k_ e_)); replace HO_220001 := Aside0.mk (Kd.R_reok rfl hy1 (fun k_ e_ => HO_220001.out.1 k_ e_)); replace HO231 := Aside0.mk (Kd.R_mono (ok' := fun k_ => some k_ ≠ (.slice Ao43 t198.length co43 : Value).ownBlock ∧ some k_ ≠ (.slice Ao45 t201.length co45 : Value).ownBlock ∧ some k_ ≠ (.slice Ao51 t206.length co51 : Value).ownBlock ∧ some k_ ≠ (.slice Ao56 t209.length co56 : Value).ownBlock ∧ some k_ ≠ (.slice Ao61 t213.length co61 : Value).ownBlock ∧ some k_ ≠ (.slice Ao67 t216.length co67 : Value).ownBlock ∧ some k_ ≠ (.slice Ao71 t220.length co71 : Value).ownBlock ∧ some k_ ≠ (.slice Ao78 t223.length co78 : Value).ownBlock ∧ some k_ ≠ (.slice Ao106 t232.length co106 : Value).ownBlock ∧ some k_ ≠ (.slice Ao110 t236.length co110 : Value).ownBlock ∧ some k_ ≠ (.slice Ao111 t239.length co111 : Value).ownBlock) (Kd.R_keptB (HO231.out) hkp (fun k_ hk_ hs_ => Or.elim hs_ (fun e_ => (hk_.2.2.2.2.1) e_) (fun e_ => (hk_.2.2.2.2.2.1) e_))) (fun k_ hk_ => ⟨hk_.1.1, hk_.1.2.1, hk_.1.2.2.1, hk_.1.2.2.2.1, hk_.1.2.2.2.2.1, hk_.1.2.2.2.2.2.1, hk_.1.2.2.2.2.2.2.1, hk_.1.2.2.2.2.2.2.2.1, hk_.1.2.2.2.2.2.2.2.2.1, hk_.1.2.2.2.2.2.2.2.2.2.1, hk_.1.2.2.2.2.2.2.2.2.2.2⟩)); replace HO234 := Aside0.mk (Kd.R_mono (ok' := fun k_ => some k_ ≠ (.slice Ao43 t198.length co43 : Value).ownBlock ∧ some k_ ≠ (.slice Ao45 t201.length co45 : Value).ownBlock ∧ some k_ ≠ (.slice Ao51 t206.length co51 : Value).ownBlock ∧ some k_ ≠ (.slice Ao56 t209.length co56 : Value).ownBlock ∧ some k_ ≠ (.slice Ao61 t213.length co61 : Value).ownBlock ∧ some k_ ≠ (.slice Ao67 t216.length co67 : Value).ownBlock ∧ some k_ ≠ (.slice Ao71 t220.length co71 : Value).ownBlock ∧ some k_ ≠ (.slice Ao78 t223.length co78 : Value).ownBlock ∧ some k_ ≠ (.slice Ao105 t229.length co105 : Value).ownBlock ∧ some k_ ≠ (.slice Ao110 t236.length co110 : Value).ownBlock ∧ some k_ ≠ (.slice Ao111 t239.length co111 : Value).ownBlock) (Kd.R_keptB (HO234.out) hkp (fun k_ hk_ hs_ => Or.elim hs_ (fun e_ => (hk_.2.2.2.2.1) e_) (fun e_ => (hk_.2.2.2.2.2.1) e_))) (fun k_ hk_ => ⟨hk_.1.1, hk_.1.2.1, hk_.1.2.2.1, hk_.1.2.2.2.1, hk_.1.2.2.2.2.1, hk_.1.2.2.2.2.2.1, hk_.1.2.2.2.2.2.2.1, hk_.1.2.2.2.2.2.2.2.1, hk_.1.2.2.2.2.2.2.2.2.1, hk_.1.2.2.2.2.2.2.2.2.2.1, hk_.1.2.2.2.2.2.2.2.2.2.2⟩)); replace HO238 := Aside0.mk (Kd.R_mono (ok' := fun k_ => some k_ ≠ (.slice Ao43 t198.length co43 : Value).ownBlock ∧ some k_ ≠ (.slice Ao45 t201.length co45 : Value).ownBlock ∧ some k_ ≠ (.slice Ao51 t206.length co51 : Value).ownBlock ∧ some k_ ≠ (.slice Ao56 t209.length co56 : Value).ownBlock ∧ some k_ ≠ (.slice Ao61 t213.length co61 : Value).ownBlock ∧ some k_ ≠ (.slice Ao67 t216.length co67 : Value).ownBlock ∧ some k_ ≠ (.slice Ao71 t220.length co71 : Value).ownBlock ∧ some k_ ≠ (.slice Ao78 t223.length co78 : Value).ownBlock ∧ some k_ ≠ (.slice Ao105 t229.length co105 : Value).ownBlock ∧ some k_ ≠ (.slice Ao106 t232.length co106 : Value).ownBlock ∧ some k_ ≠ (.slice Ao111 t239.length co111 : Value).ownBlock) (Kd.R_keptB (HO238.out) hkp (fun k_ hk_ hs_ => Or.elim hs_ (fun e_ => (hk_.2.2.2.2.1) e_) (fun e_ => (hk_.2.2.2.2.2.1) e_))) (fun k_ hk_ => ⟨hk_.1.1, hk_.1.2.1, hk_.1.2.2.1, hk_.1.2.2.2.1, hk_.1.2.2.2.2.1, hk_.1.2.2.2.2.2.1, hk_.1.2.2.2.2.2.2.1, hk_.1.2.2.2.2.2.2.2.1, hk_.1.2.2.2.2.2.2.2.2.1, hk_.1.2.2.2.2.2.2.2.2.2.1, hk_.1.2.2.2.2.2.2.2.2.2.2⟩)); replace HO241 := Aside0.mk (Kd.R_mono (ok' := fun k_ => some k_ ≠ (.slice Ao43 t198.length co43 : Value).ownBlock ∧ some k_ ≠ (.slice Ao45 t201.length co45 : Value).ownBlock ∧ some k_ ≠ (.slice Ao51 t206.length co51 : Value).ownBlock ∧ some k_ ≠ (.slice Ao56 t209.length co56 : Value).ownBlock ∧ some k_ ≠ (.slice Ao61 t213.length co61 : Value).ownBlock ∧ some k_ ≠ (.slice Ao67 t216.length co67 : Value).ownBlock ∧ some k_ ≠ (.slice Ao71 t220.length co71 : Value).ownBlock ∧ some k_ ≠ (.slice Ao78 t223.length co78 : Value).ownBlock ∧ some k_ ≠ (.slice Ao105 t229.length co105 : Value).ownBlock ∧ some k_ ≠ (.slice Ao106 t232.length co106 : Value).ownBlock ∧ some k_ ≠ (.slice Ao110 t236.length co110 : Value).ownBlock) (Kd.R_keptB (HO241.out) hkp (fun k_ hk_ hs_ => Or.elim hs_ (fun e_ => (hk_.2.2.2.2.1) e_) (fun e_ => (hk_.2.2.2.2.2.1) e_))) (fun k_ hk_ => ⟨hk_.1.1, hk_.1.2.1, hk_.1.2.2.1, hk_.1.2.2.2.1, hk_.1.2.2.2.2.1, hk_.1.2.2.2.2.2.1, hk_.1.2.2.2.2.2.2.1, hk_.1.2.2.2.2.2.2.2.1, hk_.1.2.2.2.2.2.2.2.2.1, hk_.1.2.2.2.2.2.2.2.2.2.1, hk_.1.2.2.2.2.2.2.2.2.2.2⟩)); replace HB := Aside0.mk (hb); clear hb))
 (try simp only [Act.put, List.setIfInBounds_toArray, List.set_cons_zero, List.set_cons_succ])
 go_cut [82] (fun v82 wc => ∃ (kq : Nat) (x82_101 : Bool), v82 = .bool x82_101 ∧ Aside0 (laws_FnExactMergeCounter.j1 kq t204 x82_101 l0_0 l0_1 l1_0 l1_1 t198 t201 t220 t223 = some r) ∧ Aside0 (kq ≤ kj24) ∧ Aside0 (Kd.R (Kd.int .i64) 3 wc w.heap.size (fun k_ => some k_ ≠ ((.slice Ao45 t201.length co45) : Value).ownBlock ∧ some k_ ≠ ((.slice Ao51 t206.length co51) : Value).ownBlock ∧ some k_ ≠ ((.slice Ao56 t209.length co56) : Value).ownBlock ∧ some k_ ≠ ((.slice Ao61 t213.length co61) : Value).ownBlock ∧ some k_ ≠ ((.slice Ao67 t216.length co67) : Value).ownBlock ∧ some k_ ≠ ((.slice Ao71 t220.length co71) : Value).ownBlock ∧ some k_ ≠ ((.slice Ao78 t223.length co78) : Value).ownBlock) (.slice Ao43 t198.length co43) t198) ∧ Aside0 (Kd.R (Kd.int .i64) 3 wc w.heap.size (fun k_ => some k_ ≠ ((.slice Ao43 t198.length co43) : Value).ownBlock ∧ some k_ ≠ ((.slice Ao51 t206.length co51) : Value).ownBlock ∧ some k_ ≠ ((.slice Ao56 t209.length co56) : Value).ownBlock ∧ some k_ ≠ ((.slice Ao61 t213.length co61) : Value).ownBlock ∧ some k_ ≠ ((.slice Ao67 t216.length co67) : Value).ownBlock ∧ some k_ ≠ ((.slice Ao71 t220.length co71) : Value).ownBlock ∧ some k_ ≠ ((.slice Ao78 t223.length co78) : Value).ownBlock) (.slice Ao45 t201.length co45) t201) ∧ Aside0 (Kd.R (Kd.int .i64) 3 wc w.heap.size (fun k_ => some k_ ≠ ((.slice Ao43 t198.length co43) : Value).ownBlock ∧ some k_ ≠ ((.slice Ao45 t201.length co45) : Value).ownBlock ∧ some k_ ≠ ((.slice Ao56 t209.length co56) : Value).ownBlock ∧ some k_ ≠ ((.slice Ao61 t213.length co61) : Value).ownBlock ∧ some k_ ≠ ((.slice Ao67 t216.length co67) : Value).ownBlock ∧ some k_ ≠ ((.slice Ao71 t220.length co71) : Value).ownBlock ∧ some k_ ≠ ((.slice Ao78 t223.length co78) : Value).ownBlock) (.slice Ao51 t206.length co51) t244) ∧ Aside0 (Kd.R (Kd.int .i64) 3 wc w.heap.size (fun k_ => some k_ ≠ ((.slice Ao43 t198.length co43) : Value).ownBlock ∧ some k_ ≠ ((.slice Ao45 t201.length co45) : Value).ownBlock ∧ some k_ ≠ ((.slice Ao51 t206.length co51) : Value).ownBlock ∧ some k_ ≠ ((.slice Ao61 t213.length co61) : Value).ownBlock ∧ some k_ ≠ ((.slice Ao67 t216.length co67) : Value).ownBlock ∧ some k_ ≠ ((.slice Ao71 t220.length co71) : Value).ownBlock ∧ some k_ ≠ ((.slice Ao78 t223.length co78) : Value).ownBlock) (.slice Ao56 t209.length co56) t245) ∧ Aside0 (Kd.R (Kd.int .i64) 3 wc w.heap.size (fun k_ => some k_ ≠ ((.slice Ao43 t198.length co43) : Value).ownBlock ∧ some k_ ≠ ((.slice Ao45 t201.length co45) : Value).ownBlock ∧ some k_ ≠ ((.slice Ao51 t206.length co51) : Value).ownBlock ∧ some k_ ≠ ((.slice Ao56 t209.length co56) : Value).ownBlock ∧ some k_ ≠ ((.slice Ao67 t216.length co67) : Value).ownBlock ∧ some k_ ≠ ((.slice Ao71 t220.length co71) : Value).ownBlock ∧ some k_ ≠ ((.slice Ao78 t223.length co78) : Value).ownBlock) (.slice Ao61 t213.length co61) t247) ∧ Aside0 (Kd.R (Kd.int .i64) 3 wc w.heap.size (fun k_ => some k_ ≠ ((.slice Ao43 t198.length co43) : Value).ownBlock ∧ some k_ ≠ ((.slice Ao45 t201.length co45) : Value).ownBlock ∧ some k_ ≠ ((.slice Ao51 t206.length co51) : Value).ownBlock ∧ some k_ ≠ ((.slice Ao56 t209.length co56) : Value).ownBlock ∧ some k_ ≠ ((.slice Ao61 t213.length co61) : Value).ownBlock ∧ some k_ ≠ ((.slice Ao71 t220.length co71) : Value).ownBlock ∧ some k_ ≠ ((.slice Ao78 t223.length co78) : Value).ownBlock) (.slice Ao67 t216.length co67) t248) ∧ Aside0 (Kd.R (Kd.int .i64) 3 wc w.heap.size (fun k_ => some k_ ≠ ((.slice Ao43 t198.length co43) : Value).ownBlock ∧ some k_ ≠ ((.slice Ao45 t201.length co45) : Value).ownBlock ∧ some k_ ≠ ((.slice Ao51 t206.length co51) : Value).ownBlock ∧ some k_ ≠ ((.slice Ao56 t209.length co56) : Value).ownBlock ∧ some k_ ≠ ((.slice Ao61 t213.length co61) : Value).ownBlock ∧ some k_ ≠ ((.slice Ao67 t216.length co67) : Value).ownBlock ∧ some k_ ≠ ((.slice Ao78 t223.length co78) : Value).ownBlock) (.slice Ao71 t220.length co71) t220) ∧ Aside0 (Kd.R (Kd.int .i64) 3 wc w.heap.size (fun k_ => some k_ ≠ ((.slice Ao43 t198.length co43) : Value).ownBlock ∧ some k_ ≠ ((.slice Ao45 t201.length co45) : Value).ownBlock ∧ some k_ ≠ ((.slice Ao51 t206.length co51) : Value).ownBlock ∧ some k_ ≠ ((.slice Ao56 t209.length co56) : Value).ownBlock ∧ some k_ ≠ ((.slice Ao61 t213.length co61) : Value).ownBlock ∧ some k_ ≠ ((.slice Ao67 t216.length co67) : Value).ownBlock ∧ some k_ ≠ ((.slice Ao71 t220.length co71) : Value).ownBlock) (.slice Ao78 t223.length co78) t223) ∧ Aside0 (wc.heap[gb182]? = some (.cells #[(.slice A0_0 l0_0.length c0_0), (.slice A0_1 l0_1.length c0_1)] 24 (0, 0))) ∧ Aside0 (wc.heap[gb183]? = some (.cells #[(.slice A1_0 l1_0.length c1_0), (.slice A1_1 l1_1.length c1_1)] 24 (0, 0))) ∧ Aside0 (wc.heap[gb205]? = some (.cells #[(.slice Ao43 t198.length co43), (.slice Ao45 t201.length co45)] 27 (0, 0))) ∧ Aside0 (wc.heap[gb212]? = some (.cells #[(.slice Ao51 t206.length co51), (.slice Ao56 t209.length co56)] 27 (0, 0))) ∧ Aside0 (wc.heap[gb219]? = some (.cells #[(.slice Ao61 t213.length co61), (.slice Ao67 t216.length co67)] 27 (0, 0))) ∧ Aside0 (wc.heap[gb227]? = some (.cells #[(.slice Ao71 t220.length co71), (.slice Ao78 t223.length co78)] 27 (0, 0))) ∧ Aside0 (Below w.heap.size w wc))
 case first =>
  have H := HC102.out
  clear HC102
  by_cases c126 : t246 < 0
  ·rw [if_pos c126] at H
   exact absurd H (by simp)
  rw [if_neg c126] at H
  have c126b0 : decide (t246 < 0) = false := decide_eq_false c126
  clear c126
  (first | rw [c126b0] | (simp only [i64_w, i32_w]; rw [c126b0]) | skip)
  replace H := Option.bind_eq_some_iff.mp H
  obtain ⟨t249, A1270, H⟩ := H
  replace H : (if t249 = true then (laws_FnExactMergeCounter.j1 kj24 t204 (t226 != t204) l0_0 l0_1 l1_0 l1_1 t198 t201 t220 t223) else (none)) = some r := H
  have A127 := Aside0.mk A1270
  clear A1270
  by_cases c128 : t249 = true
  rotate_left
  ·replace c128 := Bool.eq_false_iff.mpr c128
   subst c128
   have H1 : (none) = some r := by rw [if_neg (show ¬ (false = true) by decide)] at H; exact H
   clear H
   have H := H1
   clear H1
   exact absurd H (by simp)
  subst c128
  have H1 : (laws_FnExactMergeCounter.j1 kj24 t204 (t226 != t204) l0_0 l0_1 l1_0 l1_1 t198 t201 t220 t223) = some r := by rw [if_pos rfl] at H; exact H
  clear H
  have H := H1
  clear H1
  have H' := Aside0.mk H
  clear H
  have hnb129 := NB227_182.out
  have hnc129 := NB182_227.out
  have hnb130 := NB227_183.out
  have hnc130 := NB183_227.out
  have hnb131 := NB227_205.out
  have hnc131 := NB205_227.out
  have hnb132 := NB227_212.out
  have hnc132 := NB212_227.out
  have hnb133 := NB227_219.out
  have hnc133 := NB219_227.out
  have hcz134_0 : w125.cell? ⟨gb227, 0, none⟩ = some (.slice Ao71 t220.length co71) := bc_ BK227.out 0
  have hcz134_1 : w125.cell? ⟨gb227, 1, none⟩ = some (.slice Ao78 t223.length co78) := bc_ BK227.out 1
  have hfz134_0 := blk_frozen BK227.out 0
  have hfz134_1 := blk_frozen BK227.out 1
  have hnb135 := NB205_182.out
  have hnc135 := NB182_205.out
  have hnb136 := NB205_183.out
  have hnc136 := NB183_205.out
  have hnb137 := NB205_212.out
  have hnc137 := NB212_205.out
  have hnb138 := NB205_219.out
  have hnc138 := NB219_205.out
  have hcz139_0 : w125.cell? ⟨gb205, 0, none⟩ = some (.slice Ao43 t198.length co43) := bc_ BK205.out 0
  have hcz139_1 : w125.cell? ⟨gb205, 1, none⟩ = some (.slice Ao45 t201.length co45) := bc_ BK205.out 1
  have hfz139_0 := blk_frozen BK205.out 0
  have hfz139_1 := blk_frozen BK205.out 1
  go_wp2_with (first | (go_at_call 14; (with_reducible refine (laws_eqCounter.calls kj24 _ _ t220 _ _ t223 _ _ t198 _ _ t201 true _ ?side1 ?side2 ?side3 ?side4 ?side5 ?side6 ?side7 ?side8 A127.out).mono ?_); (case side1 => exact kc_ (Kd.R_reads' HO_228000.out).2.2); (case side2 => exact (Kd.R_reads' HO_228000.out).2.1); (case side3 => exact kc_ (Kd.R_reads' HO_228001.out).2.2); (case side4 => exact (Kd.R_reads' HO_228001.out).2.1); (case side5 => exact kc_ (Kd.R_reads' HO_206000.out).2.2); (case side6 => exact (Kd.R_reads' HO_206000.out).2.1); (case side7 => exact kc_ (Kd.R_reads' HO_206001.out).2.2); (case side8 => exact (Kd.R_reads' HO_206001.out).2.1); rintro e w140 ⟨rfl, hb⟩; replace HO_206000 := rb_ HO_206000 hb; replace HO_206001 := rb_ HO_206001 hb; replace HO_213000 := rb_ HO_213000 hb; replace HO_213001 := rb_ HO_213001 hb; replace HO_220000 := rb_ HO_220000 hb; replace HO_220001 := rb_ HO_220001 hb; replace HO_228000 := rb_ HO_228000 hb; replace HO_228001 := rb_ HO_228001 hb; replace HO231 := rb_ HO231 hb; replace HO234 := rb_ HO234 hb; replace HO238 := rb_ HO238 hb; replace HO241 := rb_ HO241 hb; replace BK182 := bb_ BK182 hb; replace BK183 := bb_ BK183 hb; replace BK205 := bb_ BK205 hb; replace BK212 := bb_ BK212 hb; replace BK219 := bb_ BK219 hb; replace BK227 := bb_ BK227 hb; replace HB := Aside0.mk (below_step bl_ hb); clear hb))
  go_meet
  case rel => exact ⟨_, ((t226 != t204)), (by first | rfl | (simp; done) | (simp [*]; done)), H', ⟨by have := HJ24.out; first | omega | exact Nat.le_refl _⟩, ⟨kp_ HO_206000.out⟩, ⟨kp_ HO_206001.out⟩, ⟨kp_ HO_213000.out⟩, ⟨kp_ HO_213001.out⟩, ⟨kp_ HO_220000.out⟩, ⟨kp_ HO_220001.out⟩, ⟨kp_ HO_228000.out⟩, ⟨kp_ HO_228001.out⟩, ⟨by exact kb_ BK182.out⟩, ⟨by exact kb_ BK183.out⟩, ⟨by exact kb_ BK205.out⟩, ⟨by exact kb_ BK212.out⟩, ⟨by exact kb_ BK219.out⟩, ⟨by exact kb_ BK227.out⟩, ⟨bl_⟩⟩
 clear HC102
 try clear c1
 try clear c2
 try clear p2
 try clear c9
 try clear c11
 try clear c12
 try clear c13
 try clear c14
 try clear c25
 try clear c93
 try clear c96
 try clear c99
 try clear c113
 try clear c114
 try clear c115
 try clear c116
 try clear c117
 try clear c120
 try clear c121
 try clear c122
 try clear c123
 try clear c126
 try clear c126b0
 try clear c128
 try clear c129
 try clear c130
 try clear c131
 try clear c132
 try clear c133
 try clear c135
 try clear c136
 try clear c137
 try clear c138
 try clear hcz118_0
 try clear hcz118_1
 try clear hcz124_0
 try clear hcz124_1
 try clear hcz134_0
 try clear hcz134_1
 try clear hcz139_0
 try clear hcz139_1
 try clear hfz118_0
 try clear hfz118_1
 try clear hfz124_0
 try clear hfz124_1
 try clear hfz134_0
 try clear hfz134_1
 try clear hfz139_0
 try clear hfz139_1
 obtain ⟨kq, x82_101, rfl, HA, HJ101, HO_206000, HO_206001, HO_213000, HO_213001, HO_220000, HO_220001, HO_228000, HO_228001, BK182, BK183, BK205, BK212, BK219, BK227, HB⟩ := hcut
 have hl213000_101 := (Kd.R_reads' HO_213000.out).1
 rw [hl213000_101] at HO_213000
 (try simp only [hl213000_101])
 (try simp only [hl213000_101] at BK182)
 (try simp only [hl213000_101] at BK183)
 (try simp only [hl213000_101] at BK205)
 (try simp only [hl213000_101] at BK212)
 (try simp only [hl213000_101] at BK219)
 (try simp only [hl213000_101] at BK227)
 (try simp only [hl213000_101] at HO_206000)
 (try simp only [hl213000_101] at HO_206001)
 (try simp only [hl213000_101] at HO_213001)
 (try simp only [hl213000_101] at HO_220000)
 (try simp only [hl213000_101] at HO_220001)
 (try simp only [hl213000_101] at HO_228000)
 (try simp only [hl213000_101] at HO_228001)
 have hl213001_101 := (Kd.R_reads' HO_213001.out).1
 rw [hl213001_101] at HO_213001
 (try simp only [hl213001_101])
 (try simp only [hl213001_101] at BK182)
 (try simp only [hl213001_101] at BK183)
 (try simp only [hl213001_101] at BK205)
 (try simp only [hl213001_101] at BK212)
 (try simp only [hl213001_101] at BK219)
 (try simp only [hl213001_101] at BK227)
 (try simp only [hl213001_101] at HO_206000)
 (try simp only [hl213001_101] at HO_206001)
 (try simp only [hl213001_101] at HO_213000)
 (try simp only [hl213001_101] at HO_220000)
 (try simp only [hl213001_101] at HO_220001)
 (try simp only [hl213001_101] at HO_228000)
 (try simp only [hl213001_101] at HO_228001)
 have hl220000_101 := (Kd.R_reads' HO_220000.out).1
 rw [hl220000_101] at HO_220000
 (try simp only [hl220000_101])
 (try simp only [hl220000_101] at BK182)
 (try simp only [hl220000_101] at BK183)
 (try simp only [hl220000_101] at BK205)
 (try simp only [hl220000_101] at BK212)
 (try simp only [hl220000_101] at BK219)
 (try simp only [hl220000_101] at BK227)
 (try simp only [hl220000_101] at HO_206000)
 (try simp only [hl220000_101] at HO_206001)
 (try simp only [hl220000_101] at HO_213000)
 (try simp only [hl220000_101] at HO_213001)
 (try simp only [hl220000_101] at HO_220001)
 (try simp only [hl220000_101] at HO_228000)
 (try simp only [hl220000_101] at HO_228001)
 have hl220001_101 := (Kd.R_reads' HO_220001.out).1
 rw [hl220001_101] at HO_220001
 (try simp only [hl220001_101])
 (try simp only [hl220001_101] at BK182)
 (try simp only [hl220001_101] at BK183)
 (try simp only [hl220001_101] at BK205)
 (try simp only [hl220001_101] at BK212)
 (try simp only [hl220001_101] at BK219)
 (try simp only [hl220001_101] at BK227)
 (try simp only [hl220001_101] at HO_206000)
 (try simp only [hl220001_101] at HO_206001)
 (try simp only [hl220001_101] at HO_213000)
 (try simp only [hl220001_101] at HO_213001)
 (try simp only [hl220001_101] at HO_220000)
 (try simp only [hl220001_101] at HO_228000)
 (try simp only [hl220001_101] at HO_228001)
 cases kq with
 | zero => exact absurd HA.out (by simp [laws_FnExactMergeCounter.j1])
 | succ kj101 => ?_
 have H := HA.out
 clear HA
 simp only [laws_FnExactMergeCounter.j1] at H
 by_cases c141 : x82_101 = true
 ·subst c141
  have H1 : (none) = some r := by rw [if_pos rfl] at H; exact H
  clear H
  have H := H1
  clear H1
  exact absurd H (by simp)
 replace c141 := Bool.eq_false_iff.mpr c141
 subst c141
 have H1 : ((laws_markCounter.f kj101 t220 t223 1).bind fun bt250 => ((laws_heldCounter.f kj101 bt250.2.1 bt250.2.2 1).bind fun t253 => (if t253 < 0 then (none) else (if t253 = bt250.1 then ((laws_toCounter.f kj101 l0_0 l0_1).bind fun bt254 => ((laws_toCounter.f kj101 l1_0 l1_1).bind fun bt260 => ((impl_MergeCounter.f kj101 bt254.1 bt254.2 bt260.1 bt260.2).bind fun bt266 => ((laws_eqCounter.f kj101 bt266.1 bt266.2.1 t198 t201).bind fun t274 => (if t274 = true then (laws_FnExactMergeCounter.j2 kj101 bt250.1 (bt266.2.2 != t204) bt250.2.1 bt250.2.2) else (none)))))) else (none))))) = some r := by rw [if_neg (show ¬ (false = true) by decide)] at H; exact H
 clear H
 have H := H1
 clear H1
 replace H := Option.bind_eq_some_iff.mp H
 obtain ⟨⟨t250, t251, t252⟩, A1420, H⟩ := H
 replace H : ((laws_heldCounter.f kj101 t251 t252 1).bind fun t253 => (if t253 < 0 then (none) else (if t253 = t250 then ((laws_toCounter.f kj101 l0_0 l0_1).bind fun bt254 => ((laws_toCounter.f kj101 l1_0 l1_1).bind fun bt260 => ((impl_MergeCounter.f kj101 bt254.1 bt254.2 bt260.1 bt260.2).bind fun bt266 => ((laws_eqCounter.f kj101 bt266.1 bt266.2.1 t198 t201).bind fun t274 => (if t274 = true then (laws_FnExactMergeCounter.j2 kj101 t250 (bt266.2.2 != t204) t251 t252) else (none)))))) else (none)))) = some r := H
 have A142 := Aside0.mk A1420
 clear A1420
 replace H := Option.bind_eq_some_iff.mp H
 obtain ⟨t253, A1430, H⟩ := H
 replace H : (if t253 < 0 then (none) else (if t253 = t250 then ((laws_toCounter.f kj101 l0_0 l0_1).bind fun bt254 => ((laws_toCounter.f kj101 l1_0 l1_1).bind fun bt260 => ((impl_MergeCounter.f kj101 bt254.1 bt254.2 bt260.1 bt260.2).bind fun bt266 => ((laws_eqCounter.f kj101 bt266.1 bt266.2.1 t198 t201).bind fun t274 => (if t274 = true then (laws_FnExactMergeCounter.j2 kj101 t250 (bt266.2.2 != t204) t251 t252) else (none)))))) else (none))) = some r := H
 have A143 := Aside0.mk A1430
 clear A1430
 by_cases c144 : t253 < 0
 ·rw [if_pos c144] at H
  exact absurd H (by simp)
 rw [if_neg c144] at H
 have c144b0 : decide (t253 < 0) = false := decide_eq_false c144
 clear c144
 by_cases c145 : t253 = t250
 rotate_left
 ·rw [if_neg c145] at H
  exact absurd H (by simp)
 rw [if_pos c145] at H
 have c145b0 : (t253 == t250) = true := beq_iff_eq.mpr c145
 have c145b1 : (t253 != t250) = false := bne_eq_false_iff_eq.mpr c145
 clear c145
 replace H := Option.bind_eq_some_iff.mp H
 obtain ⟨⟨t254, t257⟩, A1460, H⟩ := H
 replace H : ((laws_toCounter.f kj101 l1_0 l1_1).bind fun bt260 => ((impl_MergeCounter.f kj101 t254 t257 bt260.1 bt260.2).bind fun bt266 => ((laws_eqCounter.f kj101 bt266.1 bt266.2.1 t198 t201).bind fun t274 => (if t274 = true then (laws_FnExactMergeCounter.j2 kj101 t250 (bt266.2.2 != t204) t251 t252) else (none))))) = some r := H
 have A146 := Aside0.mk A1460
 clear A1460
 replace H := Option.bind_eq_some_iff.mp H
 obtain ⟨⟨t260, t263⟩, A1470, H⟩ := H
 replace H : ((impl_MergeCounter.f kj101 t254 t257 t260 t263).bind fun bt266 => ((laws_eqCounter.f kj101 bt266.1 bt266.2.1 t198 t201).bind fun t274 => (if t274 = true then (laws_FnExactMergeCounter.j2 kj101 t250 (bt266.2.2 != t204) t251 t252) else (none)))) = some r := H
 have A147 := Aside0.mk A1470
 clear A1470
 replace H := Option.bind_eq_some_iff.mp H
 obtain ⟨⟨t266, t269, t272⟩, A1480, H⟩ := H
 replace H : ((laws_eqCounter.f kj101 t266 t269 t198 t201).bind fun t274 => (if t274 = true then (laws_FnExactMergeCounter.j2 kj101 t250 (t272 != t204) t251 t252) else (none))) = some r := H
 have A148 := Aside0.mk A1480
 clear A1480
 have HC149 := Aside0.mk H
 clear H
 have hnb150 := NB227_182.out
 have hnc150 := NB182_227.out
 have hnb151 := NB227_183.out
 have hnc151 := NB183_227.out
 have hnb152 := NB227_205.out
 have hnc152 := NB205_227.out
 have hnb153 := NB227_212.out
 have hnc153 := NB212_227.out
 have hnb154 := NB227_219.out
 have hnc154 := NB219_227.out
 have hcz155_0 : wc.cell? ⟨gb227, 0, none⟩ = some (.slice Ao71 t220.length co71) := bc_ BK227.out 0
 have hcz155_1 : wc.cell? ⟨gb227, 1, none⟩ = some (.slice Ao78 t223.length co78) := bc_ BK227.out 1
 have hfz155_0 := blk_frozen BK227.out 0
 have hfz155_1 := blk_frozen BK227.out 1
 try go_wp2_with (first | ((with_reducible refine gate_callee (f := 25) rfl ?_); refine goesL_ (some 85) rfl rfl Try.func25 (by kernel_rfl) rfl #[.agg #[.slice Ao71 t220.length co71, .slice Ao78 t223.length co78], .int .i64 1] rfl nc_ ?_; (with_reducible refine (laws_markCounter.calls kj101 (fun k_ => some k_ = (.slice Ao71 t220.length co71 : Value).ownBlock) (.slice Ao71 t220.length co71) t220 (fun k_ => some k_ = (.slice Ao78 t223.length co78 : Value).ownBlock) (.slice Ao78 t223.length co78) t223 1 t250 t251 t252 w _ ?side1 ?side2 ?side3 ?side4 ?side5 A142.out).mono ?_); (case side1 => repeat (first | (with_reducible first | exact HB.out | apply below_alloc | apply pw_below_drewN | apply below_drew1 | refine below_set ?_ GE182.out | refine below_set ?_ GE183.out | refine below_set ?_ GE205.out | refine below_set ?_ GE212.out | refine below_set ?_ GE219.out | refine below_set ?_ GE227.out) | exact HB.out)); (case side2 => exact Kd.R_tight rfl HO_228000.out); (case side3 => exact fun k_ e_ => (HO_228000.out.1 k_ e_.symm).2.2.2.2.2.2); (case side4 => exact Kd.R_tight rfl HO_228001.out); (case side5 => exact fun k_ e_ => (HO_228001.out.1 k_ e_.symm).2.2.2.2.2.2); rintro e w156 ⟨rfl, hy0, hy1, hb, hkp⟩; refine ⟨_, rfl, ?_⟩; replace HO_206000 := Aside0.mk (Kd.R_mono (ok' := fun k_ => some k_ ≠ (.slice Ao45 t201.length co45 : Value).ownBlock ∧ some k_ ≠ (.slice Ao51 t244.length co51 : Value).ownBlock ∧ some k_ ≠ (.slice Ao56 t245.length co56 : Value).ownBlock ∧ some k_ ≠ (.slice Ao61 t247.length co61 : Value).ownBlock ∧ some k_ ≠ (.slice Ao67 t248.length co67 : Value).ownBlock ∧ some k_ ≠ (.slice Ao71 t220.length co71 : Value).ownBlock ∧ some k_ ≠ (.slice Ao78 t223.length co78 : Value).ownBlock) (Kd.R_keptB (HO_206000.out) hkp (fun k_ hk_ hs_ => Or.elim hs_ (fun e_ => (hk_.2.2.2.2.2.1) e_) (fun e_ => (hk_.2.2.2.2.2.2) e_))) (fun k_ hk_ => ⟨hk_.1.1, hk_.1.2.1, hk_.1.2.2.1, hk_.1.2.2.2.1, hk_.1.2.2.2.2.1, hk_.1.2.2.2.2.2.1, hk_.1.2.2.2.2.2.2⟩)); replace HO_206001 := Aside0.mk (Kd.R_mono (ok' := fun k_ => some k_ ≠ (.slice Ao43 t198.length co43 : Value).ownBlock ∧ some k_ ≠ (.slice Ao51 t244.length co51 : Value).ownBlock ∧ some k_ ≠ (.slice Ao56 t245.length co56 : Value).ownBlock ∧ some k_ ≠ (.slice Ao61 t247.length co61 : Value).ownBlock ∧ some k_ ≠ (.slice Ao67 t248.length co67 : Value).ownBlock ∧ some k_ ≠ (.slice Ao71 t220.length co71 : Value).ownBlock ∧ some k_ ≠ (.slice Ao78 t223.length co78 : Value).ownBlock) (Kd.R_keptB (HO_206001.out) hkp (fun k_ hk_ hs_ => Or.elim hs_ (fun e_ => (hk_.2.2.2.2.2.1) e_) (fun e_ => (hk_.2.2.2.2.2.2) e_))) (fun k_ hk_ => ⟨hk_.1.1, hk_.1.2.1, hk_.1.2.2.1, hk_.1.2.2.2.1, hk_.1.2.2.2.2.1, hk_.1.2.2.2.2.2.1, hk_.1.2.2.2.2.2.2⟩)); replace HO_213000 := Aside0.mk (Kd.R_mono (ok' := fun k_ => some k_ ≠ (.slice Ao43 t198.length co43 : Value).ownBlock ∧ some k_ ≠ (.slice Ao45 t201.length co45 : Value).ownBlock ∧ some k_ ≠ (.slice Ao56 t245.length co56 : Value).ownBlock ∧ some k_ ≠ (.slice Ao61 t247.length co61 : Value).ownBlock ∧ some k_ ≠ (.slice Ao67 t248.length co67 : Value).ownBlock ∧ some k_ ≠ (.slice Ao71 t220.length co71 : Value).ownBlock ∧ some k_ ≠ (.slice Ao78 t223.length co78 : Value).ownBlock) (Kd.R_keptB (HO_213000.out) hkp (fun k_ hk_ hs_ => Or.elim hs_ (fun e_ => (hk_.2.2.2.2.2.1) e_) (fun e_ => (hk_.2.2.2.2.2.2) e_))) (fun k_ hk_ => ⟨hk_.1.1, hk_.1.2.1, hk_.1.2.2.1, hk_.1.2.2.2.1, hk_.1.2.2.2.2.1, hk_.1.2.2.2.2.2.1, hk_.1.2.2.2.2.2.2⟩)); replace HO_213001 := Aside0.mk (Kd.R_mono (ok' := fun k_ => some k_ ≠ (.slice Ao43 t198.length co43 : Value).ownBlock ∧ some k_ ≠ (.slice Ao45 t201.length co45 : Value).ownBlock ∧ some k_ ≠ (.slice Ao51 t244.length co51 : Value).ownBlock ∧ some k_ ≠ (.slice Ao61 t247.length co61 : Value).ownBlock ∧ some k_ ≠ (.slice Ao67 t248.length co67 : Value).ownBlock ∧ some k_ ≠ (.slice Ao71 t220.length co71 : Value).ownBlock ∧ some k_ ≠ (.slice Ao78 t223.length co78 : Value).ownBlock) (Kd.R_keptB (HO_213001.out) hkp (fun k_ hk_ hs_ => Or.elim hs_ (fun e_ => (hk_.2.2.2.2.2.1) e_) (fun e_ => (hk_.2.2.2.2.2.2) e_))) (fun k_ hk_ => ⟨hk_.1.1, hk_.1.2.1, hk_.1.2.2.1, hk_.1.2.2.2.1, hk_.1.2.2.2.2.1, hk_.1.2.2.2.2.2.1, hk_.1.2.2.2.2.2.2⟩)); replace HO_220000 := Aside0.mk (Kd.R_mono (ok' := fun k_ => some k_ ≠ (.slice Ao43 t198.length co43 : Value).ownBlock ∧ some k_ ≠ (.slice Ao45 t201.length co45 : Value).ownBlock ∧ some k_ ≠ (.slice Ao51 t244.length co51 : Value).ownBlock ∧ some k_ ≠ (.slice Ao56 t245.length co56 : Value).ownBlock ∧ some k_ ≠ (.slice Ao67 t248.length co67 : Value).ownBlock ∧ some k_ ≠ (.slice Ao71 t220.length co71 : Value).ownBlock ∧ some k_ ≠ (.slice Ao78 t223.length co78 : Value).ownBlock) (Kd.R_keptB (HO_220000.out) hkp (fun k_ hk_ hs_ => Or.elim hs_ (fun e_ => (hk_.2.2.2.2.2.1) e_) (fun e_ => (hk_.2.2.2.2.2.2) e_))) (fun k_ hk_ => ⟨hk_.1.1, hk_.1.2.1, hk_.1.2.2.1, hk_.1.2.2.2.1, hk_.1.2.2.2.2.1, hk_.1.2.2.2.2.2.1, hk_.1.2.2.2.2.2.2⟩)); replace HO_220001 := Aside0.mk (Kd.R_mono (ok' := fun k_ => some k_ ≠ (.slice Ao43 t198.length co43 : Value).ownBlock ∧ some k_ ≠ (.slice Ao45 t201.length co45 : Value).ownBlock ∧ some k_ ≠ (.slice Ao51 t244.length co51 : Value).ownBlock ∧ some k_ ≠ (.slice Ao56 t245.length co56 : Value).ownBlock ∧ some k_ ≠ (.slice Ao61 t247.length co61 : Value).ownBlock ∧ some k_ ≠ (.slice Ao71 t220.length co71 : Value).ownBlock ∧ some k_ ≠ (.slice Ao78 t223.length co78 : Value).ownBlock) (Kd.R_keptB (HO_220001.out) hkp (fun k_ hk_ hs_ => Or.elim hs_ (fun e_ => (hk_.2.2.2.2.2.1) e_) (fun e_ => (hk_.2.2.2.2.2.2) e_))) (fun k_ hk_ => ⟨hk_.1.1, hk_.1.2.1, hk_.1.2.2.1, hk_.1.2.2.2.1, hk_.1.2.2.2.2.1, hk_.1.2.2.2.2.2.1, hk_.1.2.2.2.2.2.2⟩)); replace BK182 := Aside0.mk (blk_kept (kb_ BK182.out) hkp (fun hs_ => Or.elim hs_ (fun e_ => (fun e_ => (Kd.R_ne HO_228000.out BK182.out (by decide)) e_) e_) (fun e_ => (fun e_ => (Kd.R_ne HO_228001.out BK182.out (by decide)) e_) e_))); replace BK183 := Aside0.mk (blk_kept (kb_ BK183.out) hkp (fun hs_ => Or.elim hs_ (fun e_ => (fun e_ => (Kd.R_ne HO_228000.out BK183.out (by decide)) e_) e_) (fun e_ => (fun e_ => (Kd.R_ne HO_228001.out BK183.out (by decide)) e_) e_))); replace BK205 := Aside0.mk (blk_kept (kb_ BK205.out) hkp (fun hs_ => Or.elim hs_ (fun e_ => (fun e_ => (Kd.R_ne HO_228000.out BK205.out (by decide)) e_) e_) (fun e_ => (fun e_ => (Kd.R_ne HO_228001.out BK205.out (by decide)) e_) e_))); replace BK212 := Aside0.mk (blk_kept (kb_ BK212.out) hkp (fun hs_ => Or.elim hs_ (fun e_ => (fun e_ => (Kd.R_ne HO_228000.out BK212.out (by decide)) e_) e_) (fun e_ => (fun e_ => (Kd.R_ne HO_228001.out BK212.out (by decide)) e_) e_))); replace BK219 := Aside0.mk (blk_kept (kb_ BK219.out) hkp (fun hs_ => Or.elim hs_ (fun e_ => (fun e_ => (Kd.R_ne HO_228000.out BK219.out (by decide)) e_) e_) (fun e_ => (fun e_ => (Kd.R_ne HO_228001.out BK219.out (by decide)) e_) e_))); replace BK227 := Aside0.mk (blk_kept (kb_ BK227.out) hkp (fun hs_ => Or.elim hs_ (fun e_ => (fun e_ => (Kd.R_ne HO_228000.out BK227.out (by decide)) e_) e_) (fun e_ => (fun e_ => (Kd.R_ne HO_228001.out BK227.out (by decide)) e_) e_))); replace HO_228000 := Aside0.mk (Kd.R_reok rfl hy0 (fun k_ e_ => HO_228000.out.1 k_ e_)); replace HO_228001 := Aside0.mk (Kd.R_reok rfl hy1 (fun k_ e_ => HO_228001.out.1 k_ e_)); replace HB := Aside0.mk (hb); clear hb; have hcz157_0 : w156.cell? ⟨gb227, 0, none⟩ = some (.slice Ao71 t220.length co71) := bc_ BK227.out 0; have hcz157_1 : w156.cell? ⟨gb227, 1, none⟩ = some (.slice Ao78 t223.length co78) := bc_ BK227.out 1; have hfz157_0 := blk_frozen BK227.out 0; have hfz157_1 := blk_frozen BK227.out 1) | ((with_reducible refine gate_callee (f := 26) rfl ?_); refine goesL_ (some 88) rfl rfl Try.func26 (by kernel_rfl) rfl #[.agg #[.slice Ao71 t251.length co71, .slice Ao78 t252.length co78], .int .i64 1] rfl (by (try simp only [List.map_toArray, List.map_cons, List.map_nil]); first | done | (rw [show t251.length = t220.length from (Kd.R_reads' HO_228000.out).1.symm, show t252.length = t223.length from (Kd.R_reads' HO_228001.out).1.symm] <;> rfl) | rfl | (simp only [List.length_drop, List.length_take]; rfl)) ?_; (with_reducible refine (laws_heldCounter.calls kj101 _ _ t251 _ _ t252 1 t253 _ ?side1 ?side2 ?side3 ?side4 A143.out).mono ?_); (case side1 => exact kc_ (Kd.R_reads' HO_228000.out).2.2); (case side2 => rw [show t251.length = t220.length from (Kd.R_reads' HO_228000.out).1.symm]; exact (Kd.R_reads' HO_228000.out).2.1); (case side3 => exact kc_ (Kd.R_reads' HO_228001.out).2.2); (case side4 => rw [show t252.length = t223.length from (Kd.R_reads' HO_228001.out).1.symm]; exact (Kd.R_reads' HO_228001.out).2.1); rintro e w158 ⟨rfl, hb⟩; refine ⟨_, rfl, ?_⟩; replace HO_206000 := rb_ HO_206000 hb; replace HO_206001 := rb_ HO_206001 hb; replace HO_213000 := rb_ HO_213000 hb; replace HO_213001 := rb_ HO_213001 hb; replace HO_220000 := rb_ HO_220000 hb; replace HO_220001 := rb_ HO_220001 hb; replace HO_228000 := rb_ HO_228000 hb; replace HO_228001 := rb_ HO_228001 hb; replace BK182 := bb_ BK182 hb; replace BK183 := bb_ BK183 hb; replace BK205 := bb_ BK205 hb; replace BK212 := bb_ BK212 hb; replace BK219 := bb_ BK219 hb; replace BK227 := bb_ BK227 hb; replace HB := Aside0.mk (below_step bl_ hb); clear hb))
 replace HO_206000 := Aside0.mk (Kd.R_drew HO_206000.out)
 replace HO_206001 := Aside0.mk (Kd.R_drew HO_206001.out)
 replace HO_213000 := Aside0.mk (Kd.R_drew HO_213000.out)
 replace HO_213001 := Aside0.mk (Kd.R_drew HO_213001.out)
 replace HO_220000 := Aside0.mk (Kd.R_drew HO_220000.out)
 replace HO_220001 := Aside0.mk (Kd.R_drew HO_220001.out)
 replace HO_228000 := Aside0.mk (Kd.R_drew HO_228000.out)
 replace HO_228001 := Aside0.mk (Kd.R_drew HO_228001.out)
 replace BK182 := Aside0.mk (blk_drew BK182.out)
 replace BK183 := Aside0.mk (blk_drew BK183.out)
 replace BK205 := Aside0.mk (blk_drew BK205.out)
 replace BK212 := Aside0.mk (blk_drew BK212.out)
 replace BK219 := Aside0.mk (blk_drew BK219.out)
 replace BK227 := Aside0.mk (blk_drew BK227.out)
 replace HB := Aside0.mk (below_drew1 HB.out)
 refine start_ (n := 11) (S := fun w' => w'.cell? ⟨gb182, 0, none⟩ = some (.slice A0_0 l0_0.length c0_0) ∧ w'.cell? ⟨gb182, 1, none⟩ = some (.slice A0_1 l0_1.length c0_1) ∧ w'.cell? ⟨gb183, 0, none⟩ = some (.slice A1_0 l1_0.length c1_0) ∧ w'.cell? ⟨gb183, 1, none⟩ = some (.slice A1_1 l1_1.length c1_1)) (ds := []) #[false, false, false, false, false, false, false, false, false, false, false] (by kernel_rfl) rfl rfl ⟨bc_ BK182.out 0, bc_ BK182.out 1, bc_ BK183.out 0, bc_ BK183.out 1⟩ (fun hHeld => ?_); refine with_tabW laws_FnExactMergeCounter.tab31 laws_FnExactMergeCounter.bits31 (fun HT_ HW_ => ?_)
 generalize w158.drew = w159 at HO_206000 HO_206001 HO_213000 HO_213001 HO_220000 HO_220001 HO_228000 HO_228001 BK182 BK183 BK205 BK212 BK219 BK227 HB hHeld ⊢
 refine take_ (i := 0) (N := some 95) (v := ?_) (a' := ?_) #[true, false, false, false, false, false, false, false, false, false, false] rfl rfl (take_ofW HT_.out HW_.out (by kernel_rfl)) (fun _ _ _ h => h) (Or.inl ⟨by rfl, ?_⟩) hHeld ?_ ?_
 rotate_left
 ·rintro w' ⟨s0, s1, s2, s3⟩
  go_simp
  with_reducible rfl
 rotate_left
 ·simp only [Act.put, List.setIfInBounds_toArray, List.set_cons_zero, List.set_cons_succ, i64_w, i32_w]
  rfl
 refine take_ (i := 2) (N := some 97) (v := ?_) (a' := ?_) #[true, false, true, false, false, false, false, false, false, false, false] rfl rfl (take_ofW HT_.out HW_.out (by kernel_rfl)) (fun _ _ _ h => h) (Or.inl ⟨by rfl, ?_⟩) hHeld ?_ ?_
 rotate_left
 ·rintro w' ⟨s0, s1, s2, s3⟩
  go_simp
  with_reducible rfl
 rotate_left
 ·simp only [Act.put, List.setIfInBounds_toArray, List.set_cons_zero, List.set_cons_succ, i64_w, i32_w]
  rfl
 refine join_ (σ := Value × Value × Value × Value × Value × Value × Nat) 2 #[true, true, true, true, true, true, true, true, true, false, false] (fun s_ => [(96, .agg #[s_.1, s_.2.1]), (98, .agg #[s_.2.2.1, s_.2.2.2.1]), (99, .tuple #[.agg #[s_.2.2.2.2.1, s_.2.2.2.2.2.1], .bool t272]), (15, .pointer (some ⟨s_.2.2.2.2.2.2, 0, none⟩)), (94, .tuple #[.agg #[s_.2.2.2.2.1, s_.2.2.2.2.2.1], .bool t272]), (100, .agg #[s_.2.2.2.2.1, s_.2.2.2.2.2.1]), (101, .bool t272)]) (fun s_ w' => (w'.cell? ⟨gb182, 0, none⟩ = some (.slice A0_0 l0_0.length c0_0) ∧ w'.cell? ⟨gb182, 1, none⟩ = some (.slice A0_1 l0_1.length c0_1) ∧ w'.cell? ⟨gb183, 0, none⟩ = some (.slice A1_0 l1_0.length c1_0) ∧ w'.cell? ⟨gb183, 1, none⟩ = some (.slice A1_1 l1_1.length c1_1)) ∧ (Kd.R (Kd.int .i64) 3 w' w.heap.size (fun k_ => some k_ ≠ (s_.2.1 : Value).ownBlock ∧ some k_ ≠ (s_.2.2.1 : Value).ownBlock ∧ some k_ ≠ (s_.2.2.2.1 : Value).ownBlock ∧ some k_ ≠ (s_.2.2.2.2.1 : Value).ownBlock ∧ some k_ ≠ (s_.2.2.2.2.2.1 : Value).ownBlock ∧ some k_ ≠ (.slice Ao43 t198.length co43 : Value).ownBlock ∧ some k_ ≠ (.slice Ao45 t201.length co45 : Value).ownBlock ∧ some k_ ≠ (.slice Ao51 t244.length co51 : Value).ownBlock ∧ some k_ ≠ (.slice Ao56 t245.length co56 : Value).ownBlock ∧ some k_ ≠ (.slice Ao61 t247.length co61 : Value).ownBlock ∧ some k_ ≠ (.slice Ao67 t248.length co67 : Value).ownBlock ∧ some k_ ≠ (.slice Ao71 t220.length co71 : Value).ownBlock ∧ some k_ ≠ (.slice Ao78 t223.length co78 : Value).ownBlock) s_.1 t254) ∧ (Kd.R (Kd.int .i64) 3 w' w.heap.size (fun k_ => some k_ ≠ (s_.1 : Value).ownBlock ∧ some k_ ≠ (s_.2.2.1 : Value).ownBlock ∧ some k_ ≠ (s_.2.2.2.1 : Value).ownBlock ∧ some k_ ≠ (s_.2.2.2.2.1 : Value).ownBlock ∧ some k_ ≠ (s_.2.2.2.2.2.1 : Value).ownBlock ∧ some k_ ≠ (.slice Ao43 t198.length co43 : Value).ownBlock ∧ some k_ ≠ (.slice Ao45 t201.length co45 : Value).ownBlock ∧ some k_ ≠ (.slice Ao51 t244.length co51 : Value).ownBlock ∧ some k_ ≠ (.slice Ao56 t245.length co56 : Value).ownBlock ∧ some k_ ≠ (.slice Ao61 t247.length co61 : Value).ownBlock ∧ some k_ ≠ (.slice Ao67 t248.length co67 : Value).ownBlock ∧ some k_ ≠ (.slice Ao71 t220.length co71 : Value).ownBlock ∧ some k_ ≠ (.slice Ao78 t223.length co78 : Value).ownBlock) s_.2.1 t257) ∧ (Kd.R (Kd.int .i64) 3 w' w.heap.size (fun k_ => some k_ ≠ (s_.1 : Value).ownBlock ∧ some k_ ≠ (s_.2.1 : Value).ownBlock ∧ some k_ ≠ (s_.2.2.2.1 : Value).ownBlock ∧ some k_ ≠ (s_.2.2.2.2.1 : Value).ownBlock ∧ some k_ ≠ (s_.2.2.2.2.2.1 : Value).ownBlock ∧ some k_ ≠ (.slice Ao43 t198.length co43 : Value).ownBlock ∧ some k_ ≠ (.slice Ao45 t201.length co45 : Value).ownBlock ∧ some k_ ≠ (.slice Ao51 t244.length co51 : Value).ownBlock ∧ some k_ ≠ (.slice Ao56 t245.length co56 : Value).ownBlock ∧ some k_ ≠ (.slice Ao61 t247.length co61 : Value).ownBlock ∧ some k_ ≠ (.slice Ao67 t248.length co67 : Value).ownBlock ∧ some k_ ≠ (.slice Ao71 t220.length co71 : Value).ownBlock ∧ some k_ ≠ (.slice Ao78 t223.length co78 : Value).ownBlock) s_.2.2.1 t260) ∧ (Kd.R (Kd.int .i64) 3 w' w.heap.size (fun k_ => some k_ ≠ (s_.1 : Value).ownBlock ∧ some k_ ≠ (s_.2.1 : Value).ownBlock ∧ some k_ ≠ (s_.2.2.1 : Value).ownBlock ∧ some k_ ≠ (s_.2.2.2.2.1 : Value).ownBlock ∧ some k_ ≠ (s_.2.2.2.2.2.1 : Value).ownBlock ∧ some k_ ≠ (.slice Ao43 t198.length co43 : Value).ownBlock ∧ some k_ ≠ (.slice Ao45 t201.length co45 : Value).ownBlock ∧ some k_ ≠ (.slice Ao51 t244.length co51 : Value).ownBlock ∧ some k_ ≠ (.slice Ao56 t245.length co56 : Value).ownBlock ∧ some k_ ≠ (.slice Ao61 t247.length co61 : Value).ownBlock ∧ some k_ ≠ (.slice Ao67 t248.length co67 : Value).ownBlock ∧ some k_ ≠ (.slice Ao71 t220.length co71 : Value).ownBlock ∧ some k_ ≠ (.slice Ao78 t223.length co78 : Value).ownBlock) s_.2.2.2.1 t263) ∧ (Kd.R (Kd.int .i64) 3 w' w.heap.size (fun k_ => some k_ ≠ (s_.1 : Value).ownBlock ∧ some k_ ≠ (s_.2.1 : Value).ownBlock ∧ some k_ ≠ (s_.2.2.1 : Value).ownBlock ∧ some k_ ≠ (s_.2.2.2.1 : Value).ownBlock ∧ some k_ ≠ (s_.2.2.2.2.2.1 : Value).ownBlock ∧ some k_ ≠ (.slice Ao43 t198.length co43 : Value).ownBlock ∧ some k_ ≠ (.slice Ao45 t201.length co45 : Value).ownBlock ∧ some k_ ≠ (.slice Ao51 t244.length co51 : Value).ownBlock ∧ some k_ ≠ (.slice Ao56 t245.length co56 : Value).ownBlock ∧ some k_ ≠ (.slice Ao61 t247.length co61 : Value).ownBlock ∧ some k_ ≠ (.slice Ao67 t248.length co67 : Value).ownBlock ∧ some k_ ≠ (.slice Ao71 t220.length co71 : Value).ownBlock ∧ some k_ ≠ (.slice Ao78 t223.length co78 : Value).ownBlock) s_.2.2.2.2.1 t266) ∧ (Kd.R (Kd.int .i64) 3 w' w.heap.size (fun k_ => some k_ ≠ (s_.1 : Value).ownBlock ∧ some k_ ≠ (s_.2.1 : Value).ownBlock ∧ some k_ ≠ (s_.2.2.1 : Value).ownBlock ∧ some k_ ≠ (s_.2.2.2.1 : Value).ownBlock ∧ some k_ ≠ (s_.2.2.2.2.1 : Value).ownBlock ∧ some k_ ≠ (.slice Ao43 t198.length co43 : Value).ownBlock ∧ some k_ ≠ (.slice Ao45 t201.length co45 : Value).ownBlock ∧ some k_ ≠ (.slice Ao51 t244.length co51 : Value).ownBlock ∧ some k_ ≠ (.slice Ao56 t245.length co56 : Value).ownBlock ∧ some k_ ≠ (.slice Ao61 t247.length co61 : Value).ownBlock ∧ some k_ ≠ (.slice Ao67 t248.length co67 : Value).ownBlock ∧ some k_ ≠ (.slice Ao71 t220.length co71 : Value).ownBlock ∧ some k_ ≠ (.slice Ao78 t223.length co78 : Value).ownBlock) s_.2.2.2.2.2.1 t269) ∧ (Kd.R (Kd.int .i64) 3 w' w.heap.size (fun k_ => some k_ ≠ (s_.1 : Value).ownBlock ∧ some k_ ≠ (s_.2.1 : Value).ownBlock ∧ some k_ ≠ (s_.2.2.1 : Value).ownBlock ∧ some k_ ≠ (s_.2.2.2.1 : Value).ownBlock ∧ some k_ ≠ (s_.2.2.2.2.1 : Value).ownBlock ∧ some k_ ≠ (s_.2.2.2.2.2.1 : Value).ownBlock ∧ some k_ ≠ (.slice Ao45 t201.length co45 : Value).ownBlock ∧ some k_ ≠ (.slice Ao51 t244.length co51 : Value).ownBlock ∧ some k_ ≠ (.slice Ao56 t245.length co56 : Value).ownBlock ∧ some k_ ≠ (.slice Ao61 t247.length co61 : Value).ownBlock ∧ some k_ ≠ (.slice Ao67 t248.length co67 : Value).ownBlock ∧ some k_ ≠ (.slice Ao71 t220.length co71 : Value).ownBlock ∧ some k_ ≠ (.slice Ao78 t223.length co78 : Value).ownBlock) (.slice Ao43 t198.length co43) t198) ∧ (Kd.R (Kd.int .i64) 3 w' w.heap.size (fun k_ => some k_ ≠ (s_.1 : Value).ownBlock ∧ some k_ ≠ (s_.2.1 : Value).ownBlock ∧ some k_ ≠ (s_.2.2.1 : Value).ownBlock ∧ some k_ ≠ (s_.2.2.2.1 : Value).ownBlock ∧ some k_ ≠ (s_.2.2.2.2.1 : Value).ownBlock ∧ some k_ ≠ (s_.2.2.2.2.2.1 : Value).ownBlock ∧ some k_ ≠ (.slice Ao43 t198.length co43 : Value).ownBlock ∧ some k_ ≠ (.slice Ao51 t244.length co51 : Value).ownBlock ∧ some k_ ≠ (.slice Ao56 t245.length co56 : Value).ownBlock ∧ some k_ ≠ (.slice Ao61 t247.length co61 : Value).ownBlock ∧ some k_ ≠ (.slice Ao67 t248.length co67 : Value).ownBlock ∧ some k_ ≠ (.slice Ao71 t220.length co71 : Value).ownBlock ∧ some k_ ≠ (.slice Ao78 t223.length co78 : Value).ownBlock) (.slice Ao45 t201.length co45) t201) ∧ (Kd.R (Kd.int .i64) 3 w' w.heap.size (fun k_ => some k_ ≠ (s_.1 : Value).ownBlock ∧ some k_ ≠ (s_.2.1 : Value).ownBlock ∧ some k_ ≠ (s_.2.2.1 : Value).ownBlock ∧ some k_ ≠ (s_.2.2.2.1 : Value).ownBlock ∧ some k_ ≠ (s_.2.2.2.2.1 : Value).ownBlock ∧ some k_ ≠ (s_.2.2.2.2.2.1 : Value).ownBlock ∧ some k_ ≠ (.slice Ao43 t198.length co43 : Value).ownBlock ∧ some k_ ≠ (.slice Ao45 t201.length co45 : Value).ownBlock ∧ some k_ ≠ (.slice Ao56 t245.length co56 : Value).ownBlock ∧ some k_ ≠ (.slice Ao61 t247.length co61 : Value).ownBlock ∧ some k_ ≠ (.slice Ao67 t248.length co67 : Value).ownBlock ∧ some k_ ≠ (.slice Ao71 t220.length co71 : Value).ownBlock ∧ some k_ ≠ (.slice Ao78 t223.length co78 : Value).ownBlock) (.slice Ao51 t244.length co51) t244) ∧ (Kd.R (Kd.int .i64) 3 w' w.heap.size (fun k_ => some k_ ≠ (s_.1 : Value).ownBlock ∧ some k_ ≠ (s_.2.1 : Value).ownBlock ∧ some k_ ≠ (s_.2.2.1 : Value).ownBlock ∧ some k_ ≠ (s_.2.2.2.1 : Value).ownBlock ∧ some k_ ≠ (s_.2.2.2.2.1 : Value).ownBlock ∧ some k_ ≠ (s_.2.2.2.2.2.1 : Value).ownBlock ∧ some k_ ≠ (.slice Ao43 t198.length co43 : Value).ownBlock ∧ some k_ ≠ (.slice Ao45 t201.length co45 : Value).ownBlock ∧ some k_ ≠ (.slice Ao51 t244.length co51 : Value).ownBlock ∧ some k_ ≠ (.slice Ao61 t247.length co61 : Value).ownBlock ∧ some k_ ≠ (.slice Ao67 t248.length co67 : Value).ownBlock ∧ some k_ ≠ (.slice Ao71 t220.length co71 : Value).ownBlock ∧ some k_ ≠ (.slice Ao78 t223.length co78 : Value).ownBlock) (.slice Ao56 t245.length co56) t245) ∧ (Kd.R (Kd.int .i64) 3 w' w.heap.size (fun k_ => some k_ ≠ (s_.1 : Value).ownBlock ∧ some k_ ≠ (s_.2.1 : Value).ownBlock ∧ some k_ ≠ (s_.2.2.1 : Value).ownBlock ∧ some k_ ≠ (s_.2.2.2.1 : Value).ownBlock ∧ some k_ ≠ (s_.2.2.2.2.1 : Value).ownBlock ∧ some k_ ≠ (s_.2.2.2.2.2.1 : Value).ownBlock ∧ some k_ ≠ (.slice Ao43 t198.length co43 : Value).ownBlock ∧ some k_ ≠ (.slice Ao45 t201.length co45 : Value).ownBlock ∧ some k_ ≠ (.slice Ao51 t244.length co51 : Value).ownBlock ∧ some k_ ≠ (.slice Ao56 t245.length co56 : Value).ownBlock ∧ some k_ ≠ (.slice Ao67 t248.length co67 : Value).ownBlock ∧ some k_ ≠ (.slice Ao71 t220.length co71 : Value).ownBlock ∧ some k_ ≠ (.slice Ao78 t223.length co78 : Value).ownBlock) (.slice Ao61 t247.length co61) t247) ∧ (Kd.R (Kd.int .i64) 3 w' w.heap.size (fun k_ => some k_ ≠ (s_.1 : Value).ownBlock ∧ some k_ ≠ (s_.2.1 : Value).ownBlock ∧ some k_ ≠ (s_.2.2.1 : Value).ownBlock ∧ some k_ ≠ (s_.2.2.2.1 : Value).ownBlock ∧ some k_ ≠ (s_.2.2.2.2.1 : Value).ownBlock ∧ some k_ ≠ (s_.2.2.2.2.2.1 : Value).ownBlock ∧ some k_ ≠ (.slice Ao43 t198.length co43 : Value).ownBlock ∧ some k_ ≠ (.slice Ao45 t201.length co45 : Value).ownBlock ∧ some k_ ≠ (.slice Ao51 t244.length co51 : Value).ownBlock ∧ some k_ ≠ (.slice Ao56 t245.length co56 : Value).ownBlock ∧ some k_ ≠ (.slice Ao61 t247.length co61 : Value).ownBlock ∧ some k_ ≠ (.slice Ao71 t220.length co71 : Value).ownBlock ∧ some k_ ≠ (.slice Ao78 t223.length co78 : Value).ownBlock) (.slice Ao67 t248.length co67) t248) ∧ (Kd.R (Kd.int .i64) 3 w' w.heap.size (fun k_ => some k_ ≠ (s_.1 : Value).ownBlock ∧ some k_ ≠ (s_.2.1 : Value).ownBlock ∧ some k_ ≠ (s_.2.2.1 : Value).ownBlock ∧ some k_ ≠ (s_.2.2.2.1 : Value).ownBlock ∧ some k_ ≠ (s_.2.2.2.2.1 : Value).ownBlock ∧ some k_ ≠ (s_.2.2.2.2.2.1 : Value).ownBlock ∧ some k_ ≠ (.slice Ao43 t198.length co43 : Value).ownBlock ∧ some k_ ≠ (.slice Ao45 t201.length co45 : Value).ownBlock ∧ some k_ ≠ (.slice Ao51 t244.length co51 : Value).ownBlock ∧ some k_ ≠ (.slice Ao56 t245.length co56 : Value).ownBlock ∧ some k_ ≠ (.slice Ao61 t247.length co61 : Value).ownBlock ∧ some k_ ≠ (.slice Ao67 t248.length co67 : Value).ownBlock ∧ some k_ ≠ (.slice Ao78 t223.length co78 : Value).ownBlock) (.slice Ao71 t220.length co71) t251) ∧ (Kd.R (Kd.int .i64) 3 w' w.heap.size (fun k_ => some k_ ≠ (s_.1 : Value).ownBlock ∧ some k_ ≠ (s_.2.1 : Value).ownBlock ∧ some k_ ≠ (s_.2.2.1 : Value).ownBlock ∧ some k_ ≠ (s_.2.2.2.1 : Value).ownBlock ∧ some k_ ≠ (s_.2.2.2.2.1 : Value).ownBlock ∧ some k_ ≠ (s_.2.2.2.2.2.1 : Value).ownBlock ∧ some k_ ≠ (.slice Ao43 t198.length co43 : Value).ownBlock ∧ some k_ ≠ (.slice Ao45 t201.length co45 : Value).ownBlock ∧ some k_ ≠ (.slice Ao51 t244.length co51 : Value).ownBlock ∧ some k_ ≠ (.slice Ao56 t245.length co56 : Value).ownBlock ∧ some k_ ≠ (.slice Ao61 t247.length co61 : Value).ownBlock ∧ some k_ ≠ (.slice Ao67 t248.length co67 : Value).ownBlock ∧ some k_ ≠ (.slice Ao71 t220.length co71 : Value).ownBlock) (.slice Ao78 t223.length co78) t252) ∧ (w'.heap[gb182]? = some (.cells #[.slice A0_0 l0_0.length c0_0, .slice A0_1 l0_1.length c0_1] 24 (0, 0))) ∧ (w'.heap[gb183]? = some (.cells #[.slice A1_0 l1_0.length c1_0, .slice A1_1 l1_1.length c1_1] 24 (0, 0))) ∧ (w'.heap[gb205]? = some (.cells #[.slice Ao43 t198.length co43, .slice Ao45 t201.length co45] 27 (0, 0))) ∧ (w'.heap[gb212]? = some (.cells #[.slice Ao51 t244.length co51, .slice Ao56 t245.length co56] 27 (0, 0))) ∧ (w'.heap[gb219]? = some (.cells #[.slice Ao61 t247.length co61, .slice Ao67 t248.length co67] 27 (0, 0))) ∧ (w'.heap[gb227]? = some (.cells #[.slice Ao71 t220.length co71, .slice Ao78 t223.length co78] 27 (0, 0))) ∧ (w'.heap[s_.2.2.2.2.2.2]? = some (.cells #[.slice none 0 0, .slice none 0 0] 27 (0, 0))) ∧ (w.heap.size ≤ s_.2.2.2.2.2.2) ∧ (w.heap.size ≤ s_.2.2.2.2.2.2) ∧ (gb182 ≠ s_.2.2.2.2.2.2) ∧ (s_.2.2.2.2.2.2 ≠ gb182) ∧ (gb183 ≠ s_.2.2.2.2.2.2) ∧ (s_.2.2.2.2.2.2 ≠ gb183) ∧ (gb205 ≠ s_.2.2.2.2.2.2) ∧ (s_.2.2.2.2.2.2 ≠ gb205) ∧ (gb212 ≠ s_.2.2.2.2.2.2) ∧ (s_.2.2.2.2.2.2 ≠ gb212) ∧ (gb219 ≠ s_.2.2.2.2.2.2) ∧ (s_.2.2.2.2.2.2 ≠ gb219) ∧ (gb227 ≠ s_.2.2.2.2.2.2) ∧ (s_.2.2.2.2.2.2 ≠ gb227) ∧ (Below w.heap.size w w')) ?_ ?_
 rotate_left
 ·intro hCont
  refine two_ (i := 1) (j := 8) (Ni := some 96) (Nj := some 15) #[true, true, true, false, false, false, false, false, false, false, false] #[true, false, true, false, false, false, false, false, true, false, false] rfl rfl rfl rfl (two_of HT_.out (by kernel_rfl)) (by decide) (by decide) (fun K hK => ?_) (fun K hK => ?_)
  ·skip
   refine goes_ Try.func12 (by kernel_rfl) rfl #[.agg #[.slice A0_0 l0_0.length c0_0, .slice A0_1 l0_1.length c0_1]] (by rfl) rfl rfl nc_ ?_
   with_reducible refine (laws_toCounter.calls kj101 _ _ l0_0 _ _ l0_1 t254 t257 _ ?side1 ?side2 ?side3 ?side4 A146.out).mono ?_
   (case side1 => exact kc_ (Kd.C_below HR0_0.out HB.out))
   (case side2 => exact HC0_0.out)
   (case side3 => exact kc_ (Kd.C_below HR0_1.out HB.out))
   (case side4 => exact HC0_1.out)
   rintro e w160 ⟨v255, v258, rfl, ho0, ho1, hb⟩
   refine ⟨_, rfl, ?_⟩
   have HO256 := Aside0.mk (Kd.R_lower (rn_ (rn_ (rn_ (rn_ (rn_ (rn_ (rn_ (rn_ ho0 HO_206000.out) HO_206001.out) HO_213000.out) HO_213001.out) HO_220000.out) HO_220001.out) HO_228000.out) HO_228001.out) bz_)
   have HO259 := Aside0.mk (Kd.R_lower (rn_ (rn_ (rn_ (rn_ (rn_ (rn_ (rn_ (rn_ ho1 HO_206000.out) HO_206001.out) HO_213000.out) HO_213001.out) HO_220000.out) HO_220001.out) HO_228000.out) HO_228001.out) bz_)
   replace HO_206000 := rp2_ HO_206000 hb ho0 ho1
   replace HO_206001 := rp2_ HO_206001 hb ho0 ho1
   replace HO_213000 := rp2_ HO_213000 hb ho0 ho1
   replace HO_213001 := rp2_ HO_213001 hb ho0 ho1
   replace HO_220000 := rp2_ HO_220000 hb ho0 ho1
   replace HO_220001 := rp2_ HO_220001 hb ho0 ho1
   replace HO_228000 := rp2_ HO_228000 hb ho0 ho1
   replace HO_228001 := rp2_ HO_228001 hb ho0 ho1
   replace BK182 := bb_ BK182 hb
   replace BK183 := bb_ BK183 hb
   replace BK205 := bb_ BK205 hb
   replace BK212 := bb_ BK212 hb
   replace BK219 := bb_ BK219 hb
   replace BK227 := bb_ BK227 hb
   replace HB := Aside0.mk (below_step bl_ hb)
   clear hb ho0 ho1
   refine hK.out _ _ ⟨bc_ BK182.out 0, bc_ BK182.out 1, bc_ BK183.out 0, bc_ BK183.out 1⟩ (fun hHeld => ?_)
   clear hK K
   refine norm_ nn_ ?_
   refine two_ (i := 3) (j := 8) (Ni := some 98) (Nj := some 15) #[true, true, true, true, false, false, false, false, false, false, false] #[true, true, true, false, false, false, false, false, true, false, false] rfl rfl rfl rfl (two_of HT_.out (by kernel_rfl)) (by decide) (by decide) (fun K hK => ?_) (fun K hK => ?_)
   ·skip
    refine goes_ Try.func12 (by kernel_rfl) rfl #[.agg #[.slice A1_0 l1_0.length c1_0, .slice A1_1 l1_1.length c1_1]] (by rfl) rfl rfl nc_ ?_
    with_reducible refine (laws_toCounter.calls kj101 _ _ l1_0 _ _ l1_1 t260 t263 _ ?side1 ?side2 ?side3 ?side4 A147.out).mono ?_
    (case side1 => exact kc_ (Kd.C_below HR1_0.out HB.out))
    (case side2 => exact HC1_0.out)
    (case side3 => exact kc_ (Kd.C_below HR1_1.out HB.out))
    (case side4 => exact HC1_1.out)
    rintro e w161 ⟨v261, v264, rfl, ho0, ho1, hb⟩
    refine ⟨_, rfl, ?_⟩
    have HO262 := Aside0.mk (Kd.R_lower (Kd.R_new' (rn_ (rn_ (rn_ (rn_ (rn_ (rn_ (rn_ (rn_ (rn_ ho0 HO_206000.out) HO_206001.out) HO_213000.out) HO_213001.out) HO_220000.out) HO_220001.out) HO_228000.out) HO_228001.out) HO256.out) (Kd.R_lt (kr_ HO259.out))) bz_)
    have HO265 := Aside0.mk (Kd.R_lower (Kd.R_new' (rn_ (rn_ (rn_ (rn_ (rn_ (rn_ (rn_ (rn_ (rn_ ho1 HO_206000.out) HO_206001.out) HO_213000.out) HO_213001.out) HO_220000.out) HO_220001.out) HO_228000.out) HO_228001.out) HO256.out) (Kd.R_lt (kr_ HO259.out))) bz_)
    replace HO_206000 := rp2_ HO_206000 hb ho0 ho1
    replace HO_206001 := rp2_ HO_206001 hb ho0 ho1
    replace HO_213000 := rp2_ HO_213000 hb ho0 ho1
    replace HO_213001 := rp2_ HO_213001 hb ho0 ho1
    replace HO_220000 := rp2_ HO_220000 hb ho0 ho1
    replace HO_220001 := rp2_ HO_220001 hb ho0 ho1
    replace HO_228000 := rp2_ HO_228000 hb ho0 ho1
    replace HO_228001 := rp2_ HO_228001 hb ho0 ho1
    replace HO256 := rp2_ HO256 hb ho0 ho1
    replace HO259 := rp2_ HO259 hb ho0 ho1
    replace BK182 := bb_ BK182 hb
    replace BK183 := bb_ BK183 hb
    replace BK205 := bb_ BK205 hb
    replace BK212 := bb_ BK212 hb
    replace BK219 := bb_ BK219 hb
    replace BK227 := bb_ BK227 hb
    replace HB := Aside0.mk (below_step bl_ hb)
    clear hb ho0 ho1
    obtain ⟨Ao162, co162, eo162⟩ := Kd.R_slice HO256.out
    (first | subst eo162 | (injection eo162 with f1_ f2_ f3_; have f4_ := f1_.symm; have f5_ := f3_.symm; clear f1_ f2_ f3_; subst f4_; subst f5_))
    obtain ⟨Ao163, co163, eo163⟩ := Kd.R_slice HO259.out
    (first | subst eo163 | (injection eo163 with f1_ f2_ f3_; have f4_ := f1_.symm; have f5_ := f3_.symm; clear f1_ f2_ f3_; subst f4_; subst f5_))
    obtain ⟨Ao164, co164, eo164⟩ := Kd.R_slice HO262.out
    (first | subst eo164 | (injection eo164 with f1_ f2_ f3_; have f4_ := f1_.symm; have f5_ := f3_.symm; clear f1_ f2_ f3_; subst f4_; subst f5_))
    obtain ⟨Ao165, co165, eo165⟩ := Kd.R_slice HO265.out
    (first | subst eo165 | (injection eo165 with f1_ f2_ f3_; have f4_ := f1_.symm; have f5_ := f3_.symm; clear f1_ f2_ f3_; subst f4_; subst f5_))
    refine hK.out _ _ ⟨bc_ BK182.out 0, bc_ BK182.out 1, bc_ BK183.out 0, bc_ BK183.out 1⟩ (fun hHeld => ?_)
    clear hK K
    refine norm_ nn_ ?_
    refine two_ (i := 4) (j := 8) (Ni := some 99) (Nj := some 15) #[true, true, true, true, true, false, false, false, false, false, false] #[true, true, true, true, false, false, false, false, true, false, false] rfl rfl rfl rfl (two_of HT_.out (by kernel_rfl)) (by decide) (by decide) (fun K hK => ?_) (fun K hK => ?_)
    ·skip
     refine goes_ Try.func24 (by kernel_rfl) rfl #[.agg #[.slice Ao162 t254.length co162, .slice Ao163 t257.length co163], .agg #[.slice Ao164 t260.length co164, .slice Ao165 t263.length co165]] (by rfl) rfl rfl nc_ ?_
     with_reducible refine (impl_MergeCounter.calls kj101 _ _ t254 _ _ t257 _ _ t260 _ _ t263 t266 t269 t272 _ ?side1 ?side2 ?side3 ?side4 ?side5 ?side6 ?side7 ?side8 A148.out).mono ?_
     (case side1 => exact kc_ (Kd.R_reads' HO256.out).2.2)
     (case side2 => exact (Kd.R_reads' HO256.out).2.1)
     (case side3 => exact kc_ (Kd.R_reads' HO259.out).2.2)
     (case side4 => exact (Kd.R_reads' HO259.out).2.1)
     (case side5 => exact kc_ (Kd.R_reads' HO262.out).2.2)
     (case side6 => exact (Kd.R_reads' HO262.out).2.1)
     (case side7 => exact kc_ (Kd.R_reads' HO265.out).2.2)
     (case side8 => exact (Kd.R_reads' HO265.out).2.1)
     rintro e w166 ⟨v267, v270, rfl, ho0, ho1, hb⟩
     refine ⟨_, rfl, ?_⟩
     have HO268 := Aside0.mk (Kd.R_lower (Kd.R_new' (Kd.R_new' (Kd.R_new' (rn_ (rn_ (rn_ (rn_ (rn_ (rn_ (rn_ (rn_ (rn_ ho0 HO_206000.out) HO_206001.out) HO_213000.out) HO_213001.out) HO_220000.out) HO_220001.out) HO_228000.out) HO_228001.out) HO256.out) (Kd.R_lt (kr_ HO259.out))) (Kd.R_lt (kr_ HO262.out))) (Kd.R_lt (kr_ HO265.out))) bz_)
     have HO271 := Aside0.mk (Kd.R_lower (Kd.R_new' (Kd.R_new' (Kd.R_new' (rn_ (rn_ (rn_ (rn_ (rn_ (rn_ (rn_ (rn_ (rn_ ho1 HO_206000.out) HO_206001.out) HO_213000.out) HO_213001.out) HO_220000.out) HO_220001.out) HO_228000.out) HO_228001.out) HO256.out) (Kd.R_lt (kr_ HO259.out))) (Kd.R_lt (kr_ HO262.out))) (Kd.R_lt (kr_ HO265.out))) bz_)
     replace HO_206000 := rp2_ HO_206000 hb ho0 ho1
     replace HO_206001 := rp2_ HO_206001 hb ho0 ho1
     replace HO_213000 := rp2_ HO_213000 hb ho0 ho1
     replace HO_213001 := rp2_ HO_213001 hb ho0 ho1
     replace HO_220000 := rp2_ HO_220000 hb ho0 ho1
     replace HO_220001 := rp2_ HO_220001 hb ho0 ho1
     replace HO_228000 := rp2_ HO_228000 hb ho0 ho1
     replace HO_228001 := rp2_ HO_228001 hb ho0 ho1
     replace HO256 := rp2_ HO256 hb ho0 ho1
     replace HO259 := rp2_ HO259 hb ho0 ho1
     replace HO262 := rp2_ HO262 hb ho0 ho1
     replace HO265 := rp2_ HO265 hb ho0 ho1
     replace BK182 := bb_ BK182 hb
     replace BK183 := bb_ BK183 hb
     replace BK205 := bb_ BK205 hb
     replace BK212 := bb_ BK212 hb
     replace BK219 := bb_ BK219 hb
     replace BK227 := bb_ BK227 hb
     replace HB := Aside0.mk (below_step bl_ hb)
     clear hb ho0 ho1
     refine hK.out _ _ ⟨bc_ BK182.out 0, bc_ BK182.out 1, bc_ BK183.out 0, bc_ BK183.out 1⟩ (fun hHeld => ?_)
     clear hK K
     refine norm_ nn_ ?_
     refine pure_ (i := 5) (N := some 94) (v := ?_) (a' := ?_) #[true, true, true, true, true, true, false, false, false, false, false] rfl rfl (any_of HT_.out (by kernel_rfl)) (fun _ _ _ h => h) (Or.inl ⟨by rfl, ?_⟩) ?_ ?_
     rotate_left
     ·intro w'
      go_simp
      with_reducible rfl
     rotate_left
     ·simp only [Act.put, List.setIfInBounds_toArray, List.set_cons_zero, List.set_cons_succ, i64_w, i32_w]
      rfl
     refine pure_ (i := 6) (N := some 100) (v := ?_) (a' := ?_) #[true, true, true, true, true, true, true, false, false, false, false] rfl rfl (any_of HT_.out (by kernel_rfl)) (fun _ _ _ h => h) (Or.inl ⟨by rfl, ?_⟩) ?_ ?_
     rotate_left
     ·intro w'
      go_simp
      with_reducible rfl
     rotate_left
     ·simp only [Act.put, List.setIfInBounds_toArray, List.set_cons_zero, List.set_cons_succ, i64_w, i32_w]
      rfl
     refine pure_ (i := 7) (N := some 101) (v := ?_) (a' := ?_) #[true, true, true, true, true, true, true, true, false, false, false] rfl rfl (any_of HT_.out (by kernel_rfl)) (fun _ _ _ h => h) (Or.inl ⟨by rfl, ?_⟩) ?_ ?_
     rotate_left
     ·intro w'
      go_simp
      with_reducible rfl
     rotate_left
     ·simp only [Act.put, List.setIfInBounds_toArray, List.set_cons_zero, List.set_cons_succ, i64_w, i32_w]
      rfl
     refine one_ (i := 8) (N := some 15) #[true, true, true, true, true, true, true, true, true, false, false] rfl rfl (one_of HT_.out (by kernel_rfl)) (by decide) (fun K hK => ?_)
     refine box_step rfl (N := 15) rfl (cs := #[.slice none 0 0, .slice none 0 0]) (t := 27) gs_ ?_
     intro gb273 hg w167 hbox hb
     replace HO_206000 := rb_ HO_206000 hb
     replace HO_206001 := rb_ HO_206001 hb
     replace HO_213000 := rb_ HO_213000 hb
     replace HO_213001 := rb_ HO_213001 hb
     replace HO_220000 := rb_ HO_220000 hb
     replace HO_220001 := rb_ HO_220001 hb
     replace HO_228000 := rb_ HO_228000 hb
     replace HO_228001 := rb_ HO_228001 hb
     replace HO256 := rb_ HO256 hb
     replace HO259 := rb_ HO259 hb
     replace HO262 := rb_ HO262 hb
     replace HO265 := rb_ HO265 hb
     replace HO268 := rb_ HO268 hb
     replace HO271 := rb_ HO271 hb
     have BK273 := Aside0.mk (hbox)
     have GW273 := Aside0.mk ((by rw [hg]; exact bz_ : w.heap.size ≤ gb273))
     have GE273 := GW273
     replace HB := Aside0.mk (below_step bl_ hb)
     have NB182_273 := nl_ hg BK182
     have NB273_182 := nm_ hg BK182
     replace BK182 := bb_ BK182 hb
     have NB183_273 := nl_ hg BK183
     have NB273_183 := nm_ hg BK183
     replace BK183 := bb_ BK183 hb
     have NB205_273 := nl_ hg BK205
     have NB273_205 := nm_ hg BK205
     replace BK205 := bb_ BK205 hb
     have NB212_273 := nl_ hg BK212
     have NB273_212 := nm_ hg BK212
     replace BK212 := bb_ BK212 hb
     have NB219_273 := nl_ hg BK219
     have NB273_219 := nm_ hg BK219
     replace BK219 := bb_ BK219 hb
     have NB227_273 := nl_ hg BK227
     have NB273_227 := nm_ hg BK227
     replace BK227 := bb_ BK227 hb
     clear hb hbox hg
     refine hK.out _ _ ⟨bc_ BK182.out 0, bc_ BK182.out 1, bc_ BK183.out 0, bc_ BK183.out 1⟩ (fun hHeld => ?_)
     clear hK K
     refine norm_ nn_ ?_
     exact norm_ (by simp only [putAll, Act.put, List.setIfInBounds_toArray, List.set_cons_zero, List.set_cons_succ]) (hCont (.slice Ao162 t254.length co162, .slice Ao163 t257.length co163, .slice Ao164 t260.length co164, .slice Ao165 t263.length co165, v267, v270, gb273) _ ⟨hHeld, kp_ HO256.out, kp_ HO259.out, kp_ HO262.out, kp_ HO265.out, kp_ HO268.out, kp_ HO271.out, kp_ HO_206000.out, kp_ HO_206001.out, kp_ HO_213000.out, kp_ HO_213001.out, kp_ HO_220000.out, kp_ HO_220001.out, kp_ HO_228000.out, kp_ HO_228001.out, kb_ BK182.out, kb_ BK183.out, kb_ BK205.out, kb_ BK212.out, kb_ BK219.out, kb_ BK227.out, kb_ BK273.out, GW273.out, GE273.out, NB182_273.out, NB273_182.out, NB183_273.out, NB273_183.out, NB205_273.out, NB273_205.out, NB212_273.out, NB273_212.out, NB219_273.out, NB273_219.out, NB227_273.out, NB273_227.out, bl_⟩)
    ·skip
     refine box_step rfl (N := 15) rfl (cs := #[.slice none 0 0, .slice none 0 0]) (t := 27) gs_ ?_
     intro gb273 hg w162 hbox hb
     replace HO_206000 := rb_ HO_206000 hb
     replace HO_206001 := rb_ HO_206001 hb
     replace HO_213000 := rb_ HO_213000 hb
     replace HO_213001 := rb_ HO_213001 hb
     replace HO_220000 := rb_ HO_220000 hb
     replace HO_220001 := rb_ HO_220001 hb
     replace HO_228000 := rb_ HO_228000 hb
     replace HO_228001 := rb_ HO_228001 hb
     replace HO256 := rb_ HO256 hb
     replace HO259 := rb_ HO259 hb
     replace HO262 := rb_ HO262 hb
     replace HO265 := rb_ HO265 hb
     have BK273 := Aside0.mk (hbox)
     have GW273 := Aside0.mk ((by rw [hg]; exact bz_ : w.heap.size ≤ gb273))
     have GE273 := GW273
     replace HB := Aside0.mk (below_step bl_ hb)
     have NB182_273 := nl_ hg BK182
     have NB273_182 := nm_ hg BK182
     replace BK182 := bb_ BK182 hb
     have NB183_273 := nl_ hg BK183
     have NB273_183 := nm_ hg BK183
     replace BK183 := bb_ BK183 hb
     have NB205_273 := nl_ hg BK205
     have NB273_205 := nm_ hg BK205
     replace BK205 := bb_ BK205 hb
     have NB212_273 := nl_ hg BK212
     have NB273_212 := nm_ hg BK212
     replace BK212 := bb_ BK212 hb
     have NB219_273 := nl_ hg BK219
     have NB273_219 := nm_ hg BK219
     replace BK219 := bb_ BK219 hb
     have NB227_273 := nl_ hg BK227
     have NB273_227 := nm_ hg BK227
     replace BK227 := bb_ BK227 hb
     clear hb hbox hg
     obtain ⟨Ao163, co163, eo163⟩ := Kd.R_slice HO256.out
     (first | subst eo163 | (injection eo163 with f1_ f2_ f3_; have f4_ := f1_.symm; have f5_ := f3_.symm; clear f1_ f2_ f3_; subst f4_; subst f5_))
     obtain ⟨Ao164, co164, eo164⟩ := Kd.R_slice HO259.out
     (first | subst eo164 | (injection eo164 with f1_ f2_ f3_; have f4_ := f1_.symm; have f5_ := f3_.symm; clear f1_ f2_ f3_; subst f4_; subst f5_))
     obtain ⟨Ao165, co165, eo165⟩ := Kd.R_slice HO262.out
     (first | subst eo165 | (injection eo165 with f1_ f2_ f3_; have f4_ := f1_.symm; have f5_ := f3_.symm; clear f1_ f2_ f3_; subst f4_; subst f5_))
     obtain ⟨Ao166, co166, eo166⟩ := Kd.R_slice HO265.out
     (first | subst eo166 | (injection eo166 with f1_ f2_ f3_; have f4_ := f1_.symm; have f5_ := f3_.symm; clear f1_ f2_ f3_; subst f4_; subst f5_))
     refine hK.out _ _ ⟨bc_ BK182.out 0, bc_ BK182.out 1, bc_ BK183.out 0, bc_ BK183.out 1⟩ (fun hHeld => ?_)
     clear hK K
     refine norm_ nn_ ?_
     refine one_ (i := 4) (N := some 99) #[true, true, true, true, true, false, false, false, true, false, false] rfl rfl (one_of HT_.out (by kernel_rfl)) (by decide) (fun K hK => ?_)
     refine goes_ Try.func24 (by kernel_rfl) rfl #[.agg #[.slice Ao163 t254.length co163, .slice Ao164 t257.length co164], .agg #[.slice Ao165 t260.length co165, .slice Ao166 t263.length co166]] (by rfl) rfl rfl nc_ ?_
     with_reducible refine (impl_MergeCounter.calls kj101 _ _ t254 _ _ t257 _ _ t260 _ _ t263 t266 t269 t272 _ ?side1 ?side2 ?side3 ?side4 ?side5 ?side6 ?side7 ?side8 A148.out).mono ?_
     (case side1 => exact kc_ (Kd.R_reads' HO256.out).2.2)
     (case side2 => exact (Kd.R_reads' HO256.out).2.1)
     (case side3 => exact kc_ (Kd.R_reads' HO259.out).2.2)
     (case side4 => exact (Kd.R_reads' HO259.out).2.1)
     (case side5 => exact kc_ (Kd.R_reads' HO262.out).2.2)
     (case side6 => exact (Kd.R_reads' HO262.out).2.1)
     (case side7 => exact kc_ (Kd.R_reads' HO265.out).2.2)
     (case side8 => exact (Kd.R_reads' HO265.out).2.1)
     rintro e w167 ⟨v267, v270, rfl, ho0, ho1, hb⟩
     refine ⟨_, rfl, ?_⟩
     have HO268 := Aside0.mk (Kd.R_lower (Kd.R_new' (Kd.R_new' (Kd.R_new' (rn_ (rn_ (rn_ (rn_ (rn_ (rn_ (rn_ (rn_ (rn_ ho0 HO_206000.out) HO_206001.out) HO_213000.out) HO_213001.out) HO_220000.out) HO_220001.out) HO_228000.out) HO_228001.out) HO256.out) (Kd.R_lt (kr_ HO259.out))) (Kd.R_lt (kr_ HO262.out))) (Kd.R_lt (kr_ HO265.out))) bz_)
     have HO271 := Aside0.mk (Kd.R_lower (Kd.R_new' (Kd.R_new' (Kd.R_new' (rn_ (rn_ (rn_ (rn_ (rn_ (rn_ (rn_ (rn_ (rn_ ho1 HO_206000.out) HO_206001.out) HO_213000.out) HO_213001.out) HO_220000.out) HO_220001.out) HO_228000.out) HO_228001.out) HO256.out) (Kd.R_lt (kr_ HO259.out))) (Kd.R_lt (kr_ HO262.out))) (Kd.R_lt (kr_ HO265.out))) bz_)
     replace HO_206000 := rp2_ HO_206000 hb ho0 ho1
     replace HO_206001 := rp2_ HO_206001 hb ho0 ho1
     replace HO_213000 := rp2_ HO_213000 hb ho0 ho1
     replace HO_213001 := rp2_ HO_213001 hb ho0 ho1
     replace HO_220000 := rp2_ HO_220000 hb ho0 ho1
     replace HO_220001 := rp2_ HO_220001 hb ho0 ho1
     replace HO_228000 := rp2_ HO_228000 hb ho0 ho1
     replace HO_228001 := rp2_ HO_228001 hb ho0 ho1
     replace HO256 := rp2_ HO256 hb ho0 ho1
     replace HO259 := rp2_ HO259 hb ho0 ho1
     replace HO262 := rp2_ HO262 hb ho0 ho1
     replace HO265 := rp2_ HO265 hb ho0 ho1
     replace BK182 := bb_ BK182 hb
     replace BK183 := bb_ BK183 hb
     replace BK205 := bb_ BK205 hb
     replace BK212 := bb_ BK212 hb
     replace BK219 := bb_ BK219 hb
     replace BK227 := bb_ BK227 hb
     replace BK273 := bb_ BK273 hb
     replace HB := Aside0.mk (below_step bl_ hb)
     clear hb ho0 ho1
     refine hK.out _ _ ⟨bc_ BK182.out 0, bc_ BK182.out 1, bc_ BK183.out 0, bc_ BK183.out 1⟩ (fun hHeld => ?_)
     clear hK K
     refine norm_ nn_ ?_
     refine pure_ (i := 5) (N := some 94) (v := ?_) (a' := ?_) #[true, true, true, true, true, true, false, false, true, false, false] rfl rfl (any_of HT_.out (by kernel_rfl)) (fun _ _ _ h => h) (Or.inl ⟨by rfl, ?_⟩) ?_ ?_
     rotate_left
     ·intro w'
      go_simp
      with_reducible rfl
     rotate_left
     ·simp only [Act.put, List.setIfInBounds_toArray, List.set_cons_zero, List.set_cons_succ, i64_w, i32_w]
      rfl
     refine pure_ (i := 6) (N := some 100) (v := ?_) (a' := ?_) #[true, true, true, true, true, true, true, false, true, false, false] rfl rfl (any_of HT_.out (by kernel_rfl)) (fun _ _ _ h => h) (Or.inl ⟨by rfl, ?_⟩) ?_ ?_
     rotate_left
     ·intro w'
      go_simp
      with_reducible rfl
     rotate_left
     ·simp only [Act.put, List.setIfInBounds_toArray, List.set_cons_zero, List.set_cons_succ, i64_w, i32_w]
      rfl
     refine pure_ (i := 7) (N := some 101) (v := ?_) (a' := ?_) #[true, true, true, true, true, true, true, true, true, false, false] rfl rfl (any_of HT_.out (by kernel_rfl)) (fun _ _ _ h => h) (Or.inl ⟨by rfl, ?_⟩) ?_ ?_
     rotate_left
     ·intro w'
      go_simp
      with_reducible rfl
     rotate_left
     ·simp only [Act.put, List.setIfInBounds_toArray, List.set_cons_zero, List.set_cons_succ, i64_w, i32_w]
      rfl
     exact norm_ (by simp only [putAll, Act.put, List.setIfInBounds_toArray, List.set_cons_zero, List.set_cons_succ]) (hCont (.slice Ao163 t254.length co163, .slice Ao164 t257.length co164, .slice Ao165 t260.length co165, .slice Ao166 t263.length co166, v267, v270, gb273) _ ⟨hHeld, kp_ HO256.out, kp_ HO259.out, kp_ HO262.out, kp_ HO265.out, kp_ HO268.out, kp_ HO271.out, kp_ HO_206000.out, kp_ HO_206001.out, kp_ HO_213000.out, kp_ HO_213001.out, kp_ HO_220000.out, kp_ HO_220001.out, kp_ HO_228000.out, kp_ HO_228001.out, kb_ BK182.out, kb_ BK183.out, kb_ BK205.out, kb_ BK212.out, kb_ BK219.out, kb_ BK227.out, kb_ BK273.out, GW273.out, GE273.out, NB182_273.out, NB273_182.out, NB183_273.out, NB273_183.out, NB205_273.out, NB273_205.out, NB212_273.out, NB273_212.out, NB219_273.out, NB273_219.out, NB227_273.out, NB273_227.out, bl_⟩)
   ·skip
    refine box_step rfl (N := 15) rfl (cs := #[.slice none 0 0, .slice none 0 0]) (t := 27) gs_ ?_
    intro gb273 hg w161 hbox hb
    replace HO_206000 := rb_ HO_206000 hb
    replace HO_206001 := rb_ HO_206001 hb
    replace HO_213000 := rb_ HO_213000 hb
    replace HO_213001 := rb_ HO_213001 hb
    replace HO_220000 := rb_ HO_220000 hb
    replace HO_220001 := rb_ HO_220001 hb
    replace HO_228000 := rb_ HO_228000 hb
    replace HO_228001 := rb_ HO_228001 hb
    replace HO256 := rb_ HO256 hb
    replace HO259 := rb_ HO259 hb
    have BK273 := Aside0.mk (hbox)
    have GW273 := Aside0.mk ((by rw [hg]; exact bz_ : w.heap.size ≤ gb273))
    have GE273 := GW273
    replace HB := Aside0.mk (below_step bl_ hb)
    have NB182_273 := nl_ hg BK182
    have NB273_182 := nm_ hg BK182
    replace BK182 := bb_ BK182 hb
    have NB183_273 := nl_ hg BK183
    have NB273_183 := nm_ hg BK183
    replace BK183 := bb_ BK183 hb
    have NB205_273 := nl_ hg BK205
    have NB273_205 := nm_ hg BK205
    replace BK205 := bb_ BK205 hb
    have NB212_273 := nl_ hg BK212
    have NB273_212 := nm_ hg BK212
    replace BK212 := bb_ BK212 hb
    have NB219_273 := nl_ hg BK219
    have NB273_219 := nm_ hg BK219
    replace BK219 := bb_ BK219 hb
    have NB227_273 := nl_ hg BK227
    have NB273_227 := nm_ hg BK227
    replace BK227 := bb_ BK227 hb
    clear hb hbox hg
    refine hK.out _ _ ⟨bc_ BK182.out 0, bc_ BK182.out 1, bc_ BK183.out 0, bc_ BK183.out 1⟩ (fun hHeld => ?_)
    clear hK K
    refine norm_ nn_ ?_
    refine one_ (i := 3) (N := some 98) #[true, true, true, true, false, false, false, false, true, false, false] rfl rfl (one_of HT_.out (by kernel_rfl)) (by decide) (fun K hK => ?_)
    refine goes_ Try.func12 (by kernel_rfl) rfl #[.agg #[.slice A1_0 l1_0.length c1_0, .slice A1_1 l1_1.length c1_1]] (by rfl) rfl rfl nc_ ?_
    with_reducible refine (laws_toCounter.calls kj101 _ _ l1_0 _ _ l1_1 t260 t263 _ ?side1 ?side2 ?side3 ?side4 A147.out).mono ?_
    (case side1 => exact kc_ (Kd.C_below HR1_0.out HB.out))
    (case side2 => exact HC1_0.out)
    (case side3 => exact kc_ (Kd.C_below HR1_1.out HB.out))
    (case side4 => exact HC1_1.out)
    rintro e w162 ⟨v261, v264, rfl, ho0, ho1, hb⟩
    refine ⟨_, rfl, ?_⟩
    have HO262 := Aside0.mk (Kd.R_lower (Kd.R_new' (rn_ (rn_ (rn_ (rn_ (rn_ (rn_ (rn_ (rn_ (rn_ ho0 HO_206000.out) HO_206001.out) HO_213000.out) HO_213001.out) HO_220000.out) HO_220001.out) HO_228000.out) HO_228001.out) HO256.out) (Kd.R_lt (kr_ HO259.out))) bz_)
    have HO265 := Aside0.mk (Kd.R_lower (Kd.R_new' (rn_ (rn_ (rn_ (rn_ (rn_ (rn_ (rn_ (rn_ (rn_ ho1 HO_206000.out) HO_206001.out) HO_213000.out) HO_213001.out) HO_220000.out) HO_220001.out) HO_228000.out) HO_228001.out) HO256.out) (Kd.R_lt (kr_ HO259.out))) bz_)
    replace HO_206000 := rp2_ HO_206000 hb ho0 ho1
    replace HO_206001 := rp2_ HO_206001 hb ho0 ho1
    replace HO_213000 := rp2_ HO_213000 hb ho0 ho1
    replace HO_213001 := rp2_ HO_213001 hb ho0 ho1
    replace HO_220000 := rp2_ HO_220000 hb ho0 ho1
    replace HO_220001 := rp2_ HO_220001 hb ho0 ho1
    replace HO_228000 := rp2_ HO_228000 hb ho0 ho1
    replace HO_228001 := rp2_ HO_228001 hb ho0 ho1
    replace HO256 := rp2_ HO256 hb ho0 ho1
    replace HO259 := rp2_ HO259 hb ho0 ho1
    replace BK182 := bb_ BK182 hb
    replace BK183 := bb_ BK183 hb
    replace BK205 := bb_ BK205 hb
    replace BK212 := bb_ BK212 hb
    replace BK219 := bb_ BK219 hb
    replace BK227 := bb_ BK227 hb
    replace BK273 := bb_ BK273 hb
    replace HB := Aside0.mk (below_step bl_ hb)
    clear hb ho0 ho1
    obtain ⟨Ao163, co163, eo163⟩ := Kd.R_slice HO256.out
    (first | subst eo163 | (injection eo163 with f1_ f2_ f3_; have f4_ := f1_.symm; have f5_ := f3_.symm; clear f1_ f2_ f3_; subst f4_; subst f5_))
    obtain ⟨Ao164, co164, eo164⟩ := Kd.R_slice HO259.out
    (first | subst eo164 | (injection eo164 with f1_ f2_ f3_; have f4_ := f1_.symm; have f5_ := f3_.symm; clear f1_ f2_ f3_; subst f4_; subst f5_))
    obtain ⟨Ao165, co165, eo165⟩ := Kd.R_slice HO262.out
    (first | subst eo165 | (injection eo165 with f1_ f2_ f3_; have f4_ := f1_.symm; have f5_ := f3_.symm; clear f1_ f2_ f3_; subst f4_; subst f5_))
    obtain ⟨Ao166, co166, eo166⟩ := Kd.R_slice HO265.out
    (first | subst eo166 | (injection eo166 with f1_ f2_ f3_; have f4_ := f1_.symm; have f5_ := f3_.symm; clear f1_ f2_ f3_; subst f4_; subst f5_))
    refine hK.out _ _ ⟨bc_ BK182.out 0, bc_ BK182.out 1, bc_ BK183.out 0, bc_ BK183.out 1⟩ (fun hHeld => ?_)
    clear hK K
    refine norm_ nn_ ?_
    refine one_ (i := 4) (N := some 99) #[true, true, true, true, true, false, false, false, true, false, false] rfl rfl (one_of HT_.out (by kernel_rfl)) (by decide) (fun K hK => ?_)
    refine goes_ Try.func24 (by kernel_rfl) rfl #[.agg #[.slice Ao163 t254.length co163, .slice Ao164 t257.length co164], .agg #[.slice Ao165 t260.length co165, .slice Ao166 t263.length co166]] (by rfl) rfl rfl nc_ ?_
    with_reducible refine (impl_MergeCounter.calls kj101 _ _ t254 _ _ t257 _ _ t260 _ _ t263 t266 t269 t272 _ ?side1 ?side2 ?side3 ?side4 ?side5 ?side6 ?side7 ?side8 A148.out).mono ?_
    (case side1 => exact kc_ (Kd.R_reads' HO256.out).2.2)
    (case side2 => exact (Kd.R_reads' HO256.out).2.1)
    (case side3 => exact kc_ (Kd.R_reads' HO259.out).2.2)
    (case side4 => exact (Kd.R_reads' HO259.out).2.1)
    (case side5 => exact kc_ (Kd.R_reads' HO262.out).2.2)
    (case side6 => exact (Kd.R_reads' HO262.out).2.1)
    (case side7 => exact kc_ (Kd.R_reads' HO265.out).2.2)
    (case side8 => exact (Kd.R_reads' HO265.out).2.1)
    rintro e w167 ⟨v267, v270, rfl, ho0, ho1, hb⟩
    refine ⟨_, rfl, ?_⟩
    have HO268 := Aside0.mk (Kd.R_lower (Kd.R_new' (Kd.R_new' (Kd.R_new' (rn_ (rn_ (rn_ (rn_ (rn_ (rn_ (rn_ (rn_ (rn_ ho0 HO_206000.out) HO_206001.out) HO_213000.out) HO_213001.out) HO_220000.out) HO_220001.out) HO_228000.out) HO_228001.out) HO256.out) (Kd.R_lt (kr_ HO259.out))) (Kd.R_lt (kr_ HO262.out))) (Kd.R_lt (kr_ HO265.out))) bz_)
    have HO271 := Aside0.mk (Kd.R_lower (Kd.R_new' (Kd.R_new' (Kd.R_new' (rn_ (rn_ (rn_ (rn_ (rn_ (rn_ (rn_ (rn_ (rn_ ho1 HO_206000.out) HO_206001.out) HO_213000.out) HO_213001.out) HO_220000.out) HO_220001.out) HO_228000.out) HO_228001.out) HO256.out) (Kd.R_lt (kr_ HO259.out))) (Kd.R_lt (kr_ HO262.out))) (Kd.R_lt (kr_ HO265.out))) bz_)
    replace HO_206000 := rp2_ HO_206000 hb ho0 ho1
    replace HO_206001 := rp2_ HO_206001 hb ho0 ho1
    replace HO_213000 := rp2_ HO_213000 hb ho0 ho1
    replace HO_213001 := rp2_ HO_213001 hb ho0 ho1
    replace HO_220000 := rp2_ HO_220000 hb ho0 ho1
    replace HO_220001 := rp2_ HO_220001 hb ho0 ho1
    replace HO_228000 := rp2_ HO_228000 hb ho0 ho1
    replace HO_228001 := rp2_ HO_228001 hb ho0 ho1
    replace HO256 := rp2_ HO256 hb ho0 ho1
    replace HO259 := rp2_ HO259 hb ho0 ho1
    replace HO262 := rp2_ HO262 hb ho0 ho1
    replace HO265 := rp2_ HO265 hb ho0 ho1
    replace BK182 := bb_ BK182 hb
    replace BK183 := bb_ BK183 hb
    replace BK205 := bb_ BK205 hb
    replace BK212 := bb_ BK212 hb
    replace BK219 := bb_ BK219 hb
    replace BK227 := bb_ BK227 hb
    replace BK273 := bb_ BK273 hb
    replace HB := Aside0.mk (below_step bl_ hb)
    clear hb ho0 ho1
    refine hK.out _ _ ⟨bc_ BK182.out 0, bc_ BK182.out 1, bc_ BK183.out 0, bc_ BK183.out 1⟩ (fun hHeld => ?_)
    clear hK K
    refine norm_ nn_ ?_
    refine pure_ (i := 5) (N := some 94) (v := ?_) (a' := ?_) #[true, true, true, true, true, true, false, false, true, false, false] rfl rfl (any_of HT_.out (by kernel_rfl)) (fun _ _ _ h => h) (Or.inl ⟨by rfl, ?_⟩) ?_ ?_
    rotate_left
    ·intro w'
     go_simp
     with_reducible rfl
    rotate_left
    ·simp only [Act.put, List.setIfInBounds_toArray, List.set_cons_zero, List.set_cons_succ, i64_w, i32_w]
     rfl
    refine pure_ (i := 6) (N := some 100) (v := ?_) (a' := ?_) #[true, true, true, true, true, true, true, false, true, false, false] rfl rfl (any_of HT_.out (by kernel_rfl)) (fun _ _ _ h => h) (Or.inl ⟨by rfl, ?_⟩) ?_ ?_
    rotate_left
    ·intro w'
     go_simp
     with_reducible rfl
    rotate_left
    ·simp only [Act.put, List.setIfInBounds_toArray, List.set_cons_zero, List.set_cons_succ, i64_w, i32_w]
     rfl
    refine pure_ (i := 7) (N := some 101) (v := ?_) (a' := ?_) #[true, true, true, true, true, true, true, true, true, false, false] rfl rfl (any_of HT_.out (by kernel_rfl)) (fun _ _ _ h => h) (Or.inl ⟨by rfl, ?_⟩) ?_ ?_
    rotate_left
    ·intro w'
     go_simp
     with_reducible rfl
    rotate_left
    ·simp only [Act.put, List.setIfInBounds_toArray, List.set_cons_zero, List.set_cons_succ, i64_w, i32_w]
     rfl
    exact norm_ (by simp only [putAll, Act.put, List.setIfInBounds_toArray, List.set_cons_zero, List.set_cons_succ]) (hCont (.slice Ao163 t254.length co163, .slice Ao164 t257.length co164, .slice Ao165 t260.length co165, .slice Ao166 t263.length co166, v267, v270, gb273) _ ⟨hHeld, kp_ HO256.out, kp_ HO259.out, kp_ HO262.out, kp_ HO265.out, kp_ HO268.out, kp_ HO271.out, kp_ HO_206000.out, kp_ HO_206001.out, kp_ HO_213000.out, kp_ HO_213001.out, kp_ HO_220000.out, kp_ HO_220001.out, kp_ HO_228000.out, kp_ HO_228001.out, kb_ BK182.out, kb_ BK183.out, kb_ BK205.out, kb_ BK212.out, kb_ BK219.out, kb_ BK227.out, kb_ BK273.out, GW273.out, GE273.out, NB182_273.out, NB273_182.out, NB183_273.out, NB273_183.out, NB205_273.out, NB273_205.out, NB212_273.out, NB273_212.out, NB219_273.out, NB273_219.out, NB227_273.out, NB273_227.out, bl_⟩)
  ·skip
   refine box_step rfl (N := 15) rfl (cs := #[.slice none 0 0, .slice none 0 0]) (t := 27) gs_ ?_
   intro gb273 hg w160 hbox hb
   replace HO_206000 := rb_ HO_206000 hb
   replace HO_206001 := rb_ HO_206001 hb
   replace HO_213000 := rb_ HO_213000 hb
   replace HO_213001 := rb_ HO_213001 hb
   replace HO_220000 := rb_ HO_220000 hb
   replace HO_220001 := rb_ HO_220001 hb
   replace HO_228000 := rb_ HO_228000 hb
   replace HO_228001 := rb_ HO_228001 hb
   have BK273 := Aside0.mk (hbox)
   have GW273 := Aside0.mk ((by rw [hg]; exact bz_ : w.heap.size ≤ gb273))
   have GE273 := GW273
   replace HB := Aside0.mk (below_step bl_ hb)
   have NB182_273 := nl_ hg BK182
   have NB273_182 := nm_ hg BK182
   replace BK182 := bb_ BK182 hb
   have NB183_273 := nl_ hg BK183
   have NB273_183 := nm_ hg BK183
   replace BK183 := bb_ BK183 hb
   have NB205_273 := nl_ hg BK205
   have NB273_205 := nm_ hg BK205
   replace BK205 := bb_ BK205 hb
   have NB212_273 := nl_ hg BK212
   have NB273_212 := nm_ hg BK212
   replace BK212 := bb_ BK212 hb
   have NB219_273 := nl_ hg BK219
   have NB273_219 := nm_ hg BK219
   replace BK219 := bb_ BK219 hb
   have NB227_273 := nl_ hg BK227
   have NB273_227 := nm_ hg BK227
   replace BK227 := bb_ BK227 hb
   clear hb hbox hg
   refine hK.out _ _ ⟨bc_ BK182.out 0, bc_ BK182.out 1, bc_ BK183.out 0, bc_ BK183.out 1⟩ (fun hHeld => ?_)
   clear hK K
   refine norm_ nn_ ?_
   refine one_ (i := 1) (N := some 96) #[true, true, true, false, false, false, false, false, true, false, false] rfl rfl (one_of HT_.out (by kernel_rfl)) (by decide) (fun K hK => ?_)
   refine goes_ Try.func12 (by kernel_rfl) rfl #[.agg #[.slice A0_0 l0_0.length c0_0, .slice A0_1 l0_1.length c0_1]] (by rfl) rfl rfl nc_ ?_
   with_reducible refine (laws_toCounter.calls kj101 _ _ l0_0 _ _ l0_1 t254 t257 _ ?side1 ?side2 ?side3 ?side4 A146.out).mono ?_
   (case side1 => exact kc_ (Kd.C_below HR0_0.out HB.out))
   (case side2 => exact HC0_0.out)
   (case side3 => exact kc_ (Kd.C_below HR0_1.out HB.out))
   (case side4 => exact HC0_1.out)
   rintro e w161 ⟨v255, v258, rfl, ho0, ho1, hb⟩
   refine ⟨_, rfl, ?_⟩
   have HO256 := Aside0.mk (Kd.R_lower (rn_ (rn_ (rn_ (rn_ (rn_ (rn_ (rn_ (rn_ ho0 HO_206000.out) HO_206001.out) HO_213000.out) HO_213001.out) HO_220000.out) HO_220001.out) HO_228000.out) HO_228001.out) bz_)
   have HO259 := Aside0.mk (Kd.R_lower (rn_ (rn_ (rn_ (rn_ (rn_ (rn_ (rn_ (rn_ ho1 HO_206000.out) HO_206001.out) HO_213000.out) HO_213001.out) HO_220000.out) HO_220001.out) HO_228000.out) HO_228001.out) bz_)
   replace HO_206000 := rp2_ HO_206000 hb ho0 ho1
   replace HO_206001 := rp2_ HO_206001 hb ho0 ho1
   replace HO_213000 := rp2_ HO_213000 hb ho0 ho1
   replace HO_213001 := rp2_ HO_213001 hb ho0 ho1
   replace HO_220000 := rp2_ HO_220000 hb ho0 ho1
   replace HO_220001 := rp2_ HO_220001 hb ho0 ho1
   replace HO_228000 := rp2_ HO_228000 hb ho0 ho1
   replace HO_228001 := rp2_ HO_228001 hb ho0 ho1
   replace BK182 := bb_ BK182 hb
   replace BK183 := bb_ BK183 hb
   replace BK205 := bb_ BK205 hb
   replace BK212 := bb_ BK212 hb
   replace BK219 := bb_ BK219 hb
   replace BK227 := bb_ BK227 hb
   replace BK273 := bb_ BK273 hb
   replace HB := Aside0.mk (below_step bl_ hb)
   clear hb ho0 ho1
   refine hK.out _ _ ⟨bc_ BK182.out 0, bc_ BK182.out 1, bc_ BK183.out 0, bc_ BK183.out 1⟩ (fun hHeld => ?_)
   clear hK K
   refine norm_ nn_ ?_
   refine one_ (i := 3) (N := some 98) #[true, true, true, true, false, false, false, false, true, false, false] rfl rfl (one_of HT_.out (by kernel_rfl)) (by decide) (fun K hK => ?_)
   refine goes_ Try.func12 (by kernel_rfl) rfl #[.agg #[.slice A1_0 l1_0.length c1_0, .slice A1_1 l1_1.length c1_1]] (by rfl) rfl rfl nc_ ?_
   with_reducible refine (laws_toCounter.calls kj101 _ _ l1_0 _ _ l1_1 t260 t263 _ ?side1 ?side2 ?side3 ?side4 A147.out).mono ?_
   (case side1 => exact kc_ (Kd.C_below HR1_0.out HB.out))
   (case side2 => exact HC1_0.out)
   (case side3 => exact kc_ (Kd.C_below HR1_1.out HB.out))
   (case side4 => exact HC1_1.out)
   rintro e w162 ⟨v261, v264, rfl, ho0, ho1, hb⟩
   refine ⟨_, rfl, ?_⟩
   have HO262 := Aside0.mk (Kd.R_lower (Kd.R_new' (rn_ (rn_ (rn_ (rn_ (rn_ (rn_ (rn_ (rn_ (rn_ ho0 HO_206000.out) HO_206001.out) HO_213000.out) HO_213001.out) HO_220000.out) HO_220001.out) HO_228000.out) HO_228001.out) HO256.out) (Kd.R_lt (kr_ HO259.out))) bz_)
   have HO265 := Aside0.mk (Kd.R_lower (Kd.R_new' (rn_ (rn_ (rn_ (rn_ (rn_ (rn_ (rn_ (rn_ (rn_ ho1 HO_206000.out) HO_206001.out) HO_213000.out) HO_213001.out) HO_220000.out) HO_220001.out) HO_228000.out) HO_228001.out) HO256.out) (Kd.R_lt (kr_ HO259.out))) bz_)
   replace HO_206000 := rp2_ HO_206000 hb ho0 ho1
   replace HO_206001 := rp2_ HO_206001 hb ho0 ho1
   replace HO_213000 := rp2_ HO_213000 hb ho0 ho1
   replace HO_213001 := rp2_ HO_213001 hb ho0 ho1
   replace HO_220000 := rp2_ HO_220000 hb ho0 ho1
   replace HO_220001 := rp2_ HO_220001 hb ho0 ho1
   replace HO_228000 := rp2_ HO_228000 hb ho0 ho1
   replace HO_228001 := rp2_ HO_228001 hb ho0 ho1
   replace HO256 := rp2_ HO256 hb ho0 ho1
   replace HO259 := rp2_ HO259 hb ho0 ho1
   replace BK182 := bb_ BK182 hb
   replace BK183 := bb_ BK183 hb
   replace BK205 := bb_ BK205 hb
   replace BK212 := bb_ BK212 hb
   replace BK219 := bb_ BK219 hb
   replace BK227 := bb_ BK227 hb
   replace BK273 := bb_ BK273 hb
   replace HB := Aside0.mk (below_step bl_ hb)
   clear hb ho0 ho1
   obtain ⟨Ao163, co163, eo163⟩ := Kd.R_slice HO256.out
   (first | subst eo163 | (injection eo163 with f1_ f2_ f3_; have f4_ := f1_.symm; have f5_ := f3_.symm; clear f1_ f2_ f3_; subst f4_; subst f5_))
   obtain ⟨Ao164, co164, eo164⟩ := Kd.R_slice HO259.out
   (first | subst eo164 | (injection eo164 with f1_ f2_ f3_; have f4_ := f1_.symm; have f5_ := f3_.symm; clear f1_ f2_ f3_; subst f4_; subst f5_))
   obtain ⟨Ao165, co165, eo165⟩ := Kd.R_slice HO262.out
   (first | subst eo165 | (injection eo165 with f1_ f2_ f3_; have f4_ := f1_.symm; have f5_ := f3_.symm; clear f1_ f2_ f3_; subst f4_; subst f5_))
   obtain ⟨Ao166, co166, eo166⟩ := Kd.R_slice HO265.out
   (first | subst eo166 | (injection eo166 with f1_ f2_ f3_; have f4_ := f1_.symm; have f5_ := f3_.symm; clear f1_ f2_ f3_; subst f4_; subst f5_))
   refine hK.out _ _ ⟨bc_ BK182.out 0, bc_ BK182.out 1, bc_ BK183.out 0, bc_ BK183.out 1⟩ (fun hHeld => ?_)
   clear hK K
   refine norm_ nn_ ?_
   refine one_ (i := 4) (N := some 99) #[true, true, true, true, true, false, false, false, true, false, false] rfl rfl (one_of HT_.out (by kernel_rfl)) (by decide) (fun K hK => ?_)
   refine goes_ Try.func24 (by kernel_rfl) rfl #[.agg #[.slice Ao163 t254.length co163, .slice Ao164 t257.length co164], .agg #[.slice Ao165 t260.length co165, .slice Ao166 t263.length co166]] (by rfl) rfl rfl nc_ ?_
   with_reducible refine (impl_MergeCounter.calls kj101 _ _ t254 _ _ t257 _ _ t260 _ _ t263 t266 t269 t272 _ ?side1 ?side2 ?side3 ?side4 ?side5 ?side6 ?side7 ?side8 A148.out).mono ?_
   (case side1 => exact kc_ (Kd.R_reads' HO256.out).2.2)
   (case side2 => exact (Kd.R_reads' HO256.out).2.1)
   (case side3 => exact kc_ (Kd.R_reads' HO259.out).2.2)
   (case side4 => exact (Kd.R_reads' HO259.out).2.1)
   (case side5 => exact kc_ (Kd.R_reads' HO262.out).2.2)
   (case side6 => exact (Kd.R_reads' HO262.out).2.1)
   (case side7 => exact kc_ (Kd.R_reads' HO265.out).2.2)
   (case side8 => exact (Kd.R_reads' HO265.out).2.1)
   rintro e w167 ⟨v267, v270, rfl, ho0, ho1, hb⟩
   refine ⟨_, rfl, ?_⟩
   have HO268 := Aside0.mk (Kd.R_lower (Kd.R_new' (Kd.R_new' (Kd.R_new' (rn_ (rn_ (rn_ (rn_ (rn_ (rn_ (rn_ (rn_ (rn_ ho0 HO_206000.out) HO_206001.out) HO_213000.out) HO_213001.out) HO_220000.out) HO_220001.out) HO_228000.out) HO_228001.out) HO256.out) (Kd.R_lt (kr_ HO259.out))) (Kd.R_lt (kr_ HO262.out))) (Kd.R_lt (kr_ HO265.out))) bz_)
   have HO271 := Aside0.mk (Kd.R_lower (Kd.R_new' (Kd.R_new' (Kd.R_new' (rn_ (rn_ (rn_ (rn_ (rn_ (rn_ (rn_ (rn_ (rn_ ho1 HO_206000.out) HO_206001.out) HO_213000.out) HO_213001.out) HO_220000.out) HO_220001.out) HO_228000.out) HO_228001.out) HO256.out) (Kd.R_lt (kr_ HO259.out))) (Kd.R_lt (kr_ HO262.out))) (Kd.R_lt (kr_ HO265.out))) bz_)
   replace HO_206000 := rp2_ HO_206000 hb ho0 ho1
   replace HO_206001 := rp2_ HO_206001 hb ho0 ho1
   replace HO_213000 := rp2_ HO_213000 hb ho0 ho1
   replace HO_213001 := rp2_ HO_213001 hb ho0 ho1
   replace HO_220000 := rp2_ HO_220000 hb ho0 ho1
   replace HO_220001 := rp2_ HO_220001 hb ho0 ho1
   replace HO_228000 := rp2_ HO_228000 hb ho0 ho1
   replace HO_228001 := rp2_ HO_228001 hb ho0 ho1
   replace HO256 := rp2_ HO256 hb ho0 ho1
   replace HO259 := rp2_ HO259 hb ho0 ho1
   replace HO262 := rp2_ HO262 hb ho0 ho1
   replace HO265 := rp2_ HO265 hb ho0 ho1
   replace BK182 := bb_ BK182 hb
   replace BK183 := bb_ BK183 hb
   replace BK205 := bb_ BK205 hb
   replace BK212 := bb_ BK212 hb
   replace BK219 := bb_ BK219 hb
   replace BK227 := bb_ BK227 hb
   replace BK273 := bb_ BK273 hb
   replace HB := Aside0.mk (below_step bl_ hb)
   clear hb ho0 ho1
   refine hK.out _ _ ⟨bc_ BK182.out 0, bc_ BK182.out 1, bc_ BK183.out 0, bc_ BK183.out 1⟩ (fun hHeld => ?_)
   clear hK K
   refine norm_ nn_ ?_
   refine pure_ (i := 5) (N := some 94) (v := ?_) (a' := ?_) #[true, true, true, true, true, true, false, false, true, false, false] rfl rfl (any_of HT_.out (by kernel_rfl)) (fun _ _ _ h => h) (Or.inl ⟨by rfl, ?_⟩) ?_ ?_
   rotate_left
   ·intro w'
    go_simp
    with_reducible rfl
   rotate_left
   ·simp only [Act.put, List.setIfInBounds_toArray, List.set_cons_zero, List.set_cons_succ, i64_w, i32_w]
    rfl
   refine pure_ (i := 6) (N := some 100) (v := ?_) (a' := ?_) #[true, true, true, true, true, true, true, false, true, false, false] rfl rfl (any_of HT_.out (by kernel_rfl)) (fun _ _ _ h => h) (Or.inl ⟨by rfl, ?_⟩) ?_ ?_
   rotate_left
   ·intro w'
    go_simp
    with_reducible rfl
   rotate_left
   ·simp only [Act.put, List.setIfInBounds_toArray, List.set_cons_zero, List.set_cons_succ, i64_w, i32_w]
    rfl
   refine pure_ (i := 7) (N := some 101) (v := ?_) (a' := ?_) #[true, true, true, true, true, true, true, true, true, false, false] rfl rfl (any_of HT_.out (by kernel_rfl)) (fun _ _ _ h => h) (Or.inl ⟨by rfl, ?_⟩) ?_ ?_
   rotate_left
   ·intro w'
    go_simp
    with_reducible rfl
   rotate_left
   ·simp only [Act.put, List.setIfInBounds_toArray, List.set_cons_zero, List.set_cons_succ, i64_w, i32_w]
    rfl
   exact norm_ (by simp only [putAll, Act.put, List.setIfInBounds_toArray, List.set_cons_zero, List.set_cons_succ]) (hCont (.slice Ao163 t254.length co163, .slice Ao164 t257.length co164, .slice Ao165 t260.length co165, .slice Ao166 t263.length co166, v267, v270, gb273) _ ⟨hHeld, kp_ HO256.out, kp_ HO259.out, kp_ HO262.out, kp_ HO265.out, kp_ HO268.out, kp_ HO271.out, kp_ HO_206000.out, kp_ HO_206001.out, kp_ HO_213000.out, kp_ HO_213001.out, kp_ HO_220000.out, kp_ HO_220001.out, kp_ HO_228000.out, kp_ HO_228001.out, kb_ BK182.out, kb_ BK183.out, kb_ BK205.out, kb_ BK212.out, kb_ BK219.out, kb_ BK227.out, kb_ BK273.out, GW273.out, GE273.out, NB182_273.out, NB273_182.out, NB183_273.out, NB273_183.out, NB205_273.out, NB273_205.out, NB212_273.out, NB273_212.out, NB219_273.out, NB273_219.out, NB227_273.out, NB273_227.out, bl_⟩)
 rintro ⟨v255, v258, v261, v264, v267, v270, gb273⟩ w168 ⟨hS_, h0_, h1_, h2_, h3_, h4_, h5_, h6_, h7_, h8_, h9_, h10_, h11_, h12_, h13_, h14_, h15_, h16_, h17_, h18_, h19_, h20_, h21_, h22_, h23_, h24_, h25_, h26_, h27_, h28_, h29_, h30_, h31_, h32_, h33_, h34_, h35_⟩
 dsimp only at h0_ h1_ h2_ h3_ h4_ h5_ h6_ h7_ h8_ h9_ h10_ h11_ h12_ h13_ h14_ h15_ h16_ h17_ h18_ h19_ h20_ h21_ h22_ h23_ h24_ h25_ h26_ h27_ h28_ h29_ h30_ h31_ h32_ h33_ h34_ h35_
 have HO256 := Aside0.mk h0_
 have HO259 := Aside0.mk h1_
 have HO262 := Aside0.mk h2_
 have HO265 := Aside0.mk h3_
 have HO268 := Aside0.mk h4_
 have HO271 := Aside0.mk h5_
 replace HO_206000 := Aside0.mk h6_
 replace HO_206001 := Aside0.mk h7_
 replace HO_213000 := Aside0.mk h8_
 replace HO_213001 := Aside0.mk h9_
 replace HO_220000 := Aside0.mk h10_
 replace HO_220001 := Aside0.mk h11_
 replace HO_228000 := Aside0.mk h12_
 replace HO_228001 := Aside0.mk h13_
 replace BK182 := Aside0.mk h14_
 replace BK183 := Aside0.mk h15_
 replace BK205 := Aside0.mk h16_
 replace BK212 := Aside0.mk h17_
 replace BK219 := Aside0.mk h18_
 replace BK227 := Aside0.mk h19_
 have BK273 := Aside0.mk h20_
 have GW273 := Aside0.mk h21_
 have GE273 := Aside0.mk h22_
 have NB182_273 := Aside0.mk h23_
 have NB273_182 := Aside0.mk h24_
 have NB183_273 := Aside0.mk h25_
 have NB273_183 := Aside0.mk h26_
 have NB205_273 := Aside0.mk h27_
 have NB273_205 := Aside0.mk h28_
 have NB212_273 := Aside0.mk h29_
 have NB273_212 := Aside0.mk h30_
 have NB219_273 := Aside0.mk h31_
 have NB273_219 := Aside0.mk h32_
 have NB227_273 := Aside0.mk h33_
 have NB273_227 := Aside0.mk h34_
 replace HB := Aside0.mk h35_
 clear h0_ h1_ h2_ h3_ h4_ h5_ h6_ h7_ h8_ h9_ h10_ h11_ h12_ h13_ h14_ h15_ h16_ h17_ h18_ h19_ h20_ h21_ h22_ h23_ h24_ h25_ h26_ h27_ h28_ h29_ h30_ h31_ h32_ h33_ h34_ h35_
 try dsimp only at hS_
 have hHeld := hS_
 obtain ⟨Ao169, co169, eo169⟩ := Kd.R_slice HO268.out
 (first | subst eo169 | (injection eo169 with f1_ f2_ f3_; have f4_ := f1_.symm; have f5_ := f3_.symm; clear f1_ f2_ f3_; subst f4_; subst f5_))
 obtain ⟨Ao171, co171, eo171⟩ := Kd.R_slice HO271.out
 (first | subst eo171 | (injection eo171 with f1_ f2_ f3_; have f4_ := f1_.symm; have f5_ := f3_.symm; clear f1_ f2_ f3_; subst f4_; subst f5_))
 refine norm_ np_ ?_
 refine one_ (i := 9) (N := none) #[true, true, true, true, true, true, true, true, true, true, false] rfl rfl (one_of HT_.out (by kernel_rfl)) (by decide) (fun K hK => ?_)
 have hs170 : w168.cell? ⟨gb273, 0, none⟩ = some (.slice none 0 0) := bc_ BK273.out 0
 have hfs170 := blk_frozen BK273.out 0
 have hns170_0 := NB182_273.out
 have hns170_1 := NB183_273.out
 have hns170_2 := NB205_273.out
 have hns170_3 := NB212_273.out
 have hns170_4 := NB219_273.out
 have hns170_5 := NB227_273.out
 have hms170_0 := NB273_182.out
 have hms170_1 := NB273_183.out
 have hms170_2 := NB273_205.out
 have hms170_3 := NB273_212.out
 have hms170_4 := NB273_219.out
 have hms170_5 := NB273_227.out
 have hs172 : w168.cell? ⟨gb273, 1, none⟩ = some (.slice none 0 0) := bc_ BK273.out 1
 have hfs172 := blk_frozen BK273.out 1
 have hns172_0 := NB182_273.out
 have hns172_1 := NB183_273.out
 have hns172_2 := NB205_273.out
 have hns172_3 := NB212_273.out
 have hns172_4 := NB219_273.out
 have hns172_5 := NB227_273.out
 have hms172_0 := NB273_182.out
 have hms172_1 := NB273_183.out
 have hms172_2 := NB273_205.out
 have hms172_3 := NB273_212.out
 have hms172_4 := NB273_219.out
 have hms172_5 := NB273_227.out
 refine skip_ (w1 := ?_) (by rfl) rfl ?_ ?_
 rotate_left
 ·go_simp
  rfl
 refine hK.out _ _ ⟨((cell_far (p := ⟨gb273, _, none⟩) NB182_273.out _).trans (((cell_far (p := ⟨gb273, _, none⟩) NB182_273.out _).trans (hHeld.1)))), ((cell_far (p := ⟨gb273, _, none⟩) NB182_273.out _).trans (((cell_far (p := ⟨gb273, _, none⟩) NB182_273.out _).trans (hHeld.2.1)))), ((cell_far (p := ⟨gb273, _, none⟩) NB183_273.out _).trans (((cell_far (p := ⟨gb273, _, none⟩) NB183_273.out _).trans (hHeld.2.2.1)))), ((cell_far (p := ⟨gb273, _, none⟩) NB183_273.out _).trans (((cell_far (p := ⟨gb273, _, none⟩) NB183_273.out _).trans (hHeld.2.2.2))))⟩ (fun hHeld => ?_)
 clear hK K
 refine pure_ (i := 10) (N := some 16) (v := ?_) (a' := ?_) #[true, true, true, true, true, true, true, true, true, true, true] rfl rfl (any_of HT_.out (by kernel_rfl)) (fun _ _ _ h => h) (Or.inl ⟨by rfl, ?_⟩) ?_ ?_
 rotate_left
 ·intro w'
  go_simp
  with_reducible rfl
 rotate_left
 ·simp only [Act.put, List.setIfInBounds_toArray, List.set_cons_zero, List.set_cons_succ, i64_w, i32_w]
  rfl
 refine done_ (done_of HT_.out (by kernel_rfl)) ?_
 go_upto_region 32 with (fail)
 go_cut [110] (fun v110 wc => ∃ (kq : Nat) (x110_148 : Bool), v110 = .bool x110_148 ∧ Aside0 (laws_FnExactMergeCounter.j2 kq t250 x110_148 t251 t252 = some r) ∧ Aside0 (kq ≤ kj101) ∧ Aside0 (Kd.R (Kd.int .i64) 3 wc w.heap.size (fun k_ => some k_ ≠ ((.slice Ao45 t201.length co45) : Value).ownBlock ∧ some k_ ≠ ((.slice Ao51 t244.length co51) : Value).ownBlock ∧ some k_ ≠ ((.slice Ao56 t245.length co56) : Value).ownBlock ∧ some k_ ≠ ((.slice Ao61 t247.length co61) : Value).ownBlock ∧ some k_ ≠ ((.slice Ao67 t248.length co67) : Value).ownBlock ∧ some k_ ≠ ((.slice Ao71 t220.length co71) : Value).ownBlock ∧ some k_ ≠ ((.slice Ao78 t223.length co78) : Value).ownBlock ∧ some k_ ≠ ((.slice Ao169 t266.length co169) : Value).ownBlock ∧ some k_ ≠ ((.slice Ao171 t269.length co171) : Value).ownBlock) (.slice Ao43 t198.length co43) t198) ∧ Aside0 (Kd.R (Kd.int .i64) 3 wc w.heap.size (fun k_ => some k_ ≠ ((.slice Ao43 t198.length co43) : Value).ownBlock ∧ some k_ ≠ ((.slice Ao51 t244.length co51) : Value).ownBlock ∧ some k_ ≠ ((.slice Ao56 t245.length co56) : Value).ownBlock ∧ some k_ ≠ ((.slice Ao61 t247.length co61) : Value).ownBlock ∧ some k_ ≠ ((.slice Ao67 t248.length co67) : Value).ownBlock ∧ some k_ ≠ ((.slice Ao71 t220.length co71) : Value).ownBlock ∧ some k_ ≠ ((.slice Ao78 t223.length co78) : Value).ownBlock ∧ some k_ ≠ ((.slice Ao169 t266.length co169) : Value).ownBlock ∧ some k_ ≠ ((.slice Ao171 t269.length co171) : Value).ownBlock) (.slice Ao45 t201.length co45) t201) ∧ Aside0 (Kd.R (Kd.int .i64) 3 wc w.heap.size (fun k_ => some k_ ≠ ((.slice Ao43 t198.length co43) : Value).ownBlock ∧ some k_ ≠ ((.slice Ao45 t201.length co45) : Value).ownBlock ∧ some k_ ≠ ((.slice Ao56 t245.length co56) : Value).ownBlock ∧ some k_ ≠ ((.slice Ao61 t247.length co61) : Value).ownBlock ∧ some k_ ≠ ((.slice Ao67 t248.length co67) : Value).ownBlock ∧ some k_ ≠ ((.slice Ao71 t220.length co71) : Value).ownBlock ∧ some k_ ≠ ((.slice Ao78 t223.length co78) : Value).ownBlock ∧ some k_ ≠ ((.slice Ao169 t266.length co169) : Value).ownBlock ∧ some k_ ≠ ((.slice Ao171 t269.length co171) : Value).ownBlock) (.slice Ao51 t244.length co51) t244) ∧ Aside0 (Kd.R (Kd.int .i64) 3 wc w.heap.size (fun k_ => some k_ ≠ ((.slice Ao43 t198.length co43) : Value).ownBlock ∧ some k_ ≠ ((.slice Ao45 t201.length co45) : Value).ownBlock ∧ some k_ ≠ ((.slice Ao51 t244.length co51) : Value).ownBlock ∧ some k_ ≠ ((.slice Ao61 t247.length co61) : Value).ownBlock ∧ some k_ ≠ ((.slice Ao67 t248.length co67) : Value).ownBlock ∧ some k_ ≠ ((.slice Ao71 t220.length co71) : Value).ownBlock ∧ some k_ ≠ ((.slice Ao78 t223.length co78) : Value).ownBlock ∧ some k_ ≠ ((.slice Ao169 t266.length co169) : Value).ownBlock ∧ some k_ ≠ ((.slice Ao171 t269.length co171) : Value).ownBlock) (.slice Ao56 t245.length co56) t245) ∧ Aside0 (Kd.R (Kd.int .i64) 3 wc w.heap.size (fun k_ => some k_ ≠ ((.slice Ao43 t198.length co43) : Value).ownBlock ∧ some k_ ≠ ((.slice Ao45 t201.length co45) : Value).ownBlock ∧ some k_ ≠ ((.slice Ao51 t244.length co51) : Value).ownBlock ∧ some k_ ≠ ((.slice Ao56 t245.length co56) : Value).ownBlock ∧ some k_ ≠ ((.slice Ao67 t248.length co67) : Value).ownBlock ∧ some k_ ≠ ((.slice Ao71 t220.length co71) : Value).ownBlock ∧ some k_ ≠ ((.slice Ao78 t223.length co78) : Value).ownBlock ∧ some k_ ≠ ((.slice Ao169 t266.length co169) : Value).ownBlock ∧ some k_ ≠ ((.slice Ao171 t269.length co171) : Value).ownBlock) (.slice Ao61 t247.length co61) t247) ∧ Aside0 (Kd.R (Kd.int .i64) 3 wc w.heap.size (fun k_ => some k_ ≠ ((.slice Ao43 t198.length co43) : Value).ownBlock ∧ some k_ ≠ ((.slice Ao45 t201.length co45) : Value).ownBlock ∧ some k_ ≠ ((.slice Ao51 t244.length co51) : Value).ownBlock ∧ some k_ ≠ ((.slice Ao56 t245.length co56) : Value).ownBlock ∧ some k_ ≠ ((.slice Ao61 t247.length co61) : Value).ownBlock ∧ some k_ ≠ ((.slice Ao71 t220.length co71) : Value).ownBlock ∧ some k_ ≠ ((.slice Ao78 t223.length co78) : Value).ownBlock ∧ some k_ ≠ ((.slice Ao169 t266.length co169) : Value).ownBlock ∧ some k_ ≠ ((.slice Ao171 t269.length co171) : Value).ownBlock) (.slice Ao67 t248.length co67) t248) ∧ Aside0 (Kd.R (Kd.int .i64) 3 wc w.heap.size (fun k_ => some k_ ≠ ((.slice Ao43 t198.length co43) : Value).ownBlock ∧ some k_ ≠ ((.slice Ao45 t201.length co45) : Value).ownBlock ∧ some k_ ≠ ((.slice Ao51 t244.length co51) : Value).ownBlock ∧ some k_ ≠ ((.slice Ao56 t245.length co56) : Value).ownBlock ∧ some k_ ≠ ((.slice Ao61 t247.length co61) : Value).ownBlock ∧ some k_ ≠ ((.slice Ao67 t248.length co67) : Value).ownBlock ∧ some k_ ≠ ((.slice Ao78 t223.length co78) : Value).ownBlock ∧ some k_ ≠ ((.slice Ao169 t266.length co169) : Value).ownBlock ∧ some k_ ≠ ((.slice Ao171 t269.length co171) : Value).ownBlock) (.slice Ao71 t220.length co71) t251) ∧ Aside0 (Kd.R (Kd.int .i64) 3 wc w.heap.size (fun k_ => some k_ ≠ ((.slice Ao43 t198.length co43) : Value).ownBlock ∧ some k_ ≠ ((.slice Ao45 t201.length co45) : Value).ownBlock ∧ some k_ ≠ ((.slice Ao51 t244.length co51) : Value).ownBlock ∧ some k_ ≠ ((.slice Ao56 t245.length co56) : Value).ownBlock ∧ some k_ ≠ ((.slice Ao61 t247.length co61) : Value).ownBlock ∧ some k_ ≠ ((.slice Ao67 t248.length co67) : Value).ownBlock ∧ some k_ ≠ ((.slice Ao71 t220.length co71) : Value).ownBlock ∧ some k_ ≠ ((.slice Ao169 t266.length co169) : Value).ownBlock ∧ some k_ ≠ ((.slice Ao171 t269.length co171) : Value).ownBlock) (.slice Ao78 t223.length co78) t252) ∧ Aside0 (Kd.R (Kd.int .i64) 3 wc w.heap.size (fun k_ => some k_ ≠ ((.slice Ao43 t198.length co43) : Value).ownBlock ∧ some k_ ≠ ((.slice Ao45 t201.length co45) : Value).ownBlock ∧ some k_ ≠ ((.slice Ao51 t244.length co51) : Value).ownBlock ∧ some k_ ≠ ((.slice Ao56 t245.length co56) : Value).ownBlock ∧ some k_ ≠ ((.slice Ao61 t247.length co61) : Value).ownBlock ∧ some k_ ≠ ((.slice Ao67 t248.length co67) : Value).ownBlock ∧ some k_ ≠ ((.slice Ao71 t220.length co71) : Value).ownBlock ∧ some k_ ≠ ((.slice Ao78 t223.length co78) : Value).ownBlock ∧ some k_ ≠ ((.slice Ao171 t269.length co171) : Value).ownBlock) (.slice Ao169 t266.length co169) t266) ∧ Aside0 (Kd.R (Kd.int .i64) 3 wc w.heap.size (fun k_ => some k_ ≠ ((.slice Ao43 t198.length co43) : Value).ownBlock ∧ some k_ ≠ ((.slice Ao45 t201.length co45) : Value).ownBlock ∧ some k_ ≠ ((.slice Ao51 t244.length co51) : Value).ownBlock ∧ some k_ ≠ ((.slice Ao56 t245.length co56) : Value).ownBlock ∧ some k_ ≠ ((.slice Ao61 t247.length co61) : Value).ownBlock ∧ some k_ ≠ ((.slice Ao67 t248.length co67) : Value).ownBlock ∧ some k_ ≠ ((.slice Ao71 t220.length co71) : Value).ownBlock ∧ some k_ ≠ ((.slice Ao78 t223.length co78) : Value).ownBlock ∧ some k_ ≠ ((.slice Ao169 t266.length co169) : Value).ownBlock) (.slice Ao171 t269.length co171) t269) ∧ Aside0 (wc.heap[gb182]? = some (.cells #[(.slice A0_0 l0_0.length c0_0), (.slice A0_1 l0_1.length c0_1)] 24 (0, 0))) ∧ Aside0 (wc.heap[gb183]? = some (.cells #[(.slice A1_0 l1_0.length c1_0), (.slice A1_1 l1_1.length c1_1)] 24 (0, 0))) ∧ Aside0 (wc.heap[gb205]? = some (.cells #[(.slice Ao43 t198.length co43), (.slice Ao45 t201.length co45)] 27 (0, 0))) ∧ Aside0 (wc.heap[gb212]? = some (.cells #[(.slice Ao51 t244.length co51), (.slice Ao56 t245.length co56)] 27 (0, 0))) ∧ Aside0 (wc.heap[gb219]? = some (.cells #[(.slice Ao61 t247.length co61), (.slice Ao67 t248.length co67)] 27 (0, 0))) ∧ Aside0 (wc.heap[gb227]? = some (.cells #[(.slice Ao71 t220.length co71), (.slice Ao78 t223.length co78)] 27 (0, 0))) ∧ Aside0 (wc.heap[gb273]? = some (.cells #[(.slice Ao169 t266.length co169), (.slice Ao171 t269.length co171)] 27 (0, 0))) ∧ Aside0 (Below w.heap.size w wc))
 case first =>
  have H := HC149.out
  clear HC149
  replace H := Option.bind_eq_some_iff.mp H
  obtain ⟨t274, A1730, H⟩ := H
  replace H : (if t274 = true then (laws_FnExactMergeCounter.j2 kj101 t250 (t272 != t204) t251 t252) else (none)) = some r := H
  have A173 := Aside0.mk A1730
  clear A1730
  by_cases c174 : t274 = true
  rotate_left
  ·replace c174 := Bool.eq_false_iff.mpr c174
   subst c174
   have H1 : (none) = some r := by rw [if_neg (show ¬ (false = true) by decide)] at H; exact H
   clear H
   have H := H1
   clear H1
   exact absurd H (by simp)
  subst c174
  have H1 : (laws_FnExactMergeCounter.j2 kj101 t250 (t272 != t204) t251 t252) = some r := by rw [if_pos rfl] at H; exact H
  clear H
  have H := H1
  clear H1
  have H' := Aside0.mk H
  clear H
  have hnb175 := NB273_182.out
  have hnc175 := NB182_273.out
  have hnb176 := NB273_183.out
  have hnc176 := NB183_273.out
  have hnb177 := NB273_205.out
  have hnc177 := NB205_273.out
  have hnb178 := NB273_212.out
  have hnc178 := NB212_273.out
  have hnb179 := NB273_219.out
  have hnc179 := NB219_273.out
  have hnb180 := NB273_227.out
  have hnc180 := NB227_273.out
  have hcz181_0 : w168.cell? ⟨gb273, 0, none⟩ = some (.slice none 0 0) := bc_ BK273.out 0
  have hcz181_1 : w168.cell? ⟨gb273, 1, none⟩ = some (.slice none 0 0) := bc_ BK273.out 1
  have hfz181_0 := blk_frozen BK273.out 0
  have hfz181_1 := blk_frozen BK273.out 1
  have hnb182 := NB205_182.out
  have hnc182 := NB182_205.out
  have hnb183 := NB205_183.out
  have hnc183 := NB183_205.out
  have hnb184 := NB205_212.out
  have hnc184 := NB212_205.out
  have hnb185 := NB205_219.out
  have hnc185 := NB219_205.out
  have hnb186 := NB205_227.out
  have hnc186 := NB227_205.out
  have hcz187_0 : w168.cell? ⟨gb205, 0, none⟩ = some (.slice Ao43 t198.length co43) := bc_ BK205.out 0
  have hcz187_1 : w168.cell? ⟨gb205, 1, none⟩ = some (.slice Ao45 t201.length co45) := bc_ BK205.out 1
  have hfz187_0 := blk_frozen BK205.out 0
  have hfz187_1 := blk_frozen BK205.out 1
  go_wp2_with (first | ((with_reducible refine gate_callee (f := 14) rfl ?_); refine goesL_ (some 104) rfl rfl Try.func14 (by kernel_rfl) rfl #[.agg #[.slice Ao169 t266.length co169, .slice Ao171 t269.length co171], .agg #[.slice Ao43 t198.length co43, .slice Ao45 t201.length co45]] rfl nc_ ?_; (with_reducible refine (laws_eqCounter.calls kj101 _ _ t266 _ _ t269 _ _ t198 _ _ t201 true _ ?side1 ?side2 ?side3 ?side4 ?side5 ?side6 ?side7 ?side8 A173.out).mono ?_); (case side1 => refine (Kd.R_reads' (e := 3) (base := w.heap.size) (ok := fun k_ => (some k_ ≠ (v255 : Value).ownBlock ∧ (some k_ ≠ (v258 : Value).ownBlock ∧ (some k_ ≠ (v261 : Value).ownBlock ∧ (some k_ ≠ (v264 : Value).ownBlock ∧ (some k_ ≠ (.slice Ao171 t269.length co171 : Value).ownBlock ∧ (some k_ ≠ (.slice Ao43 t198.length co43 : Value).ownBlock ∧ (some k_ ≠ (.slice Ao45 t201.length co45 : Value).ownBlock ∧ (some k_ ≠ (.slice Ao51 t244.length co51 : Value).ownBlock ∧ (some k_ ≠ (.slice Ao56 t245.length co56 : Value).ownBlock ∧ (some k_ ≠ (.slice Ao61 t247.length co61 : Value).ownBlock ∧ (some k_ ≠ (.slice Ao67 t248.length co67 : Value).ownBlock ∧ (some k_ ≠ (.slice Ao71 t220.length co71 : Value).ownBlock ∧ some k_ ≠ (.slice Ao78 t223.length co78 : Value).ownBlock))))))))))))) (n := t266.length) (c := co169) ?_).2.2; exact (kr_ (rs2_ HO268.out BK273.out (.slice Ao169 t266.length co169) (.slice Ao171 t269.length co171)))); (case side2 => exact (Kd.R_reads' HO268.out).2.1); (case side3 => refine (Kd.R_reads' (e := 3) (base := w.heap.size) (ok := fun k_ => (some k_ ≠ (v255 : Value).ownBlock ∧ (some k_ ≠ (v258 : Value).ownBlock ∧ (some k_ ≠ (v261 : Value).ownBlock ∧ (some k_ ≠ (v264 : Value).ownBlock ∧ (some k_ ≠ (.slice Ao169 t266.length co169 : Value).ownBlock ∧ (some k_ ≠ (.slice Ao43 t198.length co43 : Value).ownBlock ∧ (some k_ ≠ (.slice Ao45 t201.length co45 : Value).ownBlock ∧ (some k_ ≠ (.slice Ao51 t244.length co51 : Value).ownBlock ∧ (some k_ ≠ (.slice Ao56 t245.length co56 : Value).ownBlock ∧ (some k_ ≠ (.slice Ao61 t247.length co61 : Value).ownBlock ∧ (some k_ ≠ (.slice Ao67 t248.length co67 : Value).ownBlock ∧ (some k_ ≠ (.slice Ao71 t220.length co71 : Value).ownBlock ∧ some k_ ≠ (.slice Ao78 t223.length co78 : Value).ownBlock))))))))))))) (n := t269.length) (c := co171) ?_).2.2; exact (kr_ (rs2_ HO271.out BK273.out (.slice Ao169 t266.length co169) (.slice Ao171 t269.length co171)))); (case side4 => exact (Kd.R_reads' HO271.out).2.1); (case side5 => refine (Kd.R_reads' (e := 3) (base := w.heap.size) (ok := fun k_ => (some k_ ≠ (v255 : Value).ownBlock ∧ (some k_ ≠ (v258 : Value).ownBlock ∧ (some k_ ≠ (v261 : Value).ownBlock ∧ (some k_ ≠ (v264 : Value).ownBlock ∧ (some k_ ≠ (.slice Ao169 t266.length co169 : Value).ownBlock ∧ (some k_ ≠ (.slice Ao171 t269.length co171 : Value).ownBlock ∧ (some k_ ≠ (.slice Ao45 t201.length co45 : Value).ownBlock ∧ (some k_ ≠ (.slice Ao51 t244.length co51 : Value).ownBlock ∧ (some k_ ≠ (.slice Ao56 t245.length co56 : Value).ownBlock ∧ (some k_ ≠ (.slice Ao61 t247.length co61 : Value).ownBlock ∧ (some k_ ≠ (.slice Ao67 t248.length co67 : Value).ownBlock ∧ (some k_ ≠ (.slice Ao71 t220.length co71 : Value).ownBlock ∧ some k_ ≠ (.slice Ao78 t223.length co78 : Value).ownBlock))))))))))))) (n := t198.length) (c := co43) ?_).2.2; exact (kr_ (rs2_ HO_206000.out BK273.out (.slice Ao169 t266.length co169) (.slice Ao171 t269.length co171)))); (case side6 => exact (Kd.R_reads' HO_206000.out).2.1); (case side7 => refine (Kd.R_reads' (e := 3) (base := w.heap.size) (ok := fun k_ => (some k_ ≠ (v255 : Value).ownBlock ∧ (some k_ ≠ (v258 : Value).ownBlock ∧ (some k_ ≠ (v261 : Value).ownBlock ∧ (some k_ ≠ (v264 : Value).ownBlock ∧ (some k_ ≠ (.slice Ao169 t266.length co169 : Value).ownBlock ∧ (some k_ ≠ (.slice Ao171 t269.length co171 : Value).ownBlock ∧ (some k_ ≠ (.slice Ao43 t198.length co43 : Value).ownBlock ∧ (some k_ ≠ (.slice Ao51 t244.length co51 : Value).ownBlock ∧ (some k_ ≠ (.slice Ao56 t245.length co56 : Value).ownBlock ∧ (some k_ ≠ (.slice Ao61 t247.length co61 : Value).ownBlock ∧ (some k_ ≠ (.slice Ao67 t248.length co67 : Value).ownBlock ∧ (some k_ ≠ (.slice Ao71 t220.length co71 : Value).ownBlock ∧ some k_ ≠ (.slice Ao78 t223.length co78 : Value).ownBlock))))))))))))) (n := t201.length) (c := co45) ?_).2.2; exact (kr_ (rs2_ HO_206001.out BK273.out (.slice Ao169 t266.length co169) (.slice Ao171 t269.length co171)))); (case side8 => exact (Kd.R_reads' HO_206001.out).2.1); rintro e w188 ⟨rfl, hb⟩; refine ⟨_, rfl, ?_⟩; replace HO_206000 := Aside0.mk (Kd.R_below (kr_ (rs2_ HO_206000.out BK273.out (.slice Ao169 t266.length co169) (.slice Ao171 t269.length co171))) hb); replace HO_206001 := Aside0.mk (Kd.R_below (kr_ (rs2_ HO_206001.out BK273.out (.slice Ao169 t266.length co169) (.slice Ao171 t269.length co171))) hb); replace HO_213000 := Aside0.mk (Kd.R_below (kr_ (rs2_ HO_213000.out BK273.out (.slice Ao169 t266.length co169) (.slice Ao171 t269.length co171))) hb); replace HO_213001 := Aside0.mk (Kd.R_below (kr_ (rs2_ HO_213001.out BK273.out (.slice Ao169 t266.length co169) (.slice Ao171 t269.length co171))) hb); replace HO_220000 := Aside0.mk (Kd.R_below (kr_ (rs2_ HO_220000.out BK273.out (.slice Ao169 t266.length co169) (.slice Ao171 t269.length co171))) hb); replace HO_220001 := Aside0.mk (Kd.R_below (kr_ (rs2_ HO_220001.out BK273.out (.slice Ao169 t266.length co169) (.slice Ao171 t269.length co171))) hb); replace HO_228000 := Aside0.mk (Kd.R_below (kr_ (rs2_ HO_228000.out BK273.out (.slice Ao169 t266.length co169) (.slice Ao171 t269.length co171))) hb); replace HO_228001 := Aside0.mk (Kd.R_below (kr_ (rs2_ HO_228001.out BK273.out (.slice Ao169 t266.length co169) (.slice Ao171 t269.length co171))) hb); replace HO256 := Aside0.mk (Kd.R_below (kr_ (rs2_ HO256.out BK273.out (.slice Ao169 t266.length co169) (.slice Ao171 t269.length co171))) hb); replace HO259 := Aside0.mk (Kd.R_below (kr_ (rs2_ HO259.out BK273.out (.slice Ao169 t266.length co169) (.slice Ao171 t269.length co171))) hb); replace HO262 := Aside0.mk (Kd.R_below (kr_ (rs2_ HO262.out BK273.out (.slice Ao169 t266.length co169) (.slice Ao171 t269.length co171))) hb); replace HO265 := Aside0.mk (Kd.R_below (kr_ (rs2_ HO265.out BK273.out (.slice Ao169 t266.length co169) (.slice Ao171 t269.length co171))) hb); replace HO268 := Aside0.mk (Kd.R_below (kr_ (rs2_ HO268.out BK273.out (.slice Ao169 t266.length co169) (.slice Ao171 t269.length co171))) hb); replace HO271 := Aside0.mk (Kd.R_below (kr_ (rs2_ HO271.out BK273.out (.slice Ao169 t266.length co169) (.slice Ao171 t269.length co171))) hb); replace BK182 := Aside0.mk (blk_below (g := gb182) (o := .cells #[.slice A0_0 l0_0.length c0_0, .slice A0_1 l0_1.length c0_1] 24 (0, 0)) kz_ hb); replace BK183 := Aside0.mk (blk_below (g := gb183) (o := .cells #[.slice A1_0 l1_0.length c1_0, .slice A1_1 l1_1.length c1_1] 24 (0, 0)) kz_ hb); replace BK205 := Aside0.mk (blk_below (g := gb205) (o := .cells #[.slice Ao43 t198.length co43, .slice Ao45 t201.length co45] 27 (0, 0)) kz_ hb); replace BK212 := Aside0.mk (blk_below (g := gb212) (o := .cells #[.slice Ao51 t244.length co51, .slice Ao56 t245.length co56] 27 (0, 0)) kz_ hb); replace BK219 := Aside0.mk (blk_below (g := gb219) (o := .cells #[.slice Ao61 t247.length co61, .slice Ao67 t248.length co67] 27 (0, 0)) kz_ hb); replace BK227 := Aside0.mk (blk_below (g := gb227) (o := .cells #[.slice Ao71 t220.length co71, .slice Ao78 t223.length co78] 27 (0, 0)) kz_ hb); replace BK273 := Aside0.mk (blk_below (g := gb273) (o := .cells #[.slice Ao169 t266.length co169, .slice Ao171 t269.length co171] 27 (0, 0)) (by (with_reducible repeat (first | refine blk_drewN ?_ _ | refine blk_drew ?_ | refine blk_alloc ?_ _)); refine blk_put (cs := #[.slice Ao169 t266.length co169, .slice none 0 0]) ?_ 1 _ rfl; (with_reducible repeat (first | refine blk_drewN ?_ _ | refine blk_drew ?_ | refine blk_alloc ?_ _)); refine blk_put (cs := #[.slice none 0 0, .slice none 0 0]) ?_ 0 _ rfl; exact kb_ BK273.out) hb); replace HB := Aside0.mk (below_step bl_ hb); clear hb))
  go_meet
  case rel => exact ⟨_, ((t272 != t204)), (by first | rfl | (simp; done) | (simp [*]; done)), H', ⟨by have := HJ24.out; have := HJ101.out; first | omega | exact Nat.le_refl _⟩, ⟨by (try simp only [hl213000_101]); (try simp only [hl213001_101]); (try simp only [hl220000_101]); (try simp only [hl220001_101]); exact kr_ (Kd.R_mono HO_206000.out (fun _ hk => ⟨hk.2.2.2.2.2.2.1, ⟨hk.2.2.2.2.2.2.2.1, ⟨hk.2.2.2.2.2.2.2.2.1, ⟨hk.2.2.2.2.2.2.2.2.2.1, ⟨hk.2.2.2.2.2.2.2.2.2.2.1, ⟨hk.2.2.2.2.2.2.2.2.2.2.2.1, ⟨hk.2.2.2.2.2.2.2.2.2.2.2.2, ⟨hk.2.2.2.2.1, hk.2.2.2.2.2.1⟩⟩⟩⟩⟩⟩⟩⟩))⟩, ⟨by (try simp only [hl213000_101]); (try simp only [hl213001_101]); (try simp only [hl220000_101]); (try simp only [hl220001_101]); exact kr_ (Kd.R_mono HO_206001.out (fun _ hk => ⟨hk.2.2.2.2.2.2.1, ⟨hk.2.2.2.2.2.2.2.1, ⟨hk.2.2.2.2.2.2.2.2.1, ⟨hk.2.2.2.2.2.2.2.2.2.1, ⟨hk.2.2.2.2.2.2.2.2.2.2.1, ⟨hk.2.2.2.2.2.2.2.2.2.2.2.1, ⟨hk.2.2.2.2.2.2.2.2.2.2.2.2, ⟨hk.2.2.2.2.1, hk.2.2.2.2.2.1⟩⟩⟩⟩⟩⟩⟩⟩))⟩, ⟨by (try simp only [hl213000_101]); (try simp only [hl213001_101]); (try simp only [hl220000_101]); (try simp only [hl220001_101]); exact kr_ (Kd.R_mono HO_213000.out (fun _ hk => ⟨hk.2.2.2.2.2.2.1, ⟨hk.2.2.2.2.2.2.2.1, ⟨hk.2.2.2.2.2.2.2.2.1, ⟨hk.2.2.2.2.2.2.2.2.2.1, ⟨hk.2.2.2.2.2.2.2.2.2.2.1, ⟨hk.2.2.2.2.2.2.2.2.2.2.2.1, ⟨hk.2.2.2.2.2.2.2.2.2.2.2.2, ⟨hk.2.2.2.2.1, hk.2.2.2.2.2.1⟩⟩⟩⟩⟩⟩⟩⟩))⟩, ⟨by (try simp only [hl213000_101]); (try simp only [hl213001_101]); (try simp only [hl220000_101]); (try simp only [hl220001_101]); exact kr_ (Kd.R_mono HO_213001.out (fun _ hk => ⟨hk.2.2.2.2.2.2.1, ⟨hk.2.2.2.2.2.2.2.1, ⟨hk.2.2.2.2.2.2.2.2.1, ⟨hk.2.2.2.2.2.2.2.2.2.1, ⟨hk.2.2.2.2.2.2.2.2.2.2.1, ⟨hk.2.2.2.2.2.2.2.2.2.2.2.1, ⟨hk.2.2.2.2.2.2.2.2.2.2.2.2, ⟨hk.2.2.2.2.1, hk.2.2.2.2.2.1⟩⟩⟩⟩⟩⟩⟩⟩))⟩, ⟨by (try simp only [hl213000_101]); (try simp only [hl213001_101]); (try simp only [hl220000_101]); (try simp only [hl220001_101]); exact kr_ (Kd.R_mono HO_220000.out (fun _ hk => ⟨hk.2.2.2.2.2.2.1, ⟨hk.2.2.2.2.2.2.2.1, ⟨hk.2.2.2.2.2.2.2.2.1, ⟨hk.2.2.2.2.2.2.2.2.2.1, ⟨hk.2.2.2.2.2.2.2.2.2.2.1, ⟨hk.2.2.2.2.2.2.2.2.2.2.2.1, ⟨hk.2.2.2.2.2.2.2.2.2.2.2.2, ⟨hk.2.2.2.2.1, hk.2.2.2.2.2.1⟩⟩⟩⟩⟩⟩⟩⟩))⟩, ⟨by (try simp only [hl213000_101]); (try simp only [hl213001_101]); (try simp only [hl220000_101]); (try simp only [hl220001_101]); exact kr_ (Kd.R_mono HO_220001.out (fun _ hk => ⟨hk.2.2.2.2.2.2.1, ⟨hk.2.2.2.2.2.2.2.1, ⟨hk.2.2.2.2.2.2.2.2.1, ⟨hk.2.2.2.2.2.2.2.2.2.1, ⟨hk.2.2.2.2.2.2.2.2.2.2.1, ⟨hk.2.2.2.2.2.2.2.2.2.2.2.1, ⟨hk.2.2.2.2.2.2.2.2.2.2.2.2, ⟨hk.2.2.2.2.1, hk.2.2.2.2.2.1⟩⟩⟩⟩⟩⟩⟩⟩))⟩, ⟨by (try simp only [hl213000_101]); (try simp only [hl213001_101]); (try simp only [hl220000_101]); (try simp only [hl220001_101]); exact kr_ (Kd.R_mono HO_228000.out (fun _ hk => ⟨hk.2.2.2.2.2.2.1, ⟨hk.2.2.2.2.2.2.2.1, ⟨hk.2.2.2.2.2.2.2.2.1, ⟨hk.2.2.2.2.2.2.2.2.2.1, ⟨hk.2.2.2.2.2.2.2.2.2.2.1, ⟨hk.2.2.2.2.2.2.2.2.2.2.2.1, ⟨hk.2.2.2.2.2.2.2.2.2.2.2.2, ⟨hk.2.2.2.2.1, hk.2.2.2.2.2.1⟩⟩⟩⟩⟩⟩⟩⟩))⟩, ⟨by (try simp only [hl213000_101]); (try simp only [hl213001_101]); (try simp only [hl220000_101]); (try simp only [hl220001_101]); exact kr_ (Kd.R_mono HO_228001.out (fun _ hk => ⟨hk.2.2.2.2.2.2.1, ⟨hk.2.2.2.2.2.2.2.1, ⟨hk.2.2.2.2.2.2.2.2.1, ⟨hk.2.2.2.2.2.2.2.2.2.1, ⟨hk.2.2.2.2.2.2.2.2.2.2.1, ⟨hk.2.2.2.2.2.2.2.2.2.2.2.1, ⟨hk.2.2.2.2.2.2.2.2.2.2.2.2, ⟨hk.2.2.2.2.1, hk.2.2.2.2.2.1⟩⟩⟩⟩⟩⟩⟩⟩))⟩, ⟨by (try simp only [hl213000_101]); (try simp only [hl213001_101]); (try simp only [hl220000_101]); (try simp only [hl220001_101]); exact kr_ (Kd.R_mono HO268.out (fun _ hk => ⟨hk.2.2.2.2.2.1, ⟨hk.2.2.2.2.2.2.1, ⟨hk.2.2.2.2.2.2.2.1, ⟨hk.2.2.2.2.2.2.2.2.1, ⟨hk.2.2.2.2.2.2.2.2.2.1, ⟨hk.2.2.2.2.2.2.2.2.2.2.1, ⟨hk.2.2.2.2.2.2.2.2.2.2.2.1, ⟨hk.2.2.2.2.2.2.2.2.2.2.2.2, hk.2.2.2.2.1⟩⟩⟩⟩⟩⟩⟩⟩))⟩, ⟨by (try simp only [hl213000_101]); (try simp only [hl213001_101]); (try simp only [hl220000_101]); (try simp only [hl220001_101]); exact kr_ (Kd.R_mono HO271.out (fun _ hk => ⟨hk.2.2.2.2.2.1, ⟨hk.2.2.2.2.2.2.1, ⟨hk.2.2.2.2.2.2.2.1, ⟨hk.2.2.2.2.2.2.2.2.1, ⟨hk.2.2.2.2.2.2.2.2.2.1, ⟨hk.2.2.2.2.2.2.2.2.2.2.1, ⟨hk.2.2.2.2.2.2.2.2.2.2.2.1, ⟨hk.2.2.2.2.2.2.2.2.2.2.2.2, hk.2.2.2.2.1⟩⟩⟩⟩⟩⟩⟩⟩))⟩, ⟨by (try simp only [hl213000_101]); (try simp only [hl213001_101]); (try simp only [hl220000_101]); (try simp only [hl220001_101]); exact kb_ BK182.out⟩, ⟨by (try simp only [hl213000_101]); (try simp only [hl213001_101]); (try simp only [hl220000_101]); (try simp only [hl220001_101]); exact kb_ BK183.out⟩, ⟨by (try simp only [hl213000_101]); (try simp only [hl213001_101]); (try simp only [hl220000_101]); (try simp only [hl220001_101]); exact kb_ BK205.out⟩, ⟨by (try simp only [hl213000_101]); (try simp only [hl213001_101]); (try simp only [hl220000_101]); (try simp only [hl220001_101]); exact kb_ BK212.out⟩, ⟨by (try simp only [hl213000_101]); (try simp only [hl213001_101]); (try simp only [hl220000_101]); (try simp only [hl220001_101]); exact kb_ BK219.out⟩, ⟨by (try simp only [hl213000_101]); (try simp only [hl213001_101]); (try simp only [hl220000_101]); (try simp only [hl220001_101]); exact kb_ BK227.out⟩, ⟨by (try simp only [hl213000_101]); (try simp only [hl213001_101]); (try simp only [hl220000_101]); (try simp only [hl220001_101]); exact kb_ BK273.out⟩, ⟨bl_⟩⟩
 clear HC149
 try clear c1
 try clear c2
 try clear p2
 try clear c12
 try clear c14
 try clear c17
 try clear c18
 try clear c24
 try clear c174
 try clear c175
 try clear c176
 try clear c177
 try clear c178
 try clear c179
 try clear c180
 try clear c182
 try clear c183
 try clear c184
 try clear c185
 try clear c186
 try clear hcz181_0
 try clear hcz181_1
 try clear hcz187_0
 try clear hcz187_1
 try clear hfz181_0
 try clear hfz181_1
 try clear hfz187_0
 try clear hfz187_1
 obtain ⟨kq, x110_148, rfl, HA, HJ148, HO_206000, HO_206001, HO_213000, HO_213001, HO_220000, HO_220001, HO_228000, HO_228001, HO_274000, HO_274001, BK182, BK183, BK205, BK212, BK219, BK227, BK273, HB⟩ := hcut
 have hl228000_148 := (Kd.R_reads' HO_228000.out).1
 rw [hl228000_148] at HO_228000
 (try simp only [hl228000_148])
 (try simp only [hl228000_148] at BK182)
 (try simp only [hl228000_148] at BK183)
 (try simp only [hl228000_148] at BK205)
 (try simp only [hl228000_148] at BK212)
 (try simp only [hl228000_148] at BK219)
 (try simp only [hl228000_148] at BK227)
 (try simp only [hl228000_148] at BK273)
 (try simp only [hl228000_148] at HO_206000)
 (try simp only [hl228000_148] at HO_206001)
 (try simp only [hl228000_148] at HO_213000)
 (try simp only [hl228000_148] at HO_213001)
 (try simp only [hl228000_148] at HO_220000)
 (try simp only [hl228000_148] at HO_220001)
 (try simp only [hl228000_148] at HO_228001)
 (try simp only [hl228000_148] at HO_274000)
 (try simp only [hl228000_148] at HO_274001)
 have hl228001_148 := (Kd.R_reads' HO_228001.out).1
 rw [hl228001_148] at HO_228001
 (try simp only [hl228001_148])
 (try simp only [hl228001_148] at BK182)
 (try simp only [hl228001_148] at BK183)
 (try simp only [hl228001_148] at BK205)
 (try simp only [hl228001_148] at BK212)
 (try simp only [hl228001_148] at BK219)
 (try simp only [hl228001_148] at BK227)
 (try simp only [hl228001_148] at BK273)
 (try simp only [hl228001_148] at HO_206000)
 (try simp only [hl228001_148] at HO_206001)
 (try simp only [hl228001_148] at HO_213000)
 (try simp only [hl228001_148] at HO_213001)
 (try simp only [hl228001_148] at HO_220000)
 (try simp only [hl228001_148] at HO_220001)
 (try simp only [hl228001_148] at HO_228000)
 (try simp only [hl228001_148] at HO_274000)
 (try simp only [hl228001_148] at HO_274001)
 cases kq with
 | zero => exact absurd HA.out (by simp [laws_FnExactMergeCounter.j2])
 | succ kj148 => ?_
 have H := HA.out
 clear HA
 simp only [laws_FnExactMergeCounter.j2] at H
 by_cases c189 : x110_148 = true
 ·subst c189
  have H1 : (none) = some r := by rw [if_pos rfl] at H; exact H
  clear H
  have H := H1
  clear H1
  exact absurd H (by simp)
 replace c189 := Bool.eq_false_iff.mpr c189
 subst c189
 have H1 : ((laws_heldCounter.f kj148 t251 t252 1).bind fun t275 => (if t275 < 0 then (none) else (if t275 = t250 then (some true) else (none)))) = some r := by rw [if_neg (show ¬ (false = true) by decide)] at H; exact H
 clear H
 have H := H1
 clear H1
 replace H := Option.bind_eq_some_iff.mp H
 obtain ⟨t275, A1900, H⟩ := H
 replace H : (if t275 < 0 then (none) else (if t275 = t250 then (some true) else (none))) = some r := H
 have A190 := Aside0.mk A1900
 clear A1900
 by_cases c191 : t275 < 0
 ·rw [if_pos c191] at H
  exact absurd H (by simp)
 rw [if_neg c191] at H
 have c191b0 : decide (t275 < 0) = false := decide_eq_false c191
 clear c191
 by_cases c192 : t275 = t250
 rotate_left
 ·rw [if_neg c192] at H
  exact absurd H (by simp)
 rw [if_pos c192] at H
 have c192b0 : (t275 == t250) = true := beq_iff_eq.mpr c192
 have c192b1 : (t275 != t250) = false := bne_eq_false_iff_eq.mpr c192
 clear c192
 obtain rfl := Option.some.inj H
 have hnb193 := NB227_182.out
 have hnc193 := NB182_227.out
 have hnb194 := NB227_183.out
 have hnc194 := NB183_227.out
 have hnb195 := NB227_205.out
 have hnc195 := NB205_227.out
 have hnb196 := NB227_212.out
 have hnc196 := NB212_227.out
 have hnb197 := NB227_219.out
 have hnc197 := NB219_227.out
 have hnb198 := NB227_273.out
 have hnc198 := NB273_227.out
 have hcz199_0 : wc.cell? ⟨gb227, 0, none⟩ = some (.slice Ao71 t251.length co71) := bc_ BK227.out 0
 have hcz199_1 : wc.cell? ⟨gb227, 1, none⟩ = some (.slice Ao78 t252.length co78) := bc_ BK227.out 1
 have hfz199_0 := blk_frozen BK227.out 0
 have hfz199_1 := blk_frozen BK227.out 1
 go_wp2_with (first | ((with_reducible refine gate_callee (f := 26) rfl ?_); refine goesL_ (some 113) rfl rfl Try.func26 (by kernel_rfl) rfl #[.agg #[.slice Ao71 t251.length co71, .slice Ao78 t252.length co78], .int .i64 1] rfl nc_ ?_; (with_reducible refine (laws_heldCounter.calls kj148 _ _ t251 _ _ t252 1 t275 _ ?side1 ?side2 ?side3 ?side4 A190.out).mono ?_); (case side1 => exact kc_ (Kd.R_reads' HO_228000.out).2.2); (case side2 => exact (Kd.R_reads' HO_228000.out).2.1); (case side3 => exact kc_ (Kd.R_reads' HO_228001.out).2.2); (case side4 => exact (Kd.R_reads' HO_228001.out).2.1); rintro e w200 ⟨rfl, hb⟩; refine ⟨_, rfl, ?_⟩; replace HO_206000 := rb_ HO_206000 hb; replace HO_206001 := rb_ HO_206001 hb; replace HO_213000 := rb_ HO_213000 hb; replace HO_213001 := rb_ HO_213001 hb; replace HO_220000 := rb_ HO_220000 hb; replace HO_220001 := rb_ HO_220001 hb; replace HO_228000 := rb_ HO_228000 hb; replace HO_228001 := rb_ HO_228001 hb; replace HO_274000 := rb_ HO_274000 hb; replace HO_274001 := rb_ HO_274001 hb; replace BK182 := bb_ BK182 hb; replace BK183 := bb_ BK183 hb; replace BK205 := bb_ BK205 hb; replace BK212 := bb_ BK212 hb; replace BK219 := bb_ BK219 hb; replace BK227 := bb_ BK227 hb; replace BK273 := bb_ BK273 hb; replace HB := Aside0.mk (below_step bl_ hb); clear hb))
 go_ret
 exact ⟨ng_, bl_⟩

end Go.Proofs.Ytcloilddgimamaa.PMC
