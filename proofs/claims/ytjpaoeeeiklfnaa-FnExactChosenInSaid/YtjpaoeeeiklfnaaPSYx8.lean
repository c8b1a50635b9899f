/- What this text proves: the machine calls of these functions return what the plain functions say. Conditions: as each theorem says. Printed by a program of this session out of the translation. -/
import Derived.Test.YtjpaoeeeiklfnaaPSYx0
import Derived.Test.YtjpaoeeeiklfnaaPSYx7
namespace Go.Proofs.Ytjpaoeeeiklfnaa.PSY
open Go.RowKit Go.Proofs.YtjpaoeeeiklfnaaW.PrintWords Go.Proofs.YtjpaoeeeiklfnaaW.PrintLast Go.Proofs.YtjpaoeeeiklfnaaW.PrintMore
attribute [local go_sem] max2_int min2_int max_two min_two max_three min_three max_four min_four   -- for this text's walks alone
set_option linter.unusedVariables false
set_option linter.unusedSimpArgs false

/-! ### impl_isSynod: function 30 -/
mutual
def impl_isSynod.j0 : Nat → Int → Bool → List (S70) → List (S54) → Option (Bool)
 | 0, _, _, _, _ => none
 | k + 1, x3, x23, x233000, x233001 => if x23 = true then (some false) else (impl_isSynod.l0 k x3 x233000 (x233000.length : Int) 0 x233000 x233001)
def impl_isSynod.l0 : Nat → Int → List (S70) → Int → Int → List (S70) → List (S54) → Option (Bool)
 | 0, _, _, _, _, _, _ => none
 | k + 1, x3, x25, x26, x27, x233000, x233001 => if x27 < x26 then (if 0 ≤ x27 then (if x27 < (x25.length : Int) then ((impl_in.f ((rd_T70 x25 x27).f0) 0 (x233001.length : Int)).bind fun t237 => (if t237 = true then ((impl_isVoted.f k ((rd_T70 x25 x27).f1) ((rd_T70 x25 x27).f2) ((rd_T70 x25 x27).f0)).bind fun t238 => (if t238 = true then (impl_isSynod.l0 k x3 x25 x26 (wrap64 (x27 + 1)) x233000 x233001) else (some false))) else (some false))) else (none)) else (none)) else (impl_isSynod.l1 k x3 x233001 (x233001.length : Int) 0)
def impl_isSynod.l1 : Nat → Int → List (S54) → Int → Int → Option (Bool)
 | 0, _, _, _, _ => none
 | k + 1, x3, x50, x51, x52 => if x52 < x51 then (if 0 ≤ x52 then (if x52 < (x50.length : Int) then (impl_isSynod.l2 k x3 x52 x50 x51 x52 ((rd_T54 x50 x52).f1) (((rd_T54 x50 x52).f1).length : Int) 0 ((rd_T54 x50 x52).f0) ((rd_T54 x50 x52).f1) ((rd_T54 x50 x52).f2) ((rd_T54 x50 x52).f3) ((rd_T54 x50 x52).f4)) else (none)) else (none)) else (some true)
def impl_isSynod.l2 : Nat → Int → Int → List (S54) → Int → Int → List (S73) → Int → Int → ByteArray → List (S73) → Bool → ByteArray → List Int → Option (Bool)
 | 0, _, _, _, _, _, _, _, _, _, _, _, _, _ => none
 | k + 1, x3, x6, x50, x51, x52, x58, x59, x60, x241000, x241001, x241002, x241003, x241004 => if x60 < x59 then (if 0 ≤ x60 then (if x60 < (x58.length : Int) then ((impl_in.f ((rd_T73 x58 x60).f0) 0 (wrap64 (x3 - 1))).bind fun t243 => (if t243 = true then (if x60 > 0 then (if 0 ≤ (wrap64 (x60 - 1)) then (if (wrap64 (x60 - 1)) < (x241001.length : Int) then (if ((rd_T73 x241001 (wrap64 (x60 - 1))).f0) ≥ ((rd_T73 x58 x60).f0) then (some false) else ((impl_isVoted.f k ((rd_T73 x58 x60).f1) ((rd_T73 x58 x60).f2) x6).bind fun t245 => (if t245 = true then (impl_isSynod.l2 k x3 x6 x50 x51 x52 x58 x59 (wrap64 (x60 + 1)) x241000 x241001 x241002 x241003 x241004) else (some false)))) else (none)) else (none)) else ((impl_isVoted.f k ((rd_T73 x58 x60).f1) ((rd_T73 x58 x60).f2) x6).bind fun t246 => (if t246 = true then (impl_isSynod.l2 k x3 x6 x50 x51 x52 x58 x59 (wrap64 (x60 + 1)) x241000 x241001 x241002 x241003 x241004) else (some false)))) else (some false))) else (none)) else (none)) else (if x241002 = true then ((impl_Proposer_fixed.f k x241000 x241001 x241002 x241003 x241004).bind fun t247 => (impl_isSynod.j4 k x3 t247 x50 x51 x52 x241000 x241001 x241002 x241003 x241004)) else (impl_isSynod.j4 k x3 (⟨#[]⟩ : ByteArray) x50 x51 x52 x241000 x241001 x241002 x241003 x241004))
def impl_isSynod.j4 : Nat → Int → ByteArray → List (S54) → Int → Int → ByteArray → List (S73) → Bool → ByteArray → List Int → Option (Bool)
 | 0, _, _, _, _, _, _, _, _, _, _ => none
 | k + 1, x3, x10, x50, x51, x52, x241000, x241001, x241002, x241003, x241004 => (impl_isValue.f k x241000).bind fun t248 => (if t248 = true then (if (x241002 != (decide ((wrap64 (2 * (x241001.length : Int))) > x3))) = true then (some false) else (if x241003.toList = x10.toList then ((impl_areRising.f k x241004 x3).bind fun t249 => (if t249 = true then (if x241002 = true then (impl_isSynod.l1 k x3 x50 x51 (wrap64 (x52 + 1))) else (if (x241004.length : Int) > 0 then (some false) else (impl_isSynod.l1 k x3 x50 x51 (wrap64 (x52 + 1))))) else (some false))) else (some false))) else (some false))
end
def impl_isSynod.f (k : Nat) (l0_0 : List (S70)) (l0_1 : List (S54)) : Option (Bool) := (impl_in.f (l0_0.length : Int) 1 12).bind fun t233 => (if t233 = true then ((impl_in.f (l0_1.length : Int) 1 8).bind fun t234 => (impl_isSynod.j0 k (l0_0.length : Int) (!t234) l0_0 l0_1)) else (impl_isSynod.j0 k (l0_0.length : Int) true l0_0 l0_1))
theorem impl_isSynod.mono_l : ∀ k, (∀ y0 y1 y2 y3, LeO (impl_isSynod.j0 k y0 y1 y2 y3) (impl_isSynod.j0 (k + 1) y0 y1 y2 y3)) ∧ (∀ y0 y1 y2 y3 y4 y5, LeO (impl_isSynod.l0 k y0 y1 y2 y3 y4 y5) (impl_isSynod.l0 (k + 1) y0 y1 y2 y3 y4 y5)) ∧ (∀ y0 y1 y2 y3, LeO (impl_isSynod.l1 k y0 y1 y2 y3) (impl_isSynod.l1 (k + 1) y0 y1 y2 y3)) ∧ (∀ y0 y1 y2 y3 y4 y5 y6 y7 y8 y9 y10 y11 y12, LeO (impl_isSynod.l2 k y0 y1 y2 y3 y4 y5 y6 y7 y8 y9 y10 y11 y12) (impl_isSynod.l2 (k + 1) y0 y1 y2 y3 y4 y5 y6 y7 y8 y9 y10 y11 y12)) ∧ (∀ y0 y1 y2 y3 y4 y5 y6 y7 y8 y9, LeO (impl_isSynod.j4 k y0 y1 y2 y3 y4 y5 y6 y7 y8 y9) (impl_isSynod.j4 (k + 1) y0 y1 y2 y3 y4 y5 y6 y7 y8 y9))
 | 0 => ⟨fun _ _ _ _ r h => by simp [impl_isSynod.j0] at h, fun _ _ _ _ _ _ r h => by simp [impl_isSynod.l0] at h, fun _ _ _ _ r h => by simp [impl_isSynod.l1] at h, fun _ _ _ _ _ _ _ _ _ _ _ _ _ r h => by simp [impl_isSynod.l2] at h, fun _ _ _ _ _ _ _ _ _ _ r h => by simp [impl_isSynod.j4] at h⟩
 | k + 1 => by
  obtain ⟨ih0, ih1, ih2, ih3, ih4⟩ := impl_isSynod.mono_l k
  refine ⟨?_, ?_, ?_, ?_, ?_⟩
  ·intro y0 y1 y2 y3
   unfold impl_isSynod.j0
   repeat' first
   | (with_reducible exact ih0 _ _ _ _)
   | (with_reducible exact ih1 _ _ _ _ _ _)
   | (with_reducible exact ih2 _ _ _ _)
   | (with_reducible exact ih3 _ _ _ _ _ _ _ _ _ _ _ _ _)
   | (with_reducible exact ih4 _ _ _ _ _ _ _ _ _ _)
   | (with_reducible exact impl_Proposer_fixed.mono _ _ _ _ _ _)
   | (with_reducible exact impl_areRising.mono _ _ _)
   | (with_reducible exact impl_isValue.mono _ _)
   | (with_reducible exact impl_isVoted.mono _ _ _ _)
   | (with_reducible exact LeO.refl _)
   | (with_reducible exact LeO.none _)
   | (with_reducible refine LeO.ite ?_ ?_)
   | (with_reducible refine LeO.bind ?_ (fun _ => ?_))
   | exact ih0 _ _ _ _
   | exact ih1 _ _ _ _ _ _
   | exact ih2 _ _ _ _
   | exact ih3 _ _ _ _ _ _ _ _ _ _ _ _ _
   | exact ih4 _ _ _ _ _ _ _ _ _ _
   | exact impl_Proposer_fixed.mono _ _ _ _ _ _
   | exact impl_areRising.mono _ _ _
   | exact impl_isValue.mono _ _
   | exact impl_isVoted.mono _ _ _ _
   | exact LeO.none _
   | refine LeO.ite ?_ ?_
   | refine LeO.bind ?_ (fun _ => ?_)
  ·intro y0 y1 y2 y3 y4 y5
   unfold impl_isSynod.l0
   repeat' first
   | (with_reducible exact ih0 _ _ _ _)
   | (with_reducible exact ih1 _ _ _ _ _ _)
   | (with_reducible exact ih2 _ _ _ _)
   | (with_reducible exact ih3 _ _ _ _ _ _ _ _ _ _ _ _ _)
   | (with_reducible exact ih4 _ _ _ _ _ _ _ _ _ _)
   | (with_reducible exact impl_Proposer_fixed.mono _ _ _ _ _ _)
   | (with_reducible exact impl_areRising.mono _ _ _)
   | (with_reducible exact impl_isValue.mono _ _)
   | (with_reducible exact impl_isVoted.mono _ _ _ _)
   | (with_reducible exact LeO.refl _)
   | (with_reducible exact LeO.none _)
   | (with_reducible refine LeO.ite ?_ ?_)
   | (with_reducible refine LeO.bind ?_ (fun _ => ?_))
   | exact ih0 _ _ _ _
   | exact ih1 _ _ _ _ _ _
   | exact ih2 _ _ _ _
   | exact ih3 _ _ _ _ _ _ _ _ _ _ _ _ _
   | exact ih4 _ _ _ _ _ _ _ _ _ _
   | exact impl_Proposer_fixed.mono _ _ _ _ _ _
   | exact impl_areRising.mono _ _ _
   | exact impl_isValue.mono _ _
   | exact impl_isVoted.mono _ _ _ _
   | exact LeO.none _
   | refine LeO.ite ?_ ?_
   | refine LeO.bind ?_ (fun _ => ?_)
  ·intro y0 y1 y2 y3
   unfold impl_isSynod.l1
   repeat' first
   | (with_reducible exact ih0 _ _ _ _)
   | (with_reducible exact ih1 _ _ _ _ _ _)
   | (with_reducible exact ih2 _ _ _ _)
   | (with_reducible exact ih3 _ _ _ _ _ _ _ _ _ _ _ _ _)
   | (with_reducible exact ih4 _ _ _ _ _ _ _ _ _ _)
   | (with_reducible exact impl_Proposer_fixed.mono _ _ _ _ _ _)
   | (with_reducible exact impl_areRising.mono _ _ _)
   | (with_reducible exact impl_isValue.mono _ _)
   | (with_reducible exact impl_isVoted.mono _ _ _ _)
   | (with_reducible exact LeO.refl _)
   | (with_reducible exact LeO.none _)
   | (with_reducible refine LeO.ite ?_ ?_)
   | (with_reducible refine LeO.bind ?_ (fun _ => ?_))
   | exact ih0 _ _ _ _
   | exact ih1 _ _ _ _ _ _
   | exact ih2 _ _ _ _
   | exact ih3 _ _ _ _ _ _ _ _ _ _ _ _ _
   | exact ih4 _ _ _ _ _ _ _ _ _ _
   | exact impl_Proposer_fixed.mono _ _ _ _ _ _
   | exact impl_areRising.mono _ _ _
   | exact impl_isValue.mono _ _
   | exact impl_isVoted.mono _ _ _ _
   | exact LeO.none _
   | refine LeO.ite ?_ ?_
   | refine LeO.bind ?_ (fun _ => ?_)
  ·intro y0 y1 y2 y3 y4 y5 y6 y7 y8 y9 y10 y11 y12
   unfold impl_isSynod.l2
   repeat' first
   | (with_reducible exact ih0 _ _ _ _)
   | (with_reducible exact ih1 _ _ _ _ _ _)
   | (with_reducible exact ih2 _ _ _ _)
   | (with_reducible exact ih3 _ _ _ _ _ _ _ _ _ _ _ _ _)
   | (with_reducible exact ih4 _ _ _ _ _ _ _ _ _ _)
   | (with_reducible exact impl_Proposer_fixed.mono _ _ _ _ _ _)
   | (with_reducible exact impl_areRising.mono _ _ _)
   | (with_reducible exact impl_isValue.mono _ _)
   | (with_reducible exact impl_isVoted.mono _ _ _ _)
   | (with_reducible exact LeO.refl _)
   | (with_reducible exact LeO.none _)
   | (with_reducible refine LeO.ite ?_ ?_)
   | (with_reducible refine LeO.bind ?_ (fun _ => ?_))
   | exact ih0 _ _ _ _
   | exact ih1 _ _ _ _ _ _
   | exact ih2 _ _ _ _
   | exact ih3 _ _ _ _ _ _ _ _ _ _ _ _ _
   | exact ih4 _ _ _ _ _ _ _ _ _ _
   | exact impl_Proposer_fixed.mono _ _ _ _ _ _
   | exact impl_areRising.mono _ _ _
   | exact impl_isValue.mono _ _
   | exact impl_isVoted.mono _ _ _ _
   | exact LeO.none _
   | refine LeO.ite ?_ ?_
   | refine LeO.bind ?_ (fun _ => ?_)
  ·intro y0 y1 y2 y3 y4 y5 y6 y7 y8 y9
   unfold impl_isSynod.j4
   repeat' first
   | (with_reducible exact ih0 _ _ _ _)
   | (with_reducible exact ih1 _ _ _ _ _ _)
   | (with_reducible exact ih2 _ _ _ _)
   | (with_reducible exact ih3 _ _ _ _ _ _ _ _ _ _ _ _ _)
   | (with_reducible exact ih4 _ _ _ _ _ _ _ _ _ _)
   | (with_reducible exact impl_Proposer_fixed.mono _ _ _ _ _ _)
   | (with_reducible exact impl_areRising.mono _ _ _)
   | (with_reducible exact impl_isValue.mono _ _)
   | (with_reducible exact impl_isVoted.mono _ _ _ _)
   | (with_reducible exact LeO.refl _)
   | (with_reducible exact LeO.none _)
   | (with_reducible refine LeO.ite ?_ ?_)
   | (with_reducible refine LeO.bind ?_ (fun _ => ?_))
   | exact ih0 _ _ _ _
   | exact ih1 _ _ _ _ _ _
   | exact ih2 _ _ _ _
   | exact ih3 _ _ _ _ _ _ _ _ _ _ _ _ _
   | exact ih4 _ _ _ _ _ _ _ _ _ _
   | exact impl_Proposer_fixed.mono _ _ _ _ _ _
   | exact impl_areRising.mono _ _ _
   | exact impl_isValue.mono _ _
   | exact impl_isVoted.mono _ _ _ _
   | exact LeO.none _
   | refine LeO.ite ?_ ?_
   | refine LeO.bind ?_ (fun _ => ?_)
theorem impl_isSynod.mono : ∀ a0 a1 k, LeO (impl_isSynod.f k a0 a1) (impl_isSynod.f (k + 1) a0 a1) := by
 intro a0 a1 k
 obtain ⟨ih0, ih1, ih2, ih3, ih4⟩ := impl_isSynod.mono_l k
 unfold impl_isSynod.f
 repeat' first
   | (with_reducible exact ih0 _ _ _ _)
   | (with_reducible exact ih1 _ _ _ _ _ _)
   | (with_reducible exact ih2 _ _ _ _)
   | (with_reducible exact ih3 _ _ _ _ _ _ _ _ _ _ _ _ _)
   | (with_reducible exact ih4 _ _ _ _ _ _ _ _ _ _)
   | (with_reducible exact impl_Proposer_fixed.mono _ _ _ _ _ _)
   | (with_reducible exact impl_areRising.mono _ _ _)
   | (with_reducible exact impl_isValue.mono _ _)
   | (with_reducible exact impl_isVoted.mono _ _ _ _)
   | (with_reducible exact LeO.refl _)
   | (with_reducible exact LeO.none _)
   | (with_reducible refine LeO.ite ?_ ?_)
   | (with_reducible refine LeO.bind ?_ (fun _ => ?_))
   | exact ih0 _ _ _ _
   | exact ih1 _ _ _ _ _ _
   | exact ih2 _ _ _ _
   | exact ih3 _ _ _ _ _ _ _ _ _ _ _ _ _
   | exact ih4 _ _ _ _ _ _ _ _ _ _
   | exact impl_Proposer_fixed.mono _ _ _ _ _ _
   | exact impl_areRising.mono _ _ _
   | exact impl_isValue.mono _ _
   | exact impl_isVoted.mono _ _ _ _
   | exact LeO.none _
   | refine LeO.ite ?_ ?_
   | refine LeO.bind ?_ (fun _ => ?_)
def impl_isSynod.T16 : Bool × List (List Nat × List Nat) := (true, [([], []), ([0], [0]), ([], []), ([2], [2]), ([1, 3], [1, 3]), ([4], [4]), ([5, 4], [5]), ([6], [6]), ([7, 6], [6, 7]), ([8, 6, 6], [6, 8]), ([9], [9]), ([10, 9], [9, 10]), ([9], [9]), ([12, 9], [9, 12]), ([11, 13, 9], [9, 11, 13]), ([14, 9], [9, 14]), ([15, 9], [9, 15]), ([9], [9]), ([17, 9], [9, 17]), ([16, 18, 9], [9, 16, 18]), ([9, 19, 6], [6, 9, 19]), ([6, 20], [6, 20]), ([21, 9], [21]), ([22], [22]), ([23, 22], [22, 23]), ([22], [22]), ([25, 22], [22, 25]), ([22], [22]), ([24, 26, 27, 22, 22], [22, 24, 26, 27]), ([28, 22], [22, 28]), ([22, 29], [22, 29])])
def impl_isSynod.B16 : List Nat := [0, 1, 0, 4, 15, 31, 63, 127, 255, 511, 1023, 2047, 1023, 5119, 16383, 32767, 65535, 1023, 132095, 524287, 1048575, 2097151, 4194303, 8388607, 16777215, 8388607, 41943039, 8388607, 268435455, 536870911, 1073741823]
theorem impl_isSynod.tab16 : rtab .any (opsOf Try.f30 16) = impl_isSynod.T16 := by kernel_rfl
theorem impl_isSynod.bits16 : waitsOk impl_isSynod.T16.2 impl_isSynod.B16 = true := by kernel_rfl
set_option maxHeartbeats 8000000 in
set_option maxRecDepth 100000 in
theorem impl_isSynod.calls (k : Nat) (A0_0 : Option Addr) (c0_0 : Nat) (l0_0 : List (S70)) (A0_1 : Option Addr) (c0_1 : Nat) (l0_1 : List (S54)) (r : Bool) (w : World) (hr0_0 : Kd.C k70 w A0_0 l0_0.length l0_0) (hc0_0 : l0_0.length ≤ c0_0) (hr0_1 : Kd.C k54 w A0_1 l0_1.length l0_1) (hc0_1 : l0_1.length ≤ c0_1) (h : impl_isSynod.f k l0_0 l0_1 = some r) :
  Calls Try.prog 30 #[.agg #[.slice A0_0 l0_0.length c0_0, .slice A0_1 l0_1.length c0_1]] w fun e w' => e = .returned (.bool r) ∧ Below w.heap.size w w' := by
 have hu33 := Try.underlying33
 have hu70 := Try.underlying70
 have hu54 := Try.underlying54
 have hu73 := Try.underlying73
 have HR0_0 := Aside0.mk hr0_0
 have HC0_0 := Aside0.mk hc0_0
 clear hr0_0 hc0_0
 have HR0_1 := Aside0.mk hr0_1
 have HC0_1 := Aside0.mk hc0_1
 clear hr0_1 hc0_1
 have HB := Aside0.mk (Below.refl w.heap.size w)
 have H : ((impl_in.f (l0_0.length : Int) 1 12).bind fun t233 => (if t233 = true then ((impl_in.f (l0_1.length : Int) 1 8).bind fun t234 => (impl_isSynod.j0 k (l0_0.length : Int) (!t234) l0_0 l0_1)) else (impl_isSynod.j0 k (l0_0.length : Int) true l0_0 l0_1))) = some r := h
 clear h
 have HC2 := Aside0.mk H
 clear H
 go_enter Try.func30, Try.ntmps30
 go_upto_region 2 with (first | ((with_reducible refine gate_dst (N := 1) rfl ?_); (try (refine gate_guard (by rfl) ?_; dsimp only)); refine box_event rfl (N := 1) rfl (cs := #[.slice A0_0 l0_0.length c0_0, .slice A0_1 l0_1.length c0_1]) (t := 33) gs_ ?_; intro gb232 hg w3 hbox hb; have BK232 := Aside0.mk (hbox); have GW232 := Aside0.mk ((by rw [hg]; exact bz_ : w.heap.size ≤ gb232)); have GE232 := GW232; replace HB := Aside0.mk (below_step bl_ hb); clear hb hbox hg; have hcz4_0 : w3.cell? ⟨gb232, 0, none⟩ = some (.slice A0_0 l0_0.length c0_0) := bc_ BK232.out 0; have hcz4_1 : w3.cell? ⟨gb232, 1, none⟩ = some (.slice A0_1 l0_1.length c0_1) := bc_ BK232.out 1; have hfz4_0 := blk_frozen BK232.out 0; have hfz4_1 := blk_frozen BK232.out 1))
 (try simp only [Act.put, List.setIfInBounds_toArray, List.set_cons_zero, List.set_cons_succ])
 go_cut [23] (fun v23 wc => ∃ (kq : Nat) (x23_1 : Bool), v23 = .bool x23_1 ∧ Aside0 (impl_isSynod.j0 kq (l0_0.length : Int) x23_1 l0_0 l0_1 = some r) ∧ Aside0 (kq ≤ k) ∧ Aside0 (wc.heap[gb232]? = some (.cells #[(.slice A0_0 l0_0.length c0_0), (.slice A0_1 l0_1.length c0_1)] 33 (0, 0))) ∧ Aside0 (Below w.heap.size w wc))
 case first =>
  have H := HC2.out
  clear HC2
  replace H := Option.bind_eq_some_iff.mp H
  obtain ⟨t233, A50, H⟩ := H
  replace H : (if t233 = true then ((impl_in.f (l0_1.length : Int) 1 8).bind fun t234 => (impl_isSynod.j0 k (l0_0.length : Int) (!t234) l0_0 l0_1)) else (impl_isSynod.j0 k (l0_0.length : Int) true l0_0 l0_1)) = some r := H
  have A5 := Aside0.mk A50
  clear A50
  by_cases c6 : t233 = true
  rotate_left
  ·replace c6 := Bool.eq_false_iff.mpr c6
   subst c6
   have H1 : (impl_isSynod.j0 k (l0_0.length : Int) true l0_0 l0_1) = some r := by rw [if_neg (show ¬ (false = true) by decide)] at H; exact H
   clear H
   have H := H1
   clear H1
   have H' := Aside0.mk H
   clear H
   go_wp2_with (first | ((with_reducible refine gate_callee (f := 46) rfl ?_); refine goesL_ (some 15) rfl rfl Try.func46 (by kernel_rfl) rfl #[.int .i64 (l0_0.length : Int), .int .i64 1, .int .i64 12] rfl nc_ ?_; (with_reducible refine (impl_in.calls (l0_0.length : Int) 1 12 false _ A5.out).mono ?_); rintro e w' ⟨rfl, ⟨nd, rfl⟩⟩; refine ⟨_, rfl, ?_⟩))
   go_meet
   case rel => exact ⟨_, (true), (by first | rfl | (simp; done) | (simp [*]; done)), H', ⟨by first | omega | exact Nat.le_refl _⟩, ⟨by exact kb_ BK232.out⟩, ⟨bl_⟩⟩
  subst c6
  have H1 : ((impl_in.f (l0_1.length : Int) 1 8).bind fun t234 => (impl_isSynod.j0 k (l0_0.length : Int) (!t234) l0_0 l0_1)) = some r := by rw [if_pos rfl] at H; exact H
  clear H
  have H := H1
  clear H1
  replace H := Option.bind_eq_some_iff.mp H
  obtain ⟨t234, A70, H⟩ := H
  replace H : (impl_isSynod.j0 k (l0_0.length : Int) (!t234) l0_0 l0_1) = some r := H
  have A7 := Aside0.mk A70
  clear A70
  have H' := Aside0.mk H
  clear H
  go_wp2_with (first | ((with_reducible refine gate_callee (f := 46) rfl ?_); refine goesL_ (some 15) rfl rfl Try.func46 (by kernel_rfl) rfl #[.int .i64 (l0_0.length : Int), .int .i64 1, .int .i64 12] rfl nc_ ?_; (with_reducible refine (impl_in.calls (l0_0.length : Int) 1 12 true _ A5.out).mono ?_); rintro e w' ⟨rfl, ⟨nd, rfl⟩⟩; refine ⟨_, rfl, ?_⟩; have hcz8_0 : w3.cell? ⟨gb232, 0, none⟩ = some (.slice A0_0 l0_0.length c0_0) := bc_ BK232.out 0; have hcz8_1 : w3.cell? ⟨gb232, 1, none⟩ = some (.slice A0_1 l0_1.length c0_1) := bc_ BK232.out 1; have hfz8_0 := blk_frozen BK232.out 0; have hfz8_1 := blk_frozen BK232.out 1) | (go_at_call 46; (with_reducible refine (impl_in.calls (l0_1.length : Int) 1 8 t234 _ A7.out).mono ?_); rintro e w' ⟨rfl, ⟨nd, rfl⟩⟩))
  go_meet
  case rel => exact ⟨_, (!t234), (by first | rfl | (simp; done) | (simp [*]; done)), H', ⟨by first | omega | exact Nat.le_refl _⟩, ⟨by exact kb_ BK232.out⟩, ⟨bl_⟩⟩
 clear HC2
 try clear p2
 try clear c3
 try clear c4
 try clear c6
 try clear hcz4_0
 try clear hcz4_1
 try clear hcz8_0
 try clear hcz8_1
 try clear hfz4_0
 try clear hfz4_1
 try clear hfz8_0
 try clear hfz8_1
 obtain ⟨kq, x23_1, rfl, HA, HJ1, BK232, HB⟩ := hcut
 cases kq with
 | zero => exact absurd HA.out (by simp [impl_isSynod.j0])
 | succ kj1 => ?_
 have H := HA.out
 clear HA
 simp only [impl_isSynod.j0] at H
 by_cases c9 : x23_1 = true
 ·subst c9
  have H1 : (some false) = some r := by rw [if_pos rfl] at H; exact H
  clear H
  have H := H1
  clear H1
  obtain rfl := Option.some.inj H
  go_wp2
  go_ret
  exact ⟨ng_, bl_⟩
 replace c9 := Bool.eq_false_iff.mpr c9
 subst c9
 have H1 : (impl_isSynod.l0 kj1 (l0_0.length : Int) l0_0 (l0_0.length : Int) 0 l0_0 l0_1) = some r := by rw [if_neg (show ¬ (false = true) by decide)] at H; exact H
 clear H
 have H := H1
 clear H1
 have H' := Aside0.mk H
 clear H
 have hcz10_0 : wc.cell? ⟨gb232, 0, none⟩ = some (.slice A0_0 l0_0.length c0_0) := bc_ BK232.out 0
 have hcz10_1 : wc.cell? ⟨gb232, 1, none⟩ = some (.slice A0_1 l0_1.length c0_1) := bc_ BK232.out 1
 have hfz10_0 := blk_frozen BK232.out 0
 have hfz10_1 := blk_frozen BK232.out 1
 go_wp2
 go_loopg [27] kj1 (fun kq v27 w' => ∃ (x27_2 : Int), v27 = .int .i64 x27_2 ∧ Aside0 (impl_isSynod.l0 kq (l0_0.length : Int) l0_0 (l0_0.length : Int) x27_2 l0_0 l0_1 = some r) ∧ Aside0 (kq ≤ kj1) ∧ Aside0 (w'.heap[gb232]? = some (.cells #[(.slice A0_0 l0_0.length c0_0), (.slice A0_1 l0_1.length c0_1)] 33 (0, 0))) ∧ Aside0 (Below w.heap.size w w'))
 case atStart => exact ⟨(0), (by first | rfl | (simp; done) | (simp [*]; done)), H', ⟨Nat.le_refl _⟩, ⟨by exact kb_ BK232.out⟩, ⟨bl_⟩⟩
 clear H'
 try clear p2
 try clear c3
 try clear c4
 try clear c6
 try clear c9
 try clear hcz10_0
 try clear hcz10_1
 try clear hcz4_0
 try clear hcz4_1
 try clear hcz8_0
 try clear hcz8_1
 try clear hfz10_0
 try clear hfz10_1
 try clear hfz4_0
 try clear hfz4_1
 try clear hfz8_0
 try clear hfz8_1
 try clear p2
 obtain ⟨x27_2, rfl, HA, HK2, BK232, HB⟩ := hrel
 cases gk with
 | zero => exact absurd HA.out (by simp [impl_isSynod.l0])
 | succ k2 => ?_
 have H := HA.out
 clear HA
 simp only [impl_isSynod.l0] at H
 by_cases c11 : x27_2 < (l0_0.length : Int)
 ·rw [if_pos c11] at H
  have c11b0 : decide (x27_2 < (l0_0.length : Int)) = true := decide_eq_true c11
  clear c11
  by_cases c12 : 0 ≤ x27_2
  rotate_left
  ·rw [if_neg c12] at H
   exact absurd H (by simp)
  rw [if_pos c12] at H
  have c12b0 : decide (0 ≤ x27_2) = true := decide_eq_true c12
  clear c12
  by_cases c13 : x27_2 < (l0_0.length : Int)
  rotate_left
  ·rw [if_neg c13] at H
   exact absurd H (by simp)
  rw [if_pos c13] at H
  have c13b0 : decide (x27_2 < (l0_0.length : Int)) = true := decide_eq_true c13
  clear c13
  replace H := Option.bind_eq_some_iff.mp H
  obtain ⟨t237, A140, H⟩ := H
  replace H : (if t237 = true then ((impl_isVoted.f k2 ((rd_T70 l0_0 x27_2).f1) ((rd_T70 l0_0 x27_2).f2) ((rd_T70 l0_0 x27_2).f0)).bind fun t238 => (if t238 = true then (impl_isSynod.l0 k2 (l0_0.length : Int) l0_0 (l0_0.length : Int) (wrap64 (x27_2 + 1)) l0_0 l0_1) else (some false))) else (some false)) = some r := H
  have A14 := Aside0.mk A140
  clear A140
  by_cases c15 : t237 = true
  rotate_left
  ·replace c15 := Bool.eq_false_iff.mpr c15
   subst c15
   have H1 : (some false) = some r := by rw [if_neg (show ¬ (false = true) by decide)] at H; exact H
   clear H
   have H := H1
   clear H1
   obtain rfl := Option.some.inj H
   have p235 : 0 ≤ (x27_2 : Int) := of_decide_eq_true (by first | (with_reducible assumption) | assumption)
   have q235 : x27_2 < (l0_0.length : Int) := of_decide_eq_true (by first | (with_reducible assumption) | assumption)
   obtain ⟨ad235, e235, hx235_0, hx235_1, hx235_2⟩ := at_T70 HR0_0.out x27_2 p235 q235
   cases e235
   replace hx235_0 := (HB.out.cell (World.block_lt_of_cell? w _ hx235_0)).trans hx235_0
   replace hx235_1 := (HB.out.cell (World.block_lt_of_cell? w _ hx235_1)).trans hx235_1
   replace hx235_2 := (HB.out.cell (World.block_lt_of_cell? w _ hx235_2)).trans hx235_2
   replace p235 := eq_true p235
   replace q235 := eq_true q235
   go_wp2_with (first | ((with_reducible refine gate_dst (N := 5) rfl ?_); (try (refine gate_guard (by rfl) ?_; dsimp only)); refine box_event rfl (N := 5) rfl (cs := #[.int .i64 0, .int .i64 0, .string (⟨#[]⟩ : ByteArray)]) (t := 70) gs_ ?_; intro gb236 hg w26 hbox hb; have BK236 := Aside0.mk (hbox); have GW236 := Aside0.mk ((by rw [hg]; exact bz_ : w.heap.size ≤ gb236)); have GE236 := GW236; replace HB := Aside0.mk (below_step bl_ hb); have NB232_236 := nl_ hg BK232; have NB236_232 := nm_ hg BK232; replace BK232 := bb_ BK232 hb; clear hb hbox hg; have hnb27 := NB236_232.out; have hnc27 := NB232_236.out; have hcz28_0 : w26.cell? ⟨gb236, 0, none⟩ = some (.int .i64 0) := bc_ BK236.out 0; have hcz28_1 : w26.cell? ⟨gb236, 1, none⟩ = some (.int .i64 0) := bc_ BK236.out 1; have hcz28_2 : w26.cell? ⟨gb236, 2, none⟩ = some (.string (⟨#[]⟩ : ByteArray)) := bc_ BK236.out 2; have hfz28_0 := blk_frozen BK236.out 0; have hfz28_1 := blk_frozen BK236.out 1; have hfz28_2 := blk_frozen BK236.out 2; have hcz29_0 : w26.cell? ⟨gb232, 0, none⟩ = some (.slice (some ad235) l0_0.length c0_0) := bc_ BK232.out 0; have hcz29_1 : w26.cell? ⟨gb232, 1, none⟩ = some (.slice A0_1 l0_1.length c0_1) := bc_ BK232.out 1; have hfz29_0 := blk_frozen BK232.out 0; have hfz29_1 := blk_frozen BK232.out 1) | ((with_reducible refine gate_callee (f := 46) rfl ?_); refine goesL_ (some 36) rfl rfl Try.func46 (by kernel_rfl) rfl #[.int .i64 ((rd_T70 l0_0 x27_2).f0), .int .i64 0, .int .i64 (l0_1.length : Int)] rfl nc_ ?_; (with_reducible refine (impl_in.calls ((rd_T70 l0_0 x27_2).f0) 0 (l0_1.length : Int) false _ A14.out).mono ?_); rintro e w' ⟨rfl, ⟨nd, rfl⟩⟩; refine ⟨_, rfl, ?_⟩))
   go_ret
   exact ⟨ng_, bl_⟩
  subst c15
  have H1 : ((impl_isVoted.f k2 ((rd_T70 l0_0 x27_2).f1) ((rd_T70 l0_0 x27_2).f2) ((rd_T70 l0_0 x27_2).f0)).bind fun t238 => (if t238 = true then (impl_isSynod.l0 k2 (l0_0.length : Int) l0_0 (l0_0.length : Int) (wrap64 (x27_2 + 1)) l0_0 l0_1) else (some false))) = some r := by rw [if_pos rfl] at H; exact H
  clear H
  have H := H1
  clear H1
  replace H := Option.bind_eq_some_iff.mp H
  obtain ⟨t238, A160, H⟩ := H
  replace H : (if t238 = true then (impl_isSynod.l0 k2 (l0_0.length : Int) l0_0 (l0_0.length : Int) (wrap64 (x27_2 + 1)) l0_0 l0_1) else (some false)) = some r := H
  have A16 := Aside0.mk A160
  clear A160
  by_cases c17 : t238 = true
  rotate_left
  ·replace c17 := Bool.eq_false_iff.mpr c17
   subst c17
   have H1 : (some false) = some r := by rw [if_neg (show ¬ (false = true) by decide)] at H; exact H
   clear H
   have H := H1
   clear H1
   obtain rfl := Option.some.inj H
   have p235 : 0 ≤ (x27_2 : Int) := of_decide_eq_true (by first | (with_reducible assumption) | assumption)
   have q235 : x27_2 < (l0_0.length : Int) := of_decide_eq_true (by first | (with_reducible assumption) | assumption)
   obtain ⟨ad235, e235, hx235_0, hx235_1, hx235_2⟩ := at_T70 HR0_0.out x27_2 p235 q235
   cases e235
   replace hx235_0 := (HB.out.cell (World.block_lt_of_cell? w _ hx235_0)).trans hx235_0
   replace hx235_1 := (HB.out.cell (World.block_lt_of_cell? w _ hx235_1)).trans hx235_1
   replace hx235_2 := (HB.out.cell (World.block_lt_of_cell? w _ hx235_2)).trans hx235_2
   replace p235 := eq_true p235
   replace q235 := eq_true q235
   go_wp2_with (first | ((with_reducible refine gate_dst (N := 5) rfl ?_); (try (refine gate_guard (by rfl) ?_; dsimp only)); refine box_event rfl (N := 5) rfl (cs := #[.int .i64 0, .int .i64 0, .string (⟨#[]⟩ : ByteArray)]) (t := 70) gs_ ?_; intro gb236 hg w22 hbox hb; have BK236 := Aside0.mk (hbox); have GW236 := Aside0.mk ((by rw [hg]; exact bz_ : w.heap.size ≤ gb236)); have GE236 := GW236; replace HB := Aside0.mk (below_step bl_ hb); have NB232_236 := nl_ hg BK232; have NB236_232 := nm_ hg BK232; replace BK232 := bb_ BK232 hb; clear hb hbox hg; have hnb23 := NB236_232.out; have hnc23 := NB232_236.out; have hcz24_0 : w22.cell? ⟨gb236, 0, none⟩ = some (.int .i64 0) := bc_ BK236.out 0; have hcz24_1 : w22.cell? ⟨gb236, 1, none⟩ = some (.int .i64 0) := bc_ BK236.out 1; have hcz24_2 : w22.cell? ⟨gb236, 2, none⟩ = some (.string (⟨#[]⟩ : ByteArray)) := bc_ BK236.out 2; have hfz24_0 := blk_frozen BK236.out 0; have hfz24_1 := blk_frozen BK236.out 1; have hfz24_2 := blk_frozen BK236.out 2; have hcz25_0 : w22.cell? ⟨gb232, 0, none⟩ = some (.slice (some ad235) l0_0.length c0_0) := bc_ BK232.out 0; have hcz25_1 : w22.cell? ⟨gb232, 1, none⟩ = some (.slice A0_1 l0_1.length c0_1) := bc_ BK232.out 1; have hfz25_0 := blk_frozen BK232.out 0; have hfz25_1 := blk_frozen BK232.out 1) | ((with_reducible refine gate_callee (f := 46) rfl ?_); refine goesL_ (some 36) rfl rfl Try.func46 (by kernel_rfl) rfl #[.int .i64 ((rd_T70 l0_0 x27_2).f0), .int .i64 0, .int .i64 (l0_1.length : Int)] rfl nc_ ?_; (with_reducible refine (impl_in.calls ((rd_T70 l0_0 x27_2).f0) 0 (l0_1.length : Int) true _ A14.out).mono ?_); rintro e w' ⟨rfl, ⟨nd, rfl⟩⟩; refine ⟨_, rfl, ?_⟩) | (go_at_call 51; (with_reducible refine (impl_isVoted.calls k2 ((rd_T70 l0_0 x27_2).f1) ((rd_T70 l0_0 x27_2).f2) ((rd_T70 l0_0 x27_2).f0) false _ A16.out).mono ?_); rintro e w' ⟨rfl, ⟨nd, rfl⟩⟩))
   go_ret
   exact ⟨ng_, bl_⟩
  subst c17
  have H1 : (impl_isSynod.l0 k2 (l0_0.length : Int) l0_0 (l0_0.length : Int) (wrap64 (x27_2 + 1)) l0_0 l0_1) = some r := by rw [if_pos rfl] at H; exact H
  clear H
  have H := H1
  clear H1
  have H' := Aside0.mk H
  clear H
  have p235 : 0 ≤ (x27_2 : Int) := of_decide_eq_true (by first | (with_reducible assumption) | assumption)
  have q235 : x27_2 < (l0_0.length : Int) := of_decide_eq_true (by first | (with_reducible assumption) | assumption)
  obtain ⟨ad235, e235, hx235_0, hx235_1, hx235_2⟩ := at_T70 HR0_0.out x27_2 p235 q235
  cases e235
  replace hx235_0 := (HB.out.cell (World.block_lt_of_cell? w _ hx235_0)).trans hx235_0
  replace hx235_1 := (HB.out.cell (World.block_lt_of_cell? w _ hx235_1)).trans hx235_1
  replace hx235_2 := (HB.out.cell (World.block_lt_of_cell? w _ hx235_2)).trans hx235_2
  replace p235 := eq_true p235
  replace q235 := eq_true q235
  go_wp2_with (first | ((with_reducible refine gate_dst (N := 5) rfl ?_); (try (refine gate_guard (by rfl) ?_; dsimp only)); refine box_event rfl (N := 5) rfl (cs := #[.int .i64 0, .int .i64 0, .string (⟨#[]⟩ : ByteArray)]) (t := 70) gs_ ?_; intro gb236 hg w18 hbox hb; have BK236 := Aside0.mk (hbox); have GW236 := Aside0.mk ((by rw [hg]; exact bz_ : w.heap.size ≤ gb236)); have GE236 := GW236; replace HB := Aside0.mk (below_step bl_ hb); have NB232_236 := nl_ hg BK232; have NB236_232 := nm_ hg BK232; replace BK232 := bb_ BK232 hb; clear hb hbox hg; have hnb19 := NB236_232.out; have hnc19 := NB232_236.out; have hcz20_0 : w18.cell? ⟨gb236, 0, none⟩ = some (.int .i64 0) := bc_ BK236.out 0; have hcz20_1 : w18.cell? ⟨gb236, 1, none⟩ = some (.int .i64 0) := bc_ BK236.out 1; have hcz20_2 : w18.cell? ⟨gb236, 2, none⟩ = some (.string (⟨#[]⟩ : ByteArray)) := bc_ BK236.out 2; have hfz20_0 := blk_frozen BK236.out 0; have hfz20_1 := blk_frozen BK236.out 1; have hfz20_2 := blk_frozen BK236.out 2; have hcz21_0 : w18.cell? ⟨gb232, 0, none⟩ = some (.slice (some ad235) l0_0.length c0_0) := bc_ BK232.out 0; have hcz21_1 : w18.cell? ⟨gb232, 1, none⟩ = some (.slice A0_1 l0_1.length c0_1) := bc_ BK232.out 1; have hfz21_0 := blk_frozen BK232.out 0; have hfz21_1 := blk_frozen BK232.out 1) | ((with_reducible refine gate_callee (f := 46) rfl ?_); refine goesL_ (some 36) rfl rfl Try.func46 (by kernel_rfl) rfl #[.int .i64 ((rd_T70 l0_0 x27_2).f0), .int .i64 0, .int .i64 (l0_1.length : Int)] rfl nc_ ?_; (with_reducible refine (impl_in.calls ((rd_T70 l0_0 x27_2).f0) 0 (l0_1.length : Int) true _ A14.out).mono ?_); rintro e w' ⟨rfl, ⟨nd, rfl⟩⟩; refine ⟨_, rfl, ?_⟩) | (go_at_call 51; (with_reducible refine (impl_isVoted.calls k2 ((rd_T70 l0_0 x27_2).f1) ((rd_T70 l0_0 x27_2).f2) ((rd_T70 l0_0 x27_2).f0) true _ A16.out).mono ?_); rintro e w' ⟨rfl, ⟨nd, rfl⟩⟩))
  go_roundg k2
  case measure => have := HJ1.out; have := HK2.out; omega
  case rel => exact ⟨(wrap64 (x27_2 + 1)), (by first | rfl | (simp; done) | (simp [*]; done)), H', ⟨by have := HJ1.out; have := HK2.out; omega⟩, ⟨kz_⟩, ⟨bl_⟩⟩
 rw [if_neg c11] at H
 have c11b0 : decide (x27_2 < (l0_0.length : Int)) = false := decide_eq_false c11
 clear c11
 have H' := Aside0.mk H
 clear H
 have hcz30_0 : wr.cell? ⟨gb232, 0, none⟩ = some (.slice A0_0 l0_0.length c0_0) := bc_ BK232.out 0
 have hcz30_1 : wr.cell? ⟨gb232, 1, none⟩ = some (.slice A0_1 l0_1.length c0_1) := bc_ BK232.out 1
 have hfz30_0 := blk_frozen BK232.out 0
 have hfz30_1 := blk_frozen BK232.out 1
 go_wp2
 go_loopg [52] k2 (fun kq v52 w' => ∃ (x52_3 : Int), v52 = .int .i64 x52_3 ∧ Aside0 (impl_isSynod.l1 kq (l0_0.length : Int) l0_1 (l0_1.length : Int) x52_3 = some r) ∧ Aside0 (kq ≤ k2) ∧ Aside0 (w'.heap[gb232]? = some (.cells #[(.slice A0_0 l0_0.length c0_0), (.slice A0_1 l0_1.length c0_1)] 33 (0, 0))) ∧ Aside0 (Below w.heap.size w w'))
 case atStart => exact ⟨(0), (by first | rfl | (simp; done) | (simp [*]; done)), H', ⟨Nat.le_refl _⟩, ⟨by exact kb_ BK232.out⟩, ⟨bl_⟩⟩
 clear H'
 try clear c1
 try clear c2
 try clear p2
 try clear q2
 try clear hx2
 try clear c3
 try clear c4
 try clear c6
 try clear p6
 try clear c9
 try clear c11
 try clear c11b0
 try clear c12
 try clear c12b0
 try clear c13
 try clear c13b0
 try clear c15
 try clear c17
 try clear c19
 try clear c23
 try clear p23
 try clear q23
 try clear hx23
 try clear c27
 try clear c30
 try clear hcz10_0
 try clear hcz10_1
 try clear hcz20_0
 try clear hcz20_1
 try clear hcz20_2
 try clear hcz21_0
 try clear hcz21_1
 try clear hcz24_0
 try clear hcz24_1
 try clear hcz24_2
 try clear hcz25_0
 try clear hcz25_1
 try clear hcz28_0
 try clear hcz28_1
 try clear hcz28_2
 try clear hcz29_0
 try clear hcz29_1
 try clear hcz30_0
 try clear hcz30_1
 try clear hcz4_0
 try clear hcz4_1
 try clear hcz8_0
 try clear hcz8_1
 try clear hfz10_0
 try clear hfz10_1
 try clear hfz20_0
 try clear hfz20_1
 try clear hfz20_2
 try clear hfz21_0
 try clear hfz21_1
 try clear hfz24_0
 try clear hfz24_1
 try clear hfz24_2
 try clear hfz25_0
 try clear hfz25_1
 try clear hfz28_0
 try clear hfz28_1
 try clear hfz28_2
 try clear hfz29_0
 try clear hfz29_1
 try clear hfz30_0
 try clear hfz30_1
 try clear hfz4_0
 try clear hfz4_1
 try clear hfz8_0
 try clear hfz8_1
 try clear hx235_0
 try clear hx235_1
 try clear hx235_2
 try clear p2
 try clear p235
 try clear q235
 obtain ⟨x52_3, rfl, HA, HK3, BK232, HB⟩ := hrel
 cases gk with
 | zero => exact absurd HA.out (by simp [impl_isSynod.l1])
 | succ k3 => ?_
 have H := HA.out
 clear HA
 simp only [impl_isSynod.l1] at H
 by_cases c31 : x52_3 < (l0_1.length : Int)
 rotate_left
 ·rw [if_neg c31] at H
  have c31b0 : decide (x52_3 < (l0_1.length : Int)) = false := decide_eq_false c31
  clear c31
  obtain rfl := Option.some.inj H
  go_wp2
  go_ret
  exact ⟨ng_, bl_⟩
 rw [if_pos c31] at H
 have c31b0 : decide (x52_3 < (l0_1.length : Int)) = true := decide_eq_true c31
 clear c31
 by_cases c32 : 0 ≤ x52_3
 rotate_left
 ·rw [if_neg c32] at H
  exact absurd H (by simp)
 rw [if_pos c32] at H
 have c32b0 : decide (0 ≤ x52_3) = true := decide_eq_true c32
 clear c32
 by_cases c33 : x52_3 < (l0_1.length : Int)
 rotate_left
 ·rw [if_neg c33] at H
  exact absurd H (by simp)
 rw [if_pos c33] at H
 have c33b0 : decide (x52_3 < (l0_1.length : Int)) = true := decide_eq_true c33
 clear c33
 have H' := Aside0.mk H
 clear H
 have p239 : 0 ≤ (x52_3 : Int) := of_decide_eq_true (by first | (with_reducible assumption) | assumption)
 have q239 : x52_3 < (l0_1.length : Int) := of_decide_eq_true (by first | (with_reducible assumption) | assumption)
 obtain ⟨ad239, A239_1, c239_1, A239_4, c239_4, e239, hx239_0, hx239_1, hx239_2, hx239_3, hx239_4, hl239_1, hi239_1, hl239_4, hi239_4⟩ := at_T54 HR0_1.out x52_3 p239 q239
 cases e239
 replace hx239_0 := (HB.out.cell (World.block_lt_of_cell? w _ hx239_0)).trans hx239_0
 replace hx239_1 := (HB.out.cell (World.block_lt_of_cell? w _ hx239_1)).trans hx239_1
 replace hx239_2 := (HB.out.cell (World.block_lt_of_cell? w _ hx239_2)).trans hx239_2
 replace hx239_3 := (HB.out.cell (World.block_lt_of_cell? w _ hx239_3)).trans hx239_3
 replace hx239_4 := (HB.out.cell (World.block_lt_of_cell? w _ hx239_4)).trans hx239_4
 have HR239_1 := Aside0.mk hi239_1
 have HC239_1 := Aside0.mk hl239_1
 clear hi239_1 hl239_1
 have HR239_4 := Aside0.mk hi239_4
 have HC239_4 := Aside0.mk hl239_4
 clear hi239_4 hl239_4
 replace p239 := eq_true p239
 replace q239 := eq_true q239
 go_wp2_with (first | ((with_reducible refine gate_dst (N := 7) rfl ?_); (try (refine gate_guard (by rfl) ?_; dsimp only)); refine box_event rfl (N := 7) rfl (cs := #[.string (⟨#[]⟩ : ByteArray), .slice none 0 0, .bool false, .string (⟨#[]⟩ : ByteArray), .slice none 0 0]) (t := 54) gs_ ?_; intro gb240 hg w34 hbox hb; have BK240 := Aside0.mk (hbox); have GW240 := Aside0.mk ((by rw [hg]; exact bz_ : w.heap.size ≤ gb240)); have GE240 := GW240; replace HB := Aside0.mk (below_step bl_ hb); have NB232_240 := nl_ hg BK232; have NB240_232 := nm_ hg BK232; replace BK232 := bb_ BK232 hb; clear hb hbox hg; have hnb35 := NB240_232.out; have hnc35 := NB232_240.out; have hcz36_0 : w34.cell? ⟨gb240, 0, none⟩ = some (.string (⟨#[]⟩ : ByteArray)) := bc_ BK240.out 0; have hcz36_1 : w34.cell? ⟨gb240, 1, none⟩ = some (.slice none 0 0) := bc_ BK240.out 1; have hcz36_2 : w34.cell? ⟨gb240, 2, none⟩ = some (.bool false) := bc_ BK240.out 2; have hcz36_3 : w34.cell? ⟨gb240, 3, none⟩ = some (.string (⟨#[]⟩ : ByteArray)) := bc_ BK240.out 3; have hcz36_4 : w34.cell? ⟨gb240, 4, none⟩ = some (.slice none 0 0) := bc_ BK240.out 4; have hfz36_0 := blk_frozen BK240.out 0; have hfz36_1 := blk_frozen BK240.out 1; have hfz36_2 := blk_frozen BK240.out 2; have hfz36_3 := blk_frozen BK240.out 3; have hfz36_4 := blk_frozen BK240.out 4))
 go_loopg [60] k3 (fun kq v60 w' => ∃ (x60_4 : Int), v60 = .int .i64 x60_4 ∧ Aside0 (impl_isSynod.l2 kq (l0_0.length : Int) x52_3 l0_1 (l0_1.length : Int) x52_3 ((rd_T54 l0_1 x52_3).f1) (((rd_T54 l0_1 x52_3).f1).length : Int) x60_4 ((rd_T54 l0_1 x52_3).f0) ((rd_T54 l0_1 x52_3).f1) ((rd_T54 l0_1 x52_3).f2) ((rd_T54 l0_1 x52_3).f3) ((rd_T54 l0_1 x52_3).f4) = some r) ∧ Aside0 (kq ≤ k3) ∧ Aside0 (w'.heap[gb232]? = some (.cells #[(.slice A0_0 l0_0.length c0_0), (.slice (some ad239) l0_1.length c0_1)] 33 (0, 0))) ∧ Aside0 (w'.heap[gb240]? = some (.cells #[.string ((rd_T54 l0_1 x52_3).f0), (.slice A239_1 ((rd_T54 l0_1 x52_3).f1).length c239_1), .bool ((rd_T54 l0_1 x52_3).f2), .string ((rd_T54 l0_1 x52_3).f3), (.slice A239_4 ((rd_T54 l0_1 x52_3).f4).length c239_4)] 54 (0, 0))) ∧ Aside0 (Below w.heap.size w w'))
 case atStart => exact ⟨(0), (by first | rfl | (simp; done) | (simp [*]; done)), H', ⟨Nat.le_refl _⟩, ⟨kz_⟩, ⟨by (with_reducible repeat (first | refine blk_drewN ?_ _ | refine blk_drew ?_ | refine blk_alloc ?_ _)); refine blk_put (cs := #[.string ((rd_T54 l0_1 x52_3).f0), .slice A239_1 ((rd_T54 l0_1 x52_3).f1).length c239_1, .bool ((rd_T54 l0_1 x52_3).f2), .string ((rd_T54 l0_1 x52_3).f3), .slice none 0 0]) ?_ 4 _ rfl; (with_reducible repeat (first | refine blk_drewN ?_ _ | refine blk_drew ?_ | refine blk_alloc ?_ _)); refine blk_put (cs := #[.string ((rd_T54 l0_1 x52_3).f0), .slice A239_1 ((rd_T54 l0_1 x52_3).f1).length c239_1, .bool ((rd_T54 l0_1 x52_3).f2), .string (⟨#[]⟩ : ByteArray), .slice none 0 0]) ?_ 3 _ rfl; (with_reducible repeat (first | refine blk_drewN ?_ _ | refine blk_drew ?_ | refine blk_alloc ?_ _)); refine blk_put (cs := #[.string ((rd_T54 l0_1 x52_3).f0), .slice A239_1 ((rd_T54 l0_1 x52_3).f1).length c239_1, .bool false, .string (⟨#[]⟩ : ByteArray), .slice none 0 0]) ?_ 2 _ rfl; (with_reducible repeat (first | refine blk_drewN ?_ _ | refine blk_drew ?_ | refine blk_alloc ?_ _)); refine blk_put (cs := #[.string ((rd_T54 l0_1 x52_3).f0), .slice none 0 0, .bool false, .string (⟨#[]⟩ : ByteArray), .slice none 0 0]) ?_ 1 _ rfl; (with_reducible repeat (first | refine blk_drewN ?_ _ | refine blk_drew ?_ | refine blk_alloc ?_ _)); refine blk_put (cs := #[.string (⟨#[]⟩ : ByteArray), .slice none 0 0, .bool false, .string (⟨#[]⟩ : ByteArray), .slice none 0 0]) ?_ 0 _ rfl; exact kb_ BK240.out⟩, ⟨bl_⟩⟩
 clear H'
 try clear c1
 try clear c2
 try clear p2
 try clear q2
 try clear hx2
 try clear c3
 try clear c4
 try clear c6
 try clear p6
 try clear c9
 try clear c11
 try clear c11b0
 try clear c12
 try clear c12b0
 try clear c13
 try clear c13b0
 try clear c15
 try clear c17
 try clear c19
 try clear c23
 try clear p23
 try clear q23
 try clear hx23
 try clear c27
 try clear c30
 try clear c31
 try clear c31b0
 try clear c32
 try clear c32b0
 try clear c33
 try clear c33b0
 try clear c35
 try clear hcz10_0
 try clear hcz10_1
 try clear hcz20_0
 try clear hcz20_1
 try clear hcz20_2
 try clear hcz21_0
 try clear hcz21_1
 try clear hcz24_0
 try clear hcz24_1
 try clear hcz24_2
 try clear hcz25_0
 try clear hcz25_1
 try clear hcz28_0
 try clear hcz28_1
 try clear hcz28_2
 try clear hcz29_0
 try clear hcz29_1
 try clear hcz30_0
 try clear hcz30_1
 try clear hcz36_0
 try clear hcz36_1
 try clear hcz36_2
 try clear hcz36_3
 try clear hcz36_4
 try clear hcz4_0
 try clear hcz4_1
 try clear hcz8_0
 try clear hcz8_1
 try clear hfz10_0
 try clear hfz10_1
 try clear hfz20_0
 try clear hfz20_1
 try clear hfz20_2
 try clear hfz21_0
 try clear hfz21_1
 try clear hfz24_0
 try clear hfz24_1
 try clear hfz24_2
 try clear hfz25_0
 try clear hfz25_1
 try clear hfz28_0
 try clear hfz28_1
 try clear hfz28_2
 try clear hfz29_0
 try clear hfz29_1
 try clear hfz30_0
 try clear hfz30_1
 try clear hfz36_0
 try clear hfz36_1
 try clear hfz36_2
 try clear hfz36_3
 try clear hfz36_4
 try clear hfz4_0
 try clear hfz4_1
 try clear hfz8_0
 try clear hfz8_1
 try clear hx235_0
 try clear hx235_1
 try clear hx235_2
 try clear hx239_0
 try clear hx239_1
 try clear hx239_2
 try clear hx239_3
 try clear hx239_4
 try clear p2
 try clear p23
 try clear p235
 try clear p239
 try clear p6
 try clear q2
 try clear q23
 try clear q235
 try clear q239
 obtain ⟨x60_4, rfl, HA, HK4, BK232, BK240, HB⟩ := hrel
 cases gk with
 | zero => exact absurd HA.out (by simp [impl_isSynod.l2])
 | succ k4 => ?_
 have H := HA.out
 clear HA
 simp only [impl_isSynod.l2] at H
 by_cases c37 : x60_4 < (((rd_T54 l0_1 x52_3).f1).length : Int)
 rotate_left
 ·rw [if_neg c37] at H
  have c37b0 : decide (x60_4 < (((rd_T54 l0_1 x52_3).f1).length : Int)) = false := decide_eq_false c37
  clear c37
  have HC87 := Aside0.mk H
  clear H
  have hnb88 := NB240_232.out
  have hnc88 := NB232_240.out
  have hcz89_0 : wr.cell? ⟨gb240, 0, none⟩ = some (.string ((rd_T54 l0_1 x52_3).f0)) := bc_ BK240.out 0
  have hcz89_1 : wr.cell? ⟨gb240, 1, none⟩ = some (.slice A239_1 ((rd_T54 l0_1 x52_3).f1).length c239_1) := bc_ BK240.out 1
  have hcz89_2 : wr.cell? ⟨gb240, 2, none⟩ = some (.bool ((rd_T54 l0_1 x52_3).f2)) := bc_ BK240.out 2
  have hcz89_3 : wr.cell? ⟨gb240, 3, none⟩ = some (.string ((rd_T54 l0_1 x52_3).f3)) := bc_ BK240.out 3
  have hcz89_4 : wr.cell? ⟨gb240, 4, none⟩ = some (.slice A239_4 ((rd_T54 l0_1 x52_3).f4).length c239_4) := bc_ BK240.out 4
  have hfz89_0 := blk_frozen BK240.out 0
  have hfz89_1 := blk_frozen BK240.out 1
  have hfz89_2 := blk_frozen BK240.out 2
  have hfz89_3 := blk_frozen BK240.out 3
  have hfz89_4 := blk_frozen BK240.out 4
  go_upto_if 98 with (fail)
  go_cut [10] (fun v10 wc => ∃ (kq : Nat) (x10_86 : ByteArray), v10 = .string x10_86 ∧ Aside0 (impl_isSynod.j4 kq (l0_0.length : Int) x10_86 l0_1 (l0_1.length : Int) x52_3 ((rd_T54 l0_1 x52_3).f0) ((rd_T54 l0_1 x52_3).f1) ((rd_T54 l0_1 x52_3).f2) ((rd_T54 l0_1 x52_3).f3) ((rd_T54 l0_1 x52_3).f4) = some r) ∧ Aside0 (kq ≤ k4) ∧ Aside0 (wc.heap[gb232]? = some (.cells #[(.slice A0_0 l0_0.length c0_0), (.slice (some ad239) l0_1.length c0_1)] 33 (0, 0))) ∧ Aside0 (wc.heap[gb240]? = some (.cells #[.string ((rd_T54 l0_1 x52_3).f0), (.slice A239_1 ((rd_T54 l0_1 x52_3).f1).length c239_1), .bool ((rd_T54 l0_1 x52_3).f2), .string ((rd_T54 l0_1 x52_3).f3), (.slice A239_4 ((rd_T54 l0_1 x52_3).f4).length c239_4)] 54 (0, 0))) ∧ Aside0 (Below w.heap.size w wc))
  case first =>
   have H := HC87.out
   clear HC87
   by_cases c90 : ((rd_T54 l0_1 x52_3).f2) = true
   rotate_left
   ·rw [if_neg c90] at H
    have c90b0 : ((rd_T54 l0_1 x52_3).f2) = false := by simpa using c90
    clear c90
    (first | rw [c90b0] | (simp only [i64_w, i32_w]; rw [c90b0]) | skip)
    have H' := Aside0.mk H
    clear H
    go_wp2
    go_meet
    case rel => exact ⟨_, ((⟨#[]⟩ : ByteArray)), (by first | rfl | (simp; done) | (simp [*]; done)), H', ⟨by have := HJ1.out; have := HK2.out; have := HK3.out; have := HK4.out; first | omega | exact Nat.le_refl _⟩, ⟨by exact kb_ BK232.out⟩, ⟨by exact kb_ BK240.out⟩, ⟨bl_⟩⟩
   rw [if_pos c90] at H
   have c90b0 : ((rd_T54 l0_1 x52_3).f2) = true := c90
   clear c90
   (first | rw [c90b0] | (simp only [i64_w, i32_w]; rw [c90b0]) | skip)
   replace H := Option.bind_eq_some_iff.mp H
   obtain ⟨t247, A910, H⟩ := H
   replace H : (impl_isSynod.j4 k4 (l0_0.length : Int) t247 l0_1 (l0_1.length : Int) x52_3 ((rd_T54 l0_1 x52_3).f0) ((rd_T54 l0_1 x52_3).f1) ((rd_T54 l0_1 x52_3).f2) ((rd_T54 l0_1 x52_3).f3) ((rd_T54 l0_1 x52_3).f4)) = some r := H
   have A91 := Aside0.mk A910
   clear A910
   rw [c90b0] at A91
   have H' := Aside0.mk H
   clear H
   have hnb92 := NB240_232.out
   have hnc92 := NB232_240.out
   have hcz93_0 : wr.cell? ⟨gb240, 0, none⟩ = some (.string ((rd_T54 l0_1 x52_3).f0)) := bc_ BK240.out 0
   have hcz93_1 : wr.cell? ⟨gb240, 1, none⟩ = some (.slice A239_1 ((rd_T54 l0_1 x52_3).f1).length c239_1) := bc_ BK240.out 1
   have hcz93_2 : wr.cell? ⟨gb240, 2, none⟩ = some (.bool ((rd_T54 l0_1 x52_3).f2)) := bc_ BK240.out 2
   have hcz93_3 : wr.cell? ⟨gb240, 3, none⟩ = some (.string ((rd_T54 l0_1 x52_3).f3)) := bc_ BK240.out 3
   have hcz93_4 : wr.cell? ⟨gb240, 4, none⟩ = some (.slice A239_4 ((rd_T54 l0_1 x52_3).f4).length c239_4) := bc_ BK240.out 4
   have hfz93_0 := blk_frozen BK240.out 0
   have hfz93_1 := blk_frozen BK240.out 1
   have hfz93_2 := blk_frozen BK240.out 2
   have hfz93_3 := blk_frozen BK240.out 3
   have hfz93_4 := blk_frozen BK240.out 4
   go_wp2_with (first | ((with_reducible refine gate_callee (f := 52) rfl ?_); refine goesL_ (some 100) rfl rfl Try.func52 (by kernel_rfl) rfl #[.agg #[.string ((rd_T54 l0_1 x52_3).f0), .slice A239_1 ((rd_T54 l0_1 x52_3).f1).length c239_1, .bool true, .string ((rd_T54 l0_1 x52_3).f3), .slice A239_4 ((rd_T54 l0_1 x52_3).f4).length c239_4]] rfl nc_ ?_; (with_reducible refine (impl_Proposer_fixed.calls k4 ((rd_T54 l0_1 x52_3).f0) _ _ ((rd_T54 l0_1 x52_3).f1) true ((rd_T54 l0_1 x52_3).f3) _ _ ((rd_T54 l0_1 x52_3).f4) t247 _ ?side1 ?side2 ?side3 ?side4 A91.out).mono ?_); (case side1 => exact kc_ (Kd.C_below HR239_1.out HB.out)); (case side2 => exact HC239_1.out); (case side3 => exact kc_ (Kd.C_below HR239_4.out HB.out)); (case side4 => exact HC239_4.out); rintro e w94 ⟨rfl, hb⟩; refine ⟨_, rfl, ?_⟩; replace BK232 := bb_ BK232 hb; replace BK240 := bb_ BK240 hb; replace HB := Aside0.mk (below_step bl_ hb); clear hb))
   go_meet
   case rel => exact ⟨_, (t247), (by first | rfl | (simp; done) | (simp [*]; done)), H', ⟨by have := HJ1.out; have := HK2.out; have := HK3.out; have := HK4.out; first | omega | exact Nat.le_refl _⟩, ⟨by exact kb_ BK232.out⟩, ⟨by exact kb_ BK240.out⟩, ⟨bl_⟩⟩
  clear HC87
  try clear c2
  try clear p2
  try clear q2
  try clear hx2
  try clear c3
  try clear c4
  try clear c5
  try clear c6
  try clear p6
  try clear c7
  try clear c8
  try clear c9
  try clear c23
  try clear p24
  try clear q24
  try clear hx24
  try clear c37
  try clear c37b0
  try clear c38
  try clear c39
  try clear c41
  try clear c46
  try clear c51
  try clear c52
  try clear p64
  try clear c68
  try clear c76
  try clear c77
  try clear c82
  try clear c83
  try clear c88
  try clear c90
  try clear c90b0
  try clear c92
  try clear hcz78_0
  try clear hcz78_1
  try clear hcz78_2
  try clear hcz84_0
  try clear hcz84_1
  try clear hcz84_2
  try clear hcz89_0
  try clear hcz89_1
  try clear hcz89_2
  try clear hcz89_3
  try clear hcz89_4
  try clear hcz93_0
  try clear hcz93_1
  try clear hcz93_2
  try clear hcz93_3
  try clear hcz93_4
  try clear hfz78_0
  try clear hfz78_1
  try clear hfz78_2
  try clear hfz84_0
  try clear hfz84_1
  try clear hfz84_2
  try clear hfz89_0
  try clear hfz89_1
  try clear hfz89_2
  try clear hfz89_3
  try clear hfz89_4
  try clear hfz93_0
  try clear hfz93_1
  try clear hfz93_2
  try clear hfz93_3
  try clear hfz93_4
  try clear hx241_0
  try clear hx241_1
  try clear hx241_2
  try clear p241
  try clear q241
  obtain ⟨kq, x10_86, rfl, HA, HJ86, BK232, BK240, HB⟩ := hcut
  cases kq with
  | zero => exact absurd HA.out (by simp [impl_isSynod.j4])
  | succ kj86 => ?_
  have H := HA.out
  clear HA
  simp only [impl_isSynod.j4] at H
  replace H := Option.bind_eq_some_iff.mp H
  obtain ⟨t248, A950, H⟩ := H
  replace H : (if t248 = true then (if (((rd_T54 l0_1 x52_3).f2) != (decide ((wrap64 (2 * (((rd_T54 l0_1 x52_3).f1).length : Int))) > (l0_0.length : Int)))) = true then (some false) else (if ((rd_T54 l0_1 x52_3).f3).toList = x10_86.toList then ((impl_areRising.f kj86 ((rd_T54 l0_1 x52_3).f4) (l0_0.length : Int)).bind fun t249 => (if t249 = true then (if ((rd_T54 l0_1 x52_3).f2) = true then (impl_isSynod.l1 kj86 (l0_0.length : Int) l0_1 (l0_1.length : Int) (wrap64 (x52_3 + 1))) else (if (((rd_T54 l0_1 x52_3).f4).length : Int) > 0 then (some false) else (impl_isSynod.l1 kj86 (l0_0.length : Int) l0_1 (l0_1.length : Int) (wrap64 (x52_3 + 1))))) else (some false))) else (some false))) else (some false)) = some r := H
  have A95 := Aside0.mk A950
  clear A950
  by_cases c96 : t248 = true
  rotate_left
  ·replace c96 := Bool.eq_false_iff.mpr c96
   subst c96
   have H1 : (some false) = some r := by rw [if_neg (show ¬ (false = true) by decide)] at H; exact H
   clear H
   have H := H1
   clear H1
   obtain rfl := Option.some.inj H
   have hnb115 := NB240_232.out
   have hnc115 := NB232_240.out
   have hcz116_0 : wc.cell? ⟨gb240, 0, none⟩ = some (.string ((rd_T54 l0_1 x52_3).f0)) := bc_ BK240.out 0
   have hcz116_1 : wc.cell? ⟨gb240, 1, none⟩ = some (.slice A239_1 ((rd_T54 l0_1 x52_3).f1).length c239_1) := bc_ BK240.out 1
   have hcz116_2 : wc.cell? ⟨gb240, 2, none⟩ = some (.bool ((rd_T54 l0_1 x52_3).f2)) := bc_ BK240.out 2
   have hcz116_3 : wc.cell? ⟨gb240, 3, none⟩ = some (.string ((rd_T54 l0_1 x52_3).f3)) := bc_ BK240.out 3
   have hcz116_4 : wc.cell? ⟨gb240, 4, none⟩ = some (.slice A239_4 ((rd_T54 l0_1 x52_3).f4).length c239_4) := bc_ BK240.out 4
   have hfz116_0 := blk_frozen BK240.out 0
   have hfz116_1 := blk_frozen BK240.out 1
   have hfz116_2 := blk_frozen BK240.out 2
   have hfz116_3 := blk_frozen BK240.out 3
   have hfz116_4 := blk_frozen BK240.out 4
   go_wp2_with (first | ((with_reducible refine gate_callee (f := 53) rfl ?_); refine goesL_ (some 103) rfl rfl Try.func53 (by kernel_rfl) rfl #[.string ((rd_T54 l0_1 x52_3).f0)] rfl nc_ ?_; (with_reducible refine (impl_isValue.calls kj86 ((rd_T54 l0_1 x52_3).f0) false _ A95.out).mono ?_); rintro e w' ⟨rfl, ⟨nd, rfl⟩⟩; refine ⟨_, rfl, ?_⟩))
   go_ret
   exact ⟨ng_, bl_⟩
  subst c96
  have H1 : (if (((rd_T54 l0_1 x52_3).f2) != (decide ((wrap64 (2 * (((rd_T54 l0_1 x52_3).f1).length : Int))) > (l0_0.length : Int)))) = true then (some false) else (if ((rd_T54 l0_1 x52_3).f3).toList = x10_86.toList then ((impl_areRising.f kj86 ((rd_T54 l0_1 x52_3).f4) (l0_0.length : Int)).bind fun t249 => (if t249 = true then (if ((rd_T54 l0_1 x52_3).f2) = true then (impl_isSynod.l1 kj86 (l0_0.length : Int) l0_1 (l0_1.length : Int) (wrap64 (x52_3 + 1))) else (if (((rd_T54 l0_1 x52_3).f4).length : Int) > 0 then (some false) else (impl_isSynod.l1 kj86 (l0_0.length : Int) l0_1 (l0_1.length : Int) (wrap64 (x52_3 + 1))))) else (some false))) else (some false))) = some r := by rw [if_pos rfl] at H; exact H
  clear H
  have H := H1
  clear H1
  by_cases c97 : (((rd_T54 l0_1 x52_3).f2) != (decide ((wrap64 (2 * (((rd_T54 l0_1 x52_3).f1).length : Int))) > (l0_0.length : Int)))) = true
  ·rw [if_pos c97] at H
   have c97b0 : (((rd_T54 l0_1 x52_3).f2) != (decide ((wrap64 (2 * (((rd_T54 l0_1 x52_3).f1).length : Int))) > (l0_0.length : Int)))) = true := c97
   (try (have c97b1 : decide (((rd_T54 l0_1 x52_3).f2) = (decide ((wrap64 (2 * (((rd_T54 l0_1 x52_3).f1).length : Int))) > (l0_0.length : Int)))) = false := by simpa using c97))
   (try (have c97b2 : (((rd_T54 l0_1 x52_3).f2) == (decide ((wrap64 (2 * (((rd_T54 l0_1 x52_3).f1).length : Int))) > (l0_0.length : Int)))) = false := by simpa using c97))
   (try (have c97b3 : ¬ (((rd_T54 l0_1 x52_3).f2) = (decide ((wrap64 (2 * (((rd_T54 l0_1 x52_3).f1).length : Int))) > (l0_0.length : Int)))) := by simpa using c97))
   clear c97
   obtain rfl := Option.some.inj H
   have hnb98 := NB240_232.out
   have hnc98 := NB232_240.out
   have hcz99_0 : wc.cell? ⟨gb240, 0, none⟩ = some (.string ((rd_T54 l0_1 x52_3).f0)) := bc_ BK240.out 0
   have hcz99_1 : wc.cell? ⟨gb240, 1, none⟩ = some (.slice A239_1 ((rd_T54 l0_1 x52_3).f1).length c239_1) := bc_ BK240.out 1
   have hcz99_2 : wc.cell? ⟨gb240, 2, none⟩ = some (.bool ((rd_T54 l0_1 x52_3).f2)) := bc_ BK240.out 2
   have hcz99_3 : wc.cell? ⟨gb240, 3, none⟩ = some (.string ((rd_T54 l0_1 x52_3).f3)) := bc_ BK240.out 3
   have hcz99_4 : wc.cell? ⟨gb240, 4, none⟩ = some (.slice A239_4 ((rd_T54 l0_1 x52_3).f4).length c239_4) := bc_ BK240.out 4
   have hfz99_0 := blk_frozen BK240.out 0
   have hfz99_1 := blk_frozen BK240.out 1
   have hfz99_2 := blk_frozen BK240.out 2
   have hfz99_3 := blk_frozen BK240.out 3
   have hfz99_4 := blk_frozen BK240.out 4
   go_wp2_with (first | ((with_reducible refine gate_callee (f := 53) rfl ?_); refine goesL_ (some 103) rfl rfl Try.func53 (by kernel_rfl) rfl #[.string ((rd_T54 l0_1 x52_3).f0)] rfl nc_ ?_; (with_reducible refine (impl_isValue.calls kj86 ((rd_T54 l0_1 x52_3).f0) true _ A95.out).mono ?_); rintro e w' ⟨rfl, ⟨nd, rfl⟩⟩; refine ⟨_, rfl, ?_⟩))
   go_ret
   exact ⟨ng_, bl_⟩
  rw [if_neg c97] at H
  have c97b0 : (((rd_T54 l0_1 x52_3).f2) != (decide ((wrap64 (2 * (((rd_T54 l0_1 x52_3).f1).length : Int))) > (l0_0.length : Int)))) = false := by simpa using c97
  (try (have c97b1 : decide (((rd_T54 l0_1 x52_3).f2) = (decide ((wrap64 (2 * (((rd_T54 l0_1 x52_3).f1).length : Int))) > (l0_0.length : Int)))) = true := by simpa using c97))
  (try (have c97b2 : (((rd_T54 l0_1 x52_3).f2) == (decide ((wrap64 (2 * (((rd_T54 l0_1 x52_3).f1).length : Int))) > (l0_0.length : Int)))) = true := by simpa using c97))
  clear c97
  by_cases c100 : ((rd_T54 l0_1 x52_3).f3).toList = x10_86.toList
  rotate_left
  ·rw [if_neg c100] at H
   have c100b0 : (((rd_T54 l0_1 x52_3).f3).toList == x10_86.toList) = false := beq_eq_false_iff_ne.mpr c100
   have c100b1 : (((rd_T54 l0_1 x52_3).f3).toList != x10_86.toList) = true := bne_iff_ne.mpr c100
   obtain rfl := Option.some.inj H
   have hnb113 := NB240_232.out
   have hnc113 := NB232_240.out
   have hcz114_0 : wc.cell? ⟨gb240, 0, none⟩ = some (.string ((rd_T54 l0_1 x52_3).f0)) := bc_ BK240.out 0
   have hcz114_1 : wc.cell? ⟨gb240, 1, none⟩ = some (.slice A239_1 ((rd_T54 l0_1 x52_3).f1).length c239_1) := bc_ BK240.out 1
   have hcz114_2 : wc.cell? ⟨gb240, 2, none⟩ = some (.bool ((rd_T54 l0_1 x52_3).f2)) := bc_ BK240.out 2
   have hcz114_3 : wc.cell? ⟨gb240, 3, none⟩ = some (.string ((rd_T54 l0_1 x52_3).f3)) := bc_ BK240.out 3
   have hcz114_4 : wc.cell? ⟨gb240, 4, none⟩ = some (.slice A239_4 ((rd_T54 l0_1 x52_3).f4).length c239_4) := bc_ BK240.out 4
   have hfz114_0 := blk_frozen BK240.out 0
   have hfz114_1 := blk_frozen BK240.out 1
   have hfz114_2 := blk_frozen BK240.out 2
   have hfz114_3 := blk_frozen BK240.out 3
   have hfz114_4 := blk_frozen BK240.out 4
   go_wp2_with (first | ((with_reducible refine gate_callee (f := 53) rfl ?_); refine goesL_ (some 103) rfl rfl Try.func53 (by kernel_rfl) rfl #[.string ((rd_T54 l0_1 x52_3).f0)] rfl nc_ ?_; (with_reducible refine (impl_isValue.calls kj86 ((rd_T54 l0_1 x52_3).f0) true _ A95.out).mono ?_); rintro e w' ⟨rfl, ⟨nd, rfl⟩⟩; refine ⟨_, rfl, ?_⟩))
   go_ret
   exact ⟨ng_, bl_⟩
  rw [if_pos c100] at H
  have c100b0 : (((rd_T54 l0_1 x52_3).f3).toList == x10_86.toList) = true := beq_iff_eq.mpr c100
  have c100b1 : (((rd_T54 l0_1 x52_3).f3).toList != x10_86.toList) = false := bne_eq_false_iff_eq.mpr c100
  clear c100
  replace H := Option.bind_eq_some_iff.mp H
  obtain ⟨t249, A1010, H⟩ := H
  replace H : (if t249 = true then (if ((rd_T54 l0_1 x52_3).f2) = true then (impl_isSynod.l1 kj86 (l0_0.length : Int) l0_1 (l0_1.length : Int) (wrap64 (x52_3 + 1))) else (if (((rd_T54 l0_1 x52_3).f4).length : Int) > 0 then (some false) else (impl_isSynod.l1 kj86 (l0_0.length : Int) l0_1 (l0_1.length : Int) (wrap64 (x52_3 + 1))))) else (some false)) = some r := H
  have A101 := Aside0.mk A1010
  clear A1010
  by_cases c102 : t249 = true
  rotate_left
  ·replace c102 := Bool.eq_false_iff.mpr c102
   subst c102
   have H1 : (some false) = some r := by rw [if_neg (show ¬ (false = true) by decide)] at H; exact H
   clear H
   have H := H1
   clear H1
   obtain rfl := Option.some.inj H
   have hnb111 := NB240_232.out
   have hnc111 := NB232_240.out
   have hcz112_0 : wc.cell? ⟨gb240, 0, none⟩ = some (.string ((rd_T54 l0_1 x52_3).f0)) := bc_ BK240.out 0
   have hcz112_1 : wc.cell? ⟨gb240, 1, none⟩ = some (.slice A239_1 ((rd_T54 l0_1 x52_3).f1).length c239_1) := bc_ BK240.out 1
   have hcz112_2 : wc.cell? ⟨gb240, 2, none⟩ = some (.bool ((rd_T54 l0_1 x52_3).f2)) := bc_ BK240.out 2
   have hcz112_3 : wc.cell? ⟨gb240, 3, none⟩ = some (.string ((rd_T54 l0_1 x52_3).f3)) := bc_ BK240.out 3
   have hcz112_4 : wc.cell? ⟨gb240, 4, none⟩ = some (.slice A239_4 ((rd_T54 l0_1 x52_3).f4).length c239_4) := bc_ BK240.out 4
   have hfz112_0 := blk_frozen BK240.out 0
   have hfz112_1 := blk_frozen BK240.out 1
   have hfz112_2 := blk_frozen BK240.out 2
   have hfz112_3 := blk_frozen BK240.out 3
   have hfz112_4 := blk_frozen BK240.out 4
   go_wp2_with (first | ((with_reducible refine gate_callee (f := 53) rfl ?_); refine goesL_ (some 103) rfl rfl Try.func53 (by kernel_rfl) rfl #[.string ((rd_T54 l0_1 x52_3).f0)] rfl nc_ ?_; (with_reducible refine (impl_isValue.calls kj86 ((rd_T54 l0_1 x52_3).f0) true _ A95.out).mono ?_); rintro e w' ⟨rfl, ⟨nd, rfl⟩⟩; refine ⟨_, rfl, ?_⟩) | (go_at_call 54; (with_reducible refine (impl_areRising.calls kj86 _ _ ((rd_T54 l0_1 x52_3).f4) (l0_0.length : Int) false _ ?side1 ?side2 A101.out).mono ?_); (case side1 => exact kc_ (Kd.C_below HR239_4.out bl_)); (case side2 => exact HC239_4.out); rintro e w' ⟨rfl, ⟨nd, rfl⟩⟩))
   go_ret
   exact ⟨ng_, bl_⟩
  subst c102
  have H1 : (if ((rd_T54 l0_1 x52_3).f2) = true then (impl_isSynod.l1 kj86 (l0_0.length : Int) l0_1 (l0_1.length : Int) (wrap64 (x52_3 + 1))) else (if (((rd_T54 l0_1 x52_3).f4).length : Int) > 0 then (some false) else (impl_isSynod.l1 kj86 (l0_0.length : Int) l0_1 (l0_1.length : Int) (wrap64 (x52_3 + 1))))) = some r := by rw [if_pos rfl] at H; exact H
  clear H
  have H := H1
  clear H1
  by_cases c103 : ((rd_T54 l0_1 x52_3).f2) = true
  ·rw [if_pos c103] at H
   have c103b0 : ((rd_T54 l0_1 x52_3).f2) = true := c103
   have c97d : decide ((l0_0.length : Int) < (wrap64 (2 * (((rd_T54 l0_1 x52_3).f1).length : Int)))) = true := by have q_ := c97b0; rw [c103b0] at q_; simpa using q_
   clear c103
   have H' := Aside0.mk H
   clear H
   have hnb104 := NB240_232.out
   have hnc104 := NB232_240.out
   have hcz105_0 : wc.cell? ⟨gb240, 0, none⟩ = some (.string ((rd_T54 l0_1 x52_3).f0)) := bc_ BK240.out 0
   have hcz105_1 : wc.cell? ⟨gb240, 1, none⟩ = some (.slice A239_1 ((rd_T54 l0_1 x52_3).f1).length c239_1) := bc_ BK240.out 1
   have hcz105_2 : wc.cell? ⟨gb240, 2, none⟩ = some (.bool ((rd_T54 l0_1 x52_3).f2)) := bc_ BK240.out 2
   have hcz105_3 : wc.cell? ⟨gb240, 3, none⟩ = some (.string ((rd_T54 l0_1 x52_3).f3)) := bc_ BK240.out 3
   have hcz105_4 : wc.cell? ⟨gb240, 4, none⟩ = some (.slice A239_4 ((rd_T54 l0_1 x52_3).f4).length c239_4) := bc_ BK240.out 4
   have hfz105_0 := blk_frozen BK240.out 0
   have hfz105_1 := blk_frozen BK240.out 1
   have hfz105_2 := blk_frozen BK240.out 2
   have hfz105_3 := blk_frozen BK240.out 3
   have hfz105_4 := blk_frozen BK240.out 4
   go_wp2_with (first | ((with_reducible refine gate_callee (f := 53) rfl ?_); refine goesL_ (some 103) rfl rfl Try.func53 (by kernel_rfl) rfl #[.string ((rd_T54 l0_1 x52_3).f0)] rfl nc_ ?_; (with_reducible refine (impl_isValue.calls kj86 ((rd_T54 l0_1 x52_3).f0) true _ A95.out).mono ?_); rintro e w' ⟨rfl, ⟨nd, rfl⟩⟩; refine ⟨_, rfl, ?_⟩) | (go_at_call 54; (with_reducible refine (impl_areRising.calls kj86 _ _ ((rd_T54 l0_1 x52_3).f4) (l0_0.length : Int) true _ ?side1 ?side2 A101.out).mono ?_); (case side1 => exact kc_ (Kd.C_below HR239_4.out bl_)); (case side2 => exact HC239_4.out); rintro e w' ⟨rfl, ⟨nd, rfl⟩⟩))
   go_roundg kj86
   case measure => have := HJ1.out; have := HK2.out; have := HK3.out; have := HK4.out; have := HJ86.out; omega
   case rel => exact ⟨(wrap64 (x52_3 + 1)), (by first | rfl | (simp; done) | (simp [*]; done)), H', ⟨by have := HJ1.out; have := HK2.out; have := HK3.out; have := HK4.out; have := HJ86.out; omega⟩, ⟨by exact kb_ BK232.out⟩, ⟨bl_⟩⟩
  rw [if_neg c103] at H
  have c103b0 : ((rd_T54 l0_1 x52_3).f2) = false := by simpa using c103
  have c97d : decide ((l0_0.length : Int) < (wrap64 (2 * (((rd_T54 l0_1 x52_3).f1).length : Int)))) = false := by have q_ := c97b0; rw [c103b0] at q_; simpa using q_
  clear c103
  by_cases c106 : (((rd_T54 l0_1 x52_3).f4).length : Int) > 0
  ·rw [if_pos c106] at H
   have c106b0 : decide (0 < (((rd_T54 l0_1 x52_3).f4).length : Int)) = true := decide_eq_true c106
   have c106b1 : decide (0 < ((rd_T54 l0_1 x52_3).f4).length) = true := decide_eq_true (by omega)
   clear c106
   obtain rfl := Option.some.inj H
   have hnb107 := NB240_232.out
   have hnc107 := NB232_240.out
   have hcz108_0 : wc.cell? ⟨gb240, 0, none⟩ = some (.string ((rd_T54 l0_1 x52_3).f0)) := bc_ BK240.out 0
   have hcz108_1 : wc.cell? ⟨gb240, 1, none⟩ = some (.slice A239_1 ((rd_T54 l0_1 x52_3).f1).length c239_1) := bc_ BK240.out 1
   have hcz108_2 : wc.cell? ⟨gb240, 2, none⟩ = some (.bool ((rd_T54 l0_1 x52_3).f2)) := bc_ BK240.out 2
   have hcz108_3 : wc.cell? ⟨gb240, 3, none⟩ = some (.string ((rd_T54 l0_1 x52_3).f3)) := bc_ BK240.out 3
   have hcz108_4 : wc.cell? ⟨gb240, 4, none⟩ = some (.slice A239_4 ((rd_T54 l0_1 x52_3).f4).length c239_4) := bc_ BK240.out 4
   have hfz108_0 := blk_frozen BK240.out 0
   have hfz108_1 := blk_frozen BK240.out 1
   have hfz108_2 := blk_frozen BK240.out 2
   have hfz108_3 := blk_frozen BK240.out 3
   have hfz108_4 := blk_frozen BK240.out 4
   go_wp2_with (first | ((with_reducible refine gate_callee (f := 53) rfl ?_); refine goesL_ (some 103) rfl rfl Try.func53 (by kernel_rfl) rfl #[.string ((rd_T54 l0_1 x52_3).f0)] rfl nc_ ?_; (with_reducible refine (impl_isValue.calls kj86 ((rd_T54 l0_1 x52_3).f0) true _ A95.out).mono ?_); rintro e w' ⟨rfl, ⟨nd, rfl⟩⟩; refine ⟨_, rfl, ?_⟩) | (go_at_call 54; (with_reducible refine (impl_areRising.calls kj86 _ _ ((rd_T54 l0_1 x52_3).f4) (l0_0.length : Int) true _ ?side1 ?side2 A101.out).mono ?_); (case side1 => exact kc_ (Kd.C_below HR239_4.out bl_)); (case side2 => exact HC239_4.out); rintro e w' ⟨rfl, ⟨nd, rfl⟩⟩))
   go_ret
   exact ⟨ng_, bl_⟩
  rw [if_neg c106] at H
  have c106b0 : decide (0 < (((rd_T54 l0_1 x52_3).f4).length : Int)) = false := decide_eq_false c106
  have c106b1 : decide (0 < ((rd_T54 l0_1 x52_3).f4).length) = false := decide_eq_false (by omega)
  clear c106
  have H' := Aside0.mk H
  clear H
  have hnb109 := NB240_232.out
  have hnc109 := NB232_240.out
  have hcz110_0 : wc.cell? ⟨gb240, 0, none⟩ = some (.string ((rd_T54 l0_1 x52_3).f0)) := bc_ BK240.out 0
  have hcz110_1 : wc.cell? ⟨gb240, 1, none⟩ = some (.slice A239_1 ((rd_T54 l0_1 x52_3).f1).length c239_1) := bc_ BK240.out 1
  have hcz110_2 : wc.cell? ⟨gb240, 2, none⟩ = some (.bool ((rd_T54 l0_1 x52_3).f2)) := bc_ BK240.out 2
  have hcz110_3 : wc.cell? ⟨gb240, 3, none⟩ = some (.string ((rd_T54 l0_1 x52_3).f3)) := bc_ BK240.out 3
  have hcz110_4 : wc.cell? ⟨gb240, 4, none⟩ = some (.slice A239_4 ((rd_T54 l0_1 x52_3).f4).length c239_4) := bc_ BK240.out 4
  have hfz110_0 := blk_frozen BK240.out 0
  have hfz110_1 := blk_frozen BK240.out 1
  have hfz110_2 := blk_frozen BK240.out 2
  have hfz110_3 := blk_frozen BK240.out 3
  have hfz110_4 := blk_frozen BK240.out 4
  go_wp2_with (first | ((with_reducible refine gate_callee (f := 53) rfl ?_); refine goesL_ (some 103) rfl rfl Try.func53 (by kernel_rfl) rfl #[.string ((rd_T54 l0_1 x52_3).f0)] rfl nc_ ?_; (with_reducible refine (impl_isValue.calls kj86 ((rd_T54 l0_1 x52_3).f0) true _ A95.out).mono ?_); rintro e w' ⟨rfl, ⟨nd, rfl⟩⟩; refine ⟨_, rfl, ?_⟩) | (go_at_call 54; (with_reducible refine (impl_areRising.calls kj86 _ _ ((rd_T54 l0_1 x52_3).f4) (l0_0.length : Int) true _ ?side1 ?side2 A101.out).mono ?_); (case side1 => exact kc_ (Kd.C_below HR239_4.out bl_)); (case side2 => exact HC239_4.out); rintro e w' ⟨rfl, ⟨nd, rfl⟩⟩))
  go_roundg kj86
  case measure => have := HJ1.out; have := HK2.out; have := HK3.out; have := HK4.out; have := HJ86.out; omega
  case rel => exact ⟨(wrap64 (x52_3 + 1)), (by first | rfl | (simp; done) | (simp [*]; done)), H', ⟨by have := HJ1.out; have := HK2.out; have := HK3.out; have := HK4.out; have := HJ86.out; omega⟩, ⟨by exact kb_ BK232.out⟩, ⟨bl_⟩⟩
 rw [if_pos c37] at H
 have c37b0 : decide (x60_4 < (((rd_T54 l0_1 x52_3).f1).length : Int)) = true := decide_eq_true c37
 clear c37
 by_cases c38 : 0 ≤ x60_4
 rotate_left
 ·rw [if_neg c38] at H
  exact absurd H (by simp)
 rw [if_pos c38] at H
 have c38b0 : decide (0 ≤ x60_4) = true := decide_eq_true c38
 clear c38
 by_cases c39 : x60_4 < (((rd_T54 l0_1 x52_3).f1).length : Int)
 rotate_left
 ·rw [if_neg c39] at H
  exact absurd H (by simp)
 rw [if_pos c39] at H
 have c39b0 : decide (x60_4 < (((rd_T54 l0_1 x52_3).f1).length : Int)) = true := decide_eq_true c39
 clear c39
 replace H := Option.bind_eq_some_iff.mp H
 obtain ⟨t243, A400, H⟩ := H
 replace H : (if t243 = true then (if x60_4 > 0 then (if 0 ≤ (wrap64 (x60_4 - 1)) then (if (wrap64 (x60_4 - 1)) < (((rd_T54 l0_1 x52_3).f1).length : Int) then (if ((rd_T73 ((rd_T54 l0_1 x52_3).f1) (wrap64 (x60_4 - 1))).f0) ≥ ((rd_T73 ((rd_T54 l0_1 x52_3).f1) x60_4).f0) then (some false) else ((impl_isVoted.f k4 ((rd_T73 ((rd_T54 l0_1 x52_3).f1) x60_4).f1) ((rd_T73 ((rd_T54 l0_1 x52_3).f1) x60_4).f2) x52_3).bind fun t245 => (if t245 = true then (impl_isSynod.l2 k4 (l0_0.length : Int) x52_3 l0_1 (l0_1.length : Int) x52_3 ((rd_T54 l0_1 x52_3).f1) (((rd_T54 l0_1 x52_3).f1).length : Int) (wrap64 (x60_4 + 1)) ((rd_T54 l0_1 x52_3).f0) ((rd_T54 l0_1 x52_3).f1) ((rd_T54 l0_1 x52_3).f2) ((rd_T54 l0_1 x52_3).f3) ((rd_T54 l0_1 x52_3).f4)) else (some false)))) else (none)) else (none)) else ((impl_isVoted.f k4 ((rd_T73 ((rd_T54 l0_1 x52_3).f1) x60_4).f1) ((rd_T73 ((rd_T54 l0_1 x52_3).f1) x60_4).f2) x52_3).bind fun t246 => (if t246 = true then (impl_isSynod.l2 k4 (l0_0.length : Int) x52_3 l0_1 (l0_1.length : Int) x52_3 ((rd_T54 l0_1 x52_3).f1) (((rd_T54 l0_1 x52_3).f1).length : Int) (wrap64 (x60_4 + 1)) ((rd_T54 l0_1 x52_3).f0) ((rd_T54 l0_1 x52_3).f1) ((rd_T54 l0_1 x52_3).f2) ((rd_T54 l0_1 x52_3).f3) ((rd_T54 l0_1 x52_3).f4)) else (some false)))) else (some false)) = some r := H
 have A40 := Aside0.mk A400
 clear A400
 by_cases c41 : t243 = true
 rotate_left
 ·replace c41 := Bool.eq_false_iff.mpr c41
  subst c41
  have H1 : (some false) = some r := by rw [if_neg (show ¬ (false = true) by decide)] at H; exact H
  clear H
  have H := H1
  clear H1
  obtain rfl := Option.some.inj H
  have p241 : 0 ≤ (x60_4 : Int) := of_decide_eq_true (by first | (with_reducible assumption) | assumption)
  have q241 : x60_4 < (((rd_T54 l0_1 x52_3).f1).length : Int) := of_decide_eq_true (by first | (with_reducible assumption) | assumption)
  obtain ⟨ad241, e241, hx241_0, hx241_1, hx241_2⟩ := at_T73 HR239_1.out x60_4 p241 q241
  cases e241
  replace hx241_0 := (HB.out.cell (World.block_lt_of_cell? w _ hx241_0)).trans hx241_0
  replace hx241_1 := (HB.out.cell (World.block_lt_of_cell? w _ hx241_1)).trans hx241_1
  replace hx241_2 := (HB.out.cell (World.block_lt_of_cell? w _ hx241_2)).trans hx241_2
  replace p241 := eq_true p241
  replace q241 := eq_true q241
  try go_wp2_with (first | ((with_reducible refine gate_dst (N := 9) rfl ?_); (try (refine gate_guard (by rfl) ?_; dsimp only)); refine box_event rfl (N := 9) rfl (cs := #[.int .i64 0, .int .i64 0, .string (⟨#[]⟩ : ByteArray)]) (t := 73) gs_ ?_; intro gb242 hg w81 hbox hb; have BK242 := Aside0.mk (hbox); have GW242 := Aside0.mk ((by rw [hg]; exact bz_ : w.heap.size ≤ gb242)); have GE242 := GW242; replace HB := Aside0.mk (below_step bl_ hb); have NB232_242 := nl_ hg BK232; have NB242_232 := nm_ hg BK232; replace BK232 := bb_ BK232 hb; have NB240_242 := nl_ hg BK240; have NB242_240 := nm_ hg BK240; replace BK240 := bb_ BK240 hb; clear hb hbox hg; have hnb82 := NB242_232.out; have hnc82 := NB232_242.out; have hnb83 := NB242_240.out; have hnc83 := NB240_242.out; have hcz84_0 : w81.cell? ⟨gb242, 0, none⟩ = some (.int .i64 0) := bc_ BK242.out 0; have hcz84_1 : w81.cell? ⟨gb242, 1, none⟩ = some (.int .i64 0) := bc_ BK242.out 1; have hcz84_2 : w81.cell? ⟨gb242, 2, none⟩ = some (.string (⟨#[]⟩ : ByteArray)) := bc_ BK242.out 2; have hfz84_0 := blk_frozen BK242.out 0; have hfz84_1 := blk_frozen BK242.out 1; have hfz84_2 := blk_frozen BK242.out 2))
  have n0_ : Aside0 ((((w81.setCell ⟨gb242, 0, none⟩ (.int .i64 ((rd_T73 ((rd_T54 l0_1 x52_3).f1) x60_4).f0))).setCell ⟨gb242, 1, none⟩ (.int .i64 ((rd_T73 ((rd_T54 l0_1 x52_3).f1) x60_4).f1))).setCell ⟨gb242, 2, none⟩ (.string ((rd_T73 ((rd_T54 l0_1 x52_3).f1) x60_4).f2))).heap[gb232]? = some (.cells #[.slice A0_0 l0_0.length c0_0, .slice (some ad239) l0_1.length c0_1] 33 (0, 0))) := ⟨kz_⟩
  have n1_ : Aside0 ((((w81.setCell ⟨gb242, 0, none⟩ (.int .i64 ((rd_T73 ((rd_T54 l0_1 x52_3).f1) x60_4).f0))).setCell ⟨gb242, 1, none⟩ (.int .i64 ((rd_T73 ((rd_T54 l0_1 x52_3).f1) x60_4).f1))).setCell ⟨gb242, 2, none⟩ (.string ((rd_T73 ((rd_T54 l0_1 x52_3).f1) x60_4).f2))).heap[gb240]? = some (.cells #[.string ((rd_T54 l0_1 x52_3).f0), .slice (some ad241) ((rd_T54 l0_1 x52_3).f1).length c239_1, .bool ((rd_T54 l0_1 x52_3).f2), .string ((rd_T54 l0_1 x52_3).f3), .slice A239_4 ((rd_T54 l0_1 x52_3).f4).length c239_4] 54 (0, 0))) := ⟨kz_⟩
  have n2_ : Aside0 ((((w81.setCell ⟨gb242, 0, none⟩ (.int .i64 ((rd_T73 ((rd_T54 l0_1 x52_3).f1) x60_4).f0))).setCell ⟨gb242, 1, none⟩ (.int .i64 ((rd_T73 ((rd_T54 l0_1 x52_3).f1) x60_4).f1))).setCell ⟨gb242, 2, none⟩ (.string ((rd_T73 ((rd_T54 l0_1 x52_3).f1) x60_4).f2))).heap[gb242]? = some (.cells #[.int .i64 ((rd_T73 ((rd_T54 l0_1 x52_3).f1) x60_4).f0), .int .i64 ((rd_T73 ((rd_T54 l0_1 x52_3).f1) x60_4).f1), .string ((rd_T73 ((rd_T54 l0_1 x52_3).f1) x60_4).f2)] 73 (0, 0))) := ⟨by (with_reducible repeat (first | refine blk_drewN ?_ _ | refine blk_drew ?_ | refine blk_alloc ?_ _)); refine blk_put (cs := #[.int .i64 ((rd_T73 ((rd_T54 l0_1 x52_3).f1) x60_4).f0), .int .i64 ((rd_T73 ((rd_T54 l0_1 x52_3).f1) x60_4).f1), .string (⟨#[]⟩ : ByteArray)]) ?_ 2 _ rfl; (with_reducible repeat (first | refine blk_drewN ?_ _ | refine blk_drew ?_ | refine blk_alloc ?_ _)); refine blk_put (cs := #[.int .i64 ((rd_T73 ((rd_T54 l0_1 x52_3).f1) x60_4).f0), .int .i64 0, .string (⟨#[]⟩ : ByteArray)]) ?_ 1 _ rfl; (with_reducible repeat (first | refine blk_drewN ?_ _ | refine blk_drew ?_ | refine blk_alloc ?_ _)); refine blk_put (cs := #[.int .i64 0, .int .i64 0, .string (⟨#[]⟩ : ByteArray)]) ?_ 0 _ rfl; exact kb_ BK242.out⟩
  have n3_ : Aside0 (Below w.heap.size w (((w81.setCell ⟨gb242, 0, none⟩ (.int .i64 ((rd_T73 ((rd_T54 l0_1 x52_3).f1) x60_4).f0))).setCell ⟨gb242, 1, none⟩ (.int .i64 ((rd_T73 ((rd_T54 l0_1 x52_3).f1) x60_4).f1))).setCell ⟨gb242, 2, none⟩ (.string ((rd_T73 ((rd_T54 l0_1 x52_3).f1) x60_4).f2)))) := ⟨bl_⟩
  (try clear BK232)
  (try clear BK240)
  (try clear BK242)
  (try clear HB)
  generalize (((w81.setCell ⟨gb242, 0, none⟩ (.int .i64 ((rd_T73 ((rd_T54 l0_1 x52_3).f1) x60_4).f0))).setCell ⟨gb242, 1, none⟩ (.int .i64 ((rd_T73 ((rd_T54 l0_1 x52_3).f1) x60_4).f1))).setCell ⟨gb242, 2, none⟩ (.string ((rd_T73 ((rd_T54 l0_1 x52_3).f1) x60_4).f2))) = w85 at n0_ n1_ n2_ n3_ ⊢
  have BK232 := n0_
  have BK240 := n1_
  have BK242 := n2_
  have HB := n3_
  clear n0_ n1_ n2_ n3_
  replace BK232 := Aside0.mk (blk_drew BK232.out)
  replace BK240 := Aside0.mk (blk_drew BK240.out)
  replace BK242 := Aside0.mk (blk_drew BK242.out)
  replace HB := Aside0.mk (below_drew1 HB.out)
  refine start_ (n := 31) (S := fun w' => w'.cell? ⟨gb242, 0, none⟩ = some (.int .i64 ((rd_T73 ((rd_T54 l0_1 x52_3).f1) x60_4).f0)) ∧ w'.cell? ⟨gb242, 1, none⟩ = some (.int .i64 ((rd_T73 ((rd_T54 l0_1 x52_3).f1) x60_4).f1)) ∧ w'.cell? ⟨gb242, 2, none⟩ = some (.string ((rd_T73 ((rd_T54 l0_1 x52_3).f1) x60_4).f2))) (ds := []) #[false, false, false, false, false, false, false, false, false, false, false, false, false, false, false, false, false, false, false, false, false, false, false, false, false, false, false, false, false, false, false] (by kernel_rfl) rfl rfl ⟨bc_ BK242.out 0, bc_ BK242.out 1, bc_ BK242.out 2⟩ (fun hHeld => ?_); refine with_tabW impl_isSynod.tab16 impl_isSynod.bits16 (fun HT_ HW_ => ?_)
  generalize w85.drew = w86 at BK232 BK240 BK242 HB hHeld ⊢
  refine pu_ 0 (some 65) (h := ?_)
  refine pu_ 2 (some 67) (h := ?_)
  refine pu_ 3 (some 68) (h := ?_)
  refine tk3_ 1 (some 66) (h := ?_)
  refine on_ 4 (some 69) (h := fun K hK => ?_)
  refine goes_ Try.func46 (by kernel_rfl) rfl #[.int .i64 ((rd_T73 ((rd_T54 l0_1 x52_3).f1) x60_4).f0), .int .i64 0, .int .i64 (wrap64 ((l0_0.length : Int) - 1))] (by rfl) rfl rfl nc_ ?_
  with_reducible refine (impl_in.calls ((rd_T73 ((rd_T54 l0_1 x52_3).f1) x60_4).f0) 0 (wrap64 ((l0_0.length : Int) - 1)) false _ A40.out).mono ?_
  rintro e w' ⟨rfl, ⟨nd, rfl⟩⟩
  refine ⟨_, rfl, ?_⟩
  refine hK.out _ _ ⟨bc_ BK242.out 0, bc_ BK242.out 1, bc_ BK242.out 2⟩ (fun hHeld => ?_)
  clear hK K
  refine norm_ nn_ ?_
  refine pu_ 5 (some 70) (h := ?_)
  refine pu_ 6 (some 71) (h := ?_)
  refine px_ 7 (some 72) (h := ?_)
  refine px_ 8 (some 73) (h := ?_)
  refine px_ 9 (some 74) (h := ?_)
  refine px_ 10 (some 75) (h := ?_)
  refine px_ 11 (some 76) (h := ?_)
  refine px_ 12 (some 77) (h := ?_)
  refine px_ 13 (some 78) (h := ?_)
  refine px_ 14 (some 79) (h := ?_)
  refine px_ 15 (some 80) (h := ?_)
  refine px_ 16 (some 81) (h := ?_)
  refine px_ 17 (some 82) (h := ?_)
  refine px_ 18 (some 83) (h := ?_)
  refine px_ 19 (some 84) (h := ?_)
  refine px_ 20 (some 85) (h := ?_)
  refine pu_ 21 (some 86) (h := ?_)
  refine pu_ 22 (some 87) (h := ?_)
  refine px_ 23 (some 88) (h := ?_)
  refine px_ 24 (some 89) (h := ?_)
  refine px_ 25 (some 90) (h := ?_)
  refine px_ 26 (some 91) (h := ?_)
  refine px_ 27 (some 92) (h := ?_)
  refine px_ 28 (some 93) (h := ?_)
  refine px_ 29 (some 94) (h := ?_)
  refine pu_ 30 (some 95) (h := ?_)
  refine done_ (done_of HT_.out (by kernel_rfl)) ?_
  try go_wp2
  go_ret
  exact ⟨ng_, bl_⟩
 subst c41
 have H1 : (if x60_4 > 0 then (if 0 ≤ (wrap64 (x60_4 - 1)) then (if (wrap64 (x60_4 - 1)) < (((rd_T54 l0_1 x52_3).f1).length : Int) then (if ((rd_T73 ((rd_T54 l0_1 x52_3).f1) (wrap64 (x60_4 - 1))).f0) ≥ ((rd_T73 ((rd_T54 l0_1 x52_3).f1) x60_4).f0) then (some false) else ((impl_isVoted.f k4 ((rd_T73 ((rd_T54 l0_1 x52_3).f1) x60_4).f1) ((rd_T73 ((rd_T54 l0_1 x52_3).f1) x60_4).f2) x52_3).bind fun t245 => (if t245 = true then (impl_isSynod.l2 k4 (l0_0.length : Int) x52_3 l0_1 (l0_1.length : Int) x52_3 ((rd_T54 l0_1 x52_3).f1) (((rd_T54 l0_1 x52_3).f1).length : Int) (wrap64 (x60_4 + 1)) ((rd_T54 l0_1 x52_3).f0) ((rd_T54 l0_1 x52_3).f1) ((rd_T54 l0_1 x52_3).f2) ((rd_T54 l0_1 x52_3).f3) ((rd_T54 l0_1 x52_3).f4)) else (some false)))) else (none)) else (none)) else ((impl_isVoted.f k4 ((rd_T73 ((rd_T54 l0_1 x52_3).f1) x60_4).f1) ((rd_T73 ((rd_T54 l0_1 x52_3).f1) x60_4).f2) x52_3).bind fun t246 => (if t246 = true then (impl_isSynod.l2 k4 (l0_0.length : Int) x52_3 l0_1 (l0_1.length : Int) x52_3 ((rd_T54 l0_1 x52_3).f1) (((rd_T54 l0_1 x52_3).f1).length : Int) (wrap64 (x60_4 + 1)) ((rd_T54 l0_1 x52_3).f0) ((rd_T54 l0_1 x52_3).f1) ((rd_T54 l0_1 x52_3).f2) ((rd_T54 l0_1 x52_3).f3) ((rd_T54 l0_1 x52_3).f4)) else (some false)))) = some r := by rw [if_pos rfl] at H; exact H
 clear H
 have H := H1
 clear H1
 by_cases c42 : x60_4 > 0
 rotate_left
 ·rw [if_neg c42] at H
  have c42b0 : decide (0 < x60_4) = false := decide_eq_false c42
  clear c42
  replace H := Option.bind_eq_some_iff.mp H
  obtain ⟨t246, A670, H⟩ := H
  replace H : (if t246 = true then (impl_isSynod.l2 k4 (l0_0.length : Int) x52_3 l0_1 (l0_1.length : Int) x52_3 ((rd_T54 l0_1 x52_3).f1) (((rd_T54 l0_1 x52_3).f1).length : Int) (wrap64 (x60_4 + 1)) ((rd_T54 l0_1 x52_3).f0) ((rd_T54 l0_1 x52_3).f1) ((rd_T54 l0_1 x52_3).f2) ((rd_T54 l0_1 x52_3).f3) ((rd_T54 l0_1 x52_3).f4)) else (some false)) = some r := H
  have A67 := Aside0.mk A670
  clear A670
  by_cases c68 : t246 = true
  rotate_left
  ·replace c68 := Bool.eq_false_iff.mpr c68
   subst c68
   have H1 : (some false) = some r := by rw [if_neg (show ¬ (false = true) by decide)] at H; exact H
   clear H
   have H := H1
   clear H1
   obtain rfl := Option.some.inj H
   have p241 : 0 ≤ (x60_4 : Int) := of_decide_eq_true (by first | (with_reducible assumption) | assumption)
   have q241 : x60_4 < (((rd_T54 l0_1 x52_3).f1).length : Int) := of_decide_eq_true (by first | (with_reducible assumption) | assumption)
   obtain ⟨ad241, e241, hx241_0, hx241_1, hx241_2⟩ := at_T73 HR239_1.out x60_4 p241 q241
   cases e241
   replace hx241_0 := (HB.out.cell (World.block_lt_of_cell? w _ hx241_0)).trans hx241_0
   replace hx241_1 := (HB.out.cell (World.block_lt_of_cell? w _ hx241_1)).trans hx241_1
   replace hx241_2 := (HB.out.cell (World.block_lt_of_cell? w _ hx241_2)).trans hx241_2
   replace p241 := eq_true p241
   replace q241 := eq_true q241
   try go_wp2_with (first | ((with_reducible refine gate_dst (N := 9) rfl ?_); (try (refine gate_guard (by rfl) ?_; dsimp only)); refine box_event rfl (N := 9) rfl (cs := #[.int .i64 0, .int .i64 0, .string (⟨#[]⟩ : ByteArray)]) (t := 73) gs_ ?_; intro gb242 hg w75 hbox hb; have BK242 := Aside0.mk (hbox); have GW242 := Aside0.mk ((by rw [hg]; exact bz_ : w.heap.size ≤ gb242)); have GE242 := GW242; replace HB := Aside0.mk (below_step bl_ hb); have NB232_242 := nl_ hg BK232; have NB242_232 := nm_ hg BK232; replace BK232 := bb_ BK232 hb; have NB240_242 := nl_ hg BK240; have NB242_240 := nm_ hg BK240; replace BK240 := bb_ BK240 hb; clear hb hbox hg; have hnb76 := NB242_232.out; have hnc76 := NB232_242.out; have hnb77 := NB242_240.out; have hnc77 := NB240_242.out; have hcz78_0 : w75.cell? ⟨gb242, 0, none⟩ = some (.int .i64 0) := bc_ BK242.out 0; have hcz78_1 : w75.cell? ⟨gb242, 1, none⟩ = some (.int .i64 0) := bc_ BK242.out 1; have hcz78_2 : w75.cell? ⟨gb242, 2, none⟩ = some (.string (⟨#[]⟩ : ByteArray)) := bc_ BK242.out 2; have hfz78_0 := blk_frozen BK242.out 0; have hfz78_1 := blk_frozen BK242.out 1; have hfz78_2 := blk_frozen BK242.out 2))
   have n0_ : Aside0 ((((w75.setCell ⟨gb242, 0, none⟩ (.int .i64 ((rd_T73 ((rd_T54 l0_1 x52_3).f1) x60_4).f0))).setCell ⟨gb242, 1, none⟩ (.int .i64 ((rd_T73 ((rd_T54 l0_1 x52_3).f1) x60_4).f1))).setCell ⟨gb242, 2, none⟩ (.string ((rd_T73 ((rd_T54 l0_1 x52_3).f1) x60_4).f2))).heap[gb232]? = some (.cells #[.slice A0_0 l0_0.length c0_0, .slice (some ad239) l0_1.length c0_1] 33 (0, 0))) := ⟨kz_⟩
   have n1_ : Aside0 ((((w75.setCell ⟨gb242, 0, none⟩ (.int .i64 ((rd_T73 ((rd_T54 l0_1 x52_3).f1) x60_4).f0))).setCell ⟨gb242, 1, none⟩ (.int .i64 ((rd_T73 ((rd_T54 l0_1 x52_3).f1) x60_4).f1))).setCell ⟨gb242, 2, none⟩ (.string ((rd_T73 ((rd_T54 l0_1 x52_3).f1) x60_4).f2))).heap[gb240]? = some (.cells #[.string ((rd_T54 l0_1 x52_3).f0), .slice (some ad241) ((rd_T54 l0_1 x52_3).f1).length c239_1, .bool ((rd_T54 l0_1 x52_3).f2), .string ((rd_T54 l0_1 x52_3).f3), .slice A239_4 ((rd_T54 l0_1 x52_3).f4).length c239_4] 54 (0, 0))) := ⟨kz_⟩
   have n2_ : Aside0 ((((w75.setCell ⟨gb242, 0, none⟩ (.int .i64 ((rd_T73 ((rd_T54 l0_1 x52_3).f1) x60_4).f0))).setCell ⟨gb242, 1, none⟩ (.int .i64 ((rd_T73 ((rd_T54 l0_1 x52_3).f1) x60_4).f1))).setCell ⟨gb242, 2, none⟩ (.string ((rd_T73 ((rd_T54 l0_1 x52_3).f1) x60_4).f2))).heap[gb242]? = some (.cells #[.int .i64 ((rd_T73 ((rd_T54 l0_1 x52_3).f1) x60_4).f0), .int .i64 ((rd_T73 ((rd_T54 l0_1 x52_3).f1) x60_4).f1), .string ((rd_T73 ((rd_T54 l0_1 x52_3).f1) x60_4).f2)] 73 (0, 0))) := ⟨by (with_reducible repeat (first | refine blk_drewN ?_ _ | refine blk_drew ?_ | refine blk_alloc ?_ _)); refine blk_put (cs := #[.int .i64 ((rd_T73 ((rd_T54 l0_1 x52_3).f1) x60_4).f0), .int .i64 ((rd_T73 ((rd_T54 l0_1 x52_3).f1) x60_4).f1), .string (⟨#[]⟩ : ByteArray)]) ?_ 2 _ rfl; (with_reducible repeat (first | refine blk_drewN ?_ _ | refine blk_drew ?_ | refine blk_alloc ?_ _)); refine blk_put (cs := #[.int .i64 ((rd_T73 ((rd_T54 l0_1 x52_3).f1) x60_4).f0), .int .i64 0, .string (⟨#[]⟩ : ByteArray)]) ?_ 1 _ rfl; (with_reducible repeat (first | refine blk_drewN ?_ _ | refine blk_drew ?_ | refine blk_alloc ?_ _)); refine blk_put (cs := #[.int .i64 0, .int .i64 0, .string (⟨#[]⟩ : ByteArray)]) ?_ 0 _ rfl; exact kb_ BK242.out⟩
   have n3_ : Aside0 (Below w.heap.size w (((w75.setCell ⟨gb242, 0, none⟩ (.int .i64 ((rd_T73 ((rd_T54 l0_1 x52_3).f1) x60_4).f0))).setCell ⟨gb242, 1, none⟩ (.int .i64 ((rd_T73 ((rd_T54 l0_1 x52_3).f1) x60_4).f1))).setCell ⟨gb242, 2, none⟩ (.string ((rd_T73 ((rd_T54 l0_1 x52_3).f1) x60_4).f2)))) := ⟨bl_⟩
   (try clear BK232)
   (try clear BK240)
   (try clear BK242)
   (try clear HB)
   generalize (((w75.setCell ⟨gb242, 0, none⟩ (.int .i64 ((rd_T73 ((rd_T54 l0_1 x52_3).f1) x60_4).f0))).setCell ⟨gb242, 1, none⟩ (.int .i64 ((rd_T73 ((rd_T54 l0_1 x52_3).f1) x60_4).f1))).setCell ⟨gb242, 2, none⟩ (.string ((rd_T73 ((rd_T54 l0_1 x52_3).f1) x60_4).f2))) = w79 at n0_ n1_ n2_ n3_ ⊢
   have BK232 := n0_
   have BK240 := n1_
   have BK242 := n2_
   have HB := n3_
   clear n0_ n1_ n2_ n3_
   replace BK232 := Aside0.mk (blk_drew BK232.out)
   replace BK240 := Aside0.mk (blk_drew BK240.out)
   replace BK242 := Aside0.mk (blk_drew BK242.out)
   replace HB := Aside0.mk (below_drew1 HB.out)
   refine start_ (n := 31) (S := fun w' => w'.cell? ⟨gb242, 0, none⟩ = some (.int .i64 ((rd_T73 ((rd_T54 l0_1 x52_3).f1) x60_4).f0)) ∧ w'.cell? ⟨gb242, 1, none⟩ = some (.int .i64 ((rd_T73 ((rd_T54 l0_1 x52_3).f1) x60_4).f1)) ∧ w'.cell? ⟨gb242, 2, none⟩ = some (.string ((rd_T73 ((rd_T54 l0_1 x52_3).f1) x60_4).f2))) (ds := []) #[false, false, false, false, false, false, false, false, false, false, false, false, false, false, false, false, false, false, false, false, false, false, false, false, false, false, false, false, false, false, false] (by kernel_rfl) rfl rfl ⟨bc_ BK242.out 0, bc_ BK242.out 1, bc_ BK242.out 2⟩ (fun hHeld => ?_); refine with_tabW impl_isSynod.tab16 impl_isSynod.bits16 (fun HT_ HW_ => ?_)
   generalize w79.drew = w80 at BK232 BK240 BK242 HB hHeld ⊢
   refine pu_ 0 (some 65) (h := ?_)
   refine pu_ 2 (some 67) (h := ?_)
   refine pu_ 3 (some 68) (h := ?_)
   refine tk3_ 1 (some 66) (h := ?_)
   refine on_ 4 (some 69) (h := fun K hK => ?_)
   refine goes_ Try.func46 (by kernel_rfl) rfl #[.int .i64 ((rd_T73 ((rd_T54 l0_1 x52_3).f1) x60_4).f0), .int .i64 0, .int .i64 (wrap64 ((l0_0.length : Int) - 1))] (by rfl) rfl rfl nc_ ?_
   with_reducible refine (impl_in.calls ((rd_T73 ((rd_T54 l0_1 x52_3).f1) x60_4).f0) 0 (wrap64 ((l0_0.length : Int) - 1)) true _ A40.out).mono ?_
   rintro e w' ⟨rfl, ⟨nd, rfl⟩⟩
   refine ⟨_, rfl, ?_⟩
   refine hK.out _ _ ⟨bc_ BK242.out 0, bc_ BK242.out 1, bc_ BK242.out 2⟩ (fun hHeld => ?_)
   clear hK K
   refine norm_ nn_ ?_
   refine pu_ 5 (some 70) (h := ?_)
   refine pu_ 6 (some 71) (h := ?_)
   refine pu_ 7 (some 72) (h := ?_)
   refine pu_ 8 (some 73) (h := ?_)
   refine pu_ 9 (some 74) (h := ?_)
   refine px_ 10 (some 75) (h := ?_)
   refine px_ 11 (some 76) (h := ?_)
   refine px_ 12 (some 77) (h := ?_)
   refine px_ 13 (some 78) (h := ?_)
   refine px_ 14 (some 79) (h := ?_)
   refine px_ 15 (some 80) (h := ?_)
   refine px_ 16 (some 81) (h := ?_)
   refine px_ 17 (some 82) (h := ?_)
   refine px_ 18 (some 83) (h := ?_)
   refine px_ 19 (some 84) (h := ?_)
   refine pu_ 20 (some 85) (h := ?_)
   refine pu_ 21 (some 86) (h := ?_)
   refine pu_ 22 (some 87) (h := ?_)
   refine pu_ 23 (some 88) (h := ?_)
   refine pu_ 25 (some 90) (h := ?_)
   refine pu_ 27 (some 92) (h := ?_)
   refine tk3_ 24 (some 89) (h := ?_)
   refine tk3_ 26 (some 91) (h := ?_)
   refine on_ 28 (some 93) (h := fun K hK => ?_)
   refine goes_ Try.func51 (by kernel_rfl) rfl #[.int .i64 ((rd_T73 ((rd_T54 l0_1 x52_3).f1) x60_4).f1), .string ((rd_T73 ((rd_T54 l0_1 x52_3).f1) x60_4).f2), .int .i64 x52_3] (by rfl) rfl rfl nc_ ?_
   with_reducible refine (impl_isVoted.calls k4 ((rd_T73 ((rd_T54 l0_1 x52_3).f1) x60_4).f1) ((rd_T73 ((rd_T54 l0_1 x52_3).f1) x60_4).f2) x52_3 false _ A67.out).mono ?_
   rintro e w' ⟨rfl, ⟨nd, rfl⟩⟩
   refine ⟨_, rfl, ?_⟩
   refine hK.out _ _ ⟨bc_ BK242.out 0, bc_ BK242.out 1, bc_ BK242.out 2⟩ (fun hHeld => ?_)
   clear hK K
   refine norm_ nn_ ?_
   refine pu_ 29 (some 94) (h := ?_)
   refine pu_ 30 (some 95) (h := ?_)
   refine done_ (done_of HT_.out (by kernel_rfl)) ?_
   try go_wp2
   go_ret
   exact ⟨ng_, bl_⟩
  subst c68
  have H1 : (impl_isSynod.l2 k4 (l0_0.length : Int) x52_3 l0_1 (l0_1.length : Int) x52_3 ((rd_T54 l0_1 x52_3).f1) (((rd_T54 l0_1 x52_3).f1).length : Int) (wrap64 (x60_4 + 1)) ((rd_T54 l0_1 x52_3).f0) ((rd_T54 l0_1 x52_3).f1) ((rd_T54 l0_1 x52_3).f2) ((rd_T54 l0_1 x52_3).f3) ((rd_T54 l0_1 x52_3).f4)) = some r := by rw [if_pos rfl] at H; exact H
  clear H
  have H := H1
  clear H1
  have H' := Aside0.mk H
  clear H
  have p241 : 0 ≤ (x60_4 : Int) := of_decide_eq_true (by first | (with_reducible assumption) | assumption)
  have q241 : x60_4 < (((rd_T54 l0_1 x52_3).f1).length : Int) := of_decide_eq_true (by first | (with_reducible assumption) | assumption)
  obtain ⟨ad241, e241, hx241_0, hx241_1, hx241_2⟩ := at_T73 HR239_1.out x60_4 p241 q241
  cases e241
  replace hx241_0 := (HB.out.cell (World.block_lt_of_cell? w _ hx241_0)).trans hx241_0
  replace hx241_1 := (HB.out.cell (World.block_lt_of_cell? w _ hx241_1)).trans hx241_1
  replace hx241_2 := (HB.out.cell (World.block_lt_of_cell? w _ hx241_2)).trans hx241_2
  replace p241 := eq_true p241
  replace q241 := eq_true q241
  try go_wp2_with (first | ((with_reducible refine gate_dst (N := 9) rfl ?_); (try (refine gate_guard (by rfl) ?_; dsimp only)); refine box_event rfl (N := 9) rfl (cs := #[.int .i64 0, .int .i64 0, .string (⟨#[]⟩ : ByteArray)]) (t := 73) gs_ ?_; intro gb242 hg w69 hbox hb; have BK242 := Aside0.mk (hbox); have GW242 := Aside0.mk ((by rw [hg]; exact bz_ : w.heap.size ≤ gb242)); have GE242 := GW242; replace HB := Aside0.mk (below_step bl_ hb); have NB232_242 := nl_ hg BK232; have NB242_232 := nm_ hg BK232; replace BK232 := bb_ BK232 hb; have NB240_242 := nl_ hg BK240; have NB242_240 := nm_ hg BK240; replace BK240 := bb_ BK240 hb; clear hb hbox hg; have hnb70 := NB242_232.out; have hnc70 := NB232_242.out; have hnb71 := NB242_240.out; have hnc71 := NB240_242.out; have hcz72_0 : w69.cell? ⟨gb242, 0, none⟩ = some (.int .i64 0) := bc_ BK242.out 0; have hcz72_1 : w69.cell? ⟨gb242, 1, none⟩ = some (.int .i64 0) := bc_ BK242.out 1; have hcz72_2 : w69.cell? ⟨gb242, 2, none⟩ = some (.string (⟨#[]⟩ : ByteArray)) := bc_ BK242.out 2; have hfz72_0 := blk_frozen BK242.out 0; have hfz72_1 := blk_frozen BK242.out 1; have hfz72_2 := blk_frozen BK242.out 2))
  have n0_ : Aside0 ((((w69.setCell ⟨gb242, 0, none⟩ (.int .i64 ((rd_T73 ((rd_T54 l0_1 x52_3).f1) x60_4).f0))).setCell ⟨gb242, 1, none⟩ (.int .i64 ((rd_T73 ((rd_T54 l0_1 x52_3).f1) x60_4).f1))).setCell ⟨gb242, 2, none⟩ (.string ((rd_T73 ((rd_T54 l0_1 x52_3).f1) x60_4).f2))).heap[gb232]? = some (.cells #[.slice A0_0 l0_0.length c0_0, .slice (some ad239) l0_1.length c0_1] 33 (0, 0))) := ⟨kz_⟩
  have n1_ : Aside0 ((((w69.setCell ⟨gb242, 0, none⟩ (.int .i64 ((rd_T73 ((rd_T54 l0_1 x52_3).f1) x60_4).f0))).setCell ⟨gb242, 1, none⟩ (.int .i64 ((rd_T73 ((rd_T54 l0_1 x52_3).f1) x60_4).f1))).setCell ⟨gb242, 2, none⟩ (.string ((rd_T73 ((rd_T54 l0_1 x52_3).f1) x60_4).f2))).heap[gb240]? = some (.cells #[.string ((rd_T54 l0_1 x52_3).f0), .slice (some ad241) ((rd_T54 l0_1 x52_3).f1).length c239_1, .bool ((rd_T54 l0_1 x52_3).f2), .string ((rd_T54 l0_1 x52_3).f3), .slice A239_4 ((rd_T54 l0_1 x52_3).f4).length c239_4] 54 (0, 0))) := ⟨kz_⟩
  have n2_ : Aside0 ((((w69.setCell ⟨gb242, 0, none⟩ (.int .i64 ((rd_T73 ((rd_T54 l0_1 x52_3).f1) x60_4).f0))).setCell ⟨gb242, 1, none⟩ (.int .i64 ((rd_T73 ((rd_T54 l0_1 x52_3).f1) x60_4).f1))).setCell ⟨gb242, 2, none⟩ (.string ((rd_T73 ((rd_T54 l0_1 x52_3).f1) x60_4).f2))).heap[gb242]? = some (.cells #[.int .i64 ((rd_T73 ((rd_T54 l0_1 x52_3).f1) x60_4).f0), .int .i64 ((rd_T73 ((rd_T54 l0_1 x52_3).f1) x60_4).f1), .string ((rd_T73 ((rd_T54 l0_1 x52_3).f1) x60_4).f2)] 73 (0, 0))) := ⟨by (with_reducible repeat (first | refine blk_drewN ?_ _ | refine blk_drew ?_ | refine blk_alloc ?_ _)); refine blk_put (cs := #[.int .i64 ((rd_T73 ((rd_T54 l0_1 x52_3).f1) x60_4).f0), .int .i64 ((rd_T73 ((rd_T54 l0_1 x52_3).f1) x60_4).f1), .string (⟨#[]⟩ : ByteArray)]) ?_ 2 _ rfl; (with_reducible repeat (first | refine blk_drewN ?_ _ | refine blk_drew ?_ | refine blk_alloc ?_ _)); refine blk_put (cs := #[.int .i64 ((rd_T73 ((rd_T54 l0_1 x52_3).f1) x60_4).f0), .int .i64 0, .string (⟨#[]⟩ : ByteArray)]) ?_ 1 _ rfl; (with_reducible repeat (first | refine blk_drewN ?_ _ | refine blk_drew ?_ | refine blk_alloc ?_ _)); refine blk_put (cs := #[.int .i64 0, .int .i64 0, .string (⟨#[]⟩ : ByteArray)]) ?_ 0 _ rfl; exact kb_ BK242.out⟩
  have n3_ : Aside0 (Below w.heap.size w (((w69.setCell ⟨gb242, 0, none⟩ (.int .i64 ((rd_T73 ((rd_T54 l0_1 x52_3).f1) x60_4).f0))).setCell ⟨gb242, 1, none⟩ (.int .i64 ((rd_T73 ((rd_T54 l0_1 x52_3).f1) x60_4).f1))).setCell ⟨gb242, 2, none⟩ (.string ((rd_T73 ((rd_T54 l0_1 x52_3).f1) x60_4).f2)))) := ⟨bl_⟩
  (try clear BK232)
  (try clear BK240)
  (try clear BK242)
  (try clear HB)
  generalize (((w69.setCell ⟨gb242, 0, none⟩ (.int .i64 ((rd_T73 ((rd_T54 l0_1 x52_3).f1) x60_4).f0))).setCell ⟨gb242, 1, none⟩ (.int .i64 ((rd_T73 ((rd_T54 l0_1 x52_3).f1) x60_4).f1))).setCell ⟨gb242, 2, none⟩ (.string ((rd_T73 ((rd_T54 l0_1 x52_3).f1) x60_4).f2))) = w73 at n0_ n1_ n2_ n3_ ⊢
  have BK232 := n0_
  have BK240 := n1_
  have BK242 := n2_
  have HB := n3_
  clear n0_ n1_ n2_ n3_
  replace BK232 := Aside0.mk (blk_drew BK232.out)
  replace BK240 := Aside0.mk (blk_drew BK240.out)
  replace BK242 := Aside0.mk (blk_drew BK242.out)
  replace HB := Aside0.mk (below_drew1 HB.out)
  refine start_ (n := 31) (S := fun w' => w'.cell? ⟨gb242, 0, none⟩ = some (.int .i64 ((rd_T73 ((rd_T54 l0_1 x52_3).f1) x60_4).f0)) ∧ w'.cell? ⟨gb242, 1, none⟩ = some (.int .i64 ((rd_T73 ((rd_T54 l0_1 x52_3).f1) x60_4).f1)) ∧ w'.cell? ⟨gb242, 2, none⟩ = some (.string ((rd_T73 ((rd_T54 l0_1 x52_3).f1) x60_4).f2))) (ds := []) #[false, false, false, false, false, false, false, false, false, false, false, false, false, false, false, false, false, false, false, false, false, false, false, false, false, false, false, false, false, false, false] (by kernel_rfl) rfl rfl ⟨bc_ BK242.out 0, bc_ BK242.out 1, bc_ BK242.out 2⟩ (fun hHeld => ?_); refine with_tabW impl_isSynod.tab16 impl_isSynod.bits16 (fun HT_ HW_ => ?_)
  generalize w73.drew = w74 at BK232 BK240 BK242 HB hHeld ⊢
  refine pu_ 0 (some 65) (h := ?_)
  refine pu_ 2 (some 67) (h := ?_)
  refine pu_ 3 (some 68) (h := ?_)
  refine tk3_ 1 (some 66) (h := ?_)
  refine on_ 4 (some 69) (h := fun K hK => ?_)
  refine goes_ Try.func46 (by kernel_rfl) rfl #[.int .i64 ((rd_T73 ((rd_T54 l0_1 x52_3).f1) x60_4).f0), .int .i64 0, .int .i64 (wrap64 ((l0_0.length : Int) - 1))] (by rfl) rfl rfl nc_ ?_
  with_reducible refine (impl_in.calls ((rd_T73 ((rd_T54 l0_1 x52_3).f1) x60_4).f0) 0 (wrap64 ((l0_0.length : Int) - 1)) true _ A40.out).mono ?_
  rintro e w' ⟨rfl, ⟨nd, rfl⟩⟩
  refine ⟨_, rfl, ?_⟩
  refine hK.out _ _ ⟨bc_ BK242.out 0, bc_ BK242.out 1, bc_ BK242.out 2⟩ (fun hHeld => ?_)
  clear hK K
  refine norm_ nn_ ?_
  refine pu_ 5 (some 70) (h := ?_)
  refine pu_ 6 (some 71) (h := ?_)
  refine pu_ 7 (some 72) (h := ?_)
  refine pu_ 8 (some 73) (h := ?_)
  refine pu_ 9 (some 74) (h := ?_)
  refine px_ 10 (some 75) (h := ?_)
  refine px_ 11 (some 76) (h := ?_)
  refine px_ 12 (some 77) (h := ?_)
  refine px_ 13 (some 78) (h := ?_)
  refine px_ 14 (some 79) (h := ?_)
  refine px_ 15 (some 80) (h := ?_)
  refine px_ 16 (some 81) (h := ?_)
  refine px_ 17 (some 82) (h := ?_)
  refine px_ 18 (some 83) (h := ?_)
  refine px_ 19 (some 84) (h := ?_)
  refine pu_ 20 (some 85) (h := ?_)
  refine pu_ 21 (some 86) (h := ?_)
  refine pu_ 22 (some 87) (h := ?_)
  refine pu_ 23 (some 88) (h := ?_)
  refine pu_ 25 (some 90) (h := ?_)
  refine pu_ 27 (some 92) (h := ?_)
  refine tk3_ 24 (some 89) (h := ?_)
  refine tk3_ 26 (some 91) (h := ?_)
  refine on_ 28 (some 93) (h := fun K hK => ?_)
  refine goes_ Try.func51 (by kernel_rfl) rfl #[.int .i64 ((rd_T73 ((rd_T54 l0_1 x52_3).f1) x60_4).f1), .string ((rd_T73 ((rd_T54 l0_1 x52_3).f1) x60_4).f2), .int .i64 x52_3] (by rfl) rfl rfl nc_ ?_
  with_reducible refine (impl_isVoted.calls k4 ((rd_T73 ((rd_T54 l0_1 x52_3).f1) x60_4).f1) ((rd_T73 ((rd_T54 l0_1 x52_3).f1) x60_4).f2) x52_3 true _ A67.out).mono ?_
  rintro e w' ⟨rfl, ⟨nd, rfl⟩⟩
  refine ⟨_, rfl, ?_⟩
  refine hK.out _ _ ⟨bc_ BK242.out 0, bc_ BK242.out 1, bc_ BK242.out 2⟩ (fun hHeld => ?_)
  clear hK K
  refine norm_ nn_ ?_
  refine pu_ 29 (some 94) (h := ?_)
  refine pu_ 30 (some 95) (h := ?_)
  refine done_ (done_of HT_.out (by kernel_rfl)) ?_
  try go_wp2
  go_roundg k4
  case measure => have := HJ1.out; have := HK2.out; have := HK3.out; have := HK4.out; omega
  case rel => exact ⟨(wrap64 (x60_4 + 1)), (by first | rfl | (simp; done) | (simp [*]; done)), H', ⟨by have := HJ1.out; have := HK2.out; have := HK3.out; have := HK4.out; omega⟩, ⟨by exact kb_ BK232.out⟩, ⟨by exact kb_ BK240.out⟩, ⟨bl_⟩⟩
 rw [if_pos c42] at H
 have c42b0 : decide (0 < x60_4) = true := decide_eq_true c42
 clear c42
 obtain ⟨ji43, hji43⟩ : ∃ j_ : Int, (wrap64 (x60_4 - 1)) = j_ := ⟨_, rfl⟩
 replace H : (if 0 ≤ (ji43) then (if (ji43) < (((rd_T54 l0_1 x52_3).f1).length : Int) then (if ((rd_T73 ((rd_T54 l0_1 x52_3).f1) (ji43)).f0) ≥ ((rd_T73 ((rd_T54 l0_1 x52_3).f1) x60_4).f0) then (some false) else ((impl_isVoted.f k4 ((rd_T73 ((rd_T54 l0_1 x52_3).f1) x60_4).f1) ((rd_T73 ((rd_T54 l0_1 x52_3).f1) x60_4).f2) x52_3).bind fun t245 => (if t245 = true then (impl_isSynod.l2 k4 (l0_0.length : Int) x52_3 l0_1 (l0_1.length : Int) x52_3 ((rd_T54 l0_1 x52_3).f1) (((rd_T54 l0_1 x52_3).f1).length : Int) (wrap64 (x60_4 + 1)) ((rd_T54 l0_1 x52_3).f0) ((rd_T54 l0_1 x52_3).f1) ((rd_T54 l0_1 x52_3).f2) ((rd_T54 l0_1 x52_3).f3) ((rd_T54 l0_1 x52_3).f4)) else (some false)))) else (none)) else (none)) = some r := by first | (rw [hji43] at H; exact H) | (simp only [hji43] at H ⊢; exact H)
 (try rw [hji43] at A40)
 have hji43w : (IntKind.i64.wrap (x60_4 - 1)) = ji43 := (i64_w _).trans hji43
 by_cases c44 : 0 ≤ (ji43)
 rotate_left
 ·rw [if_neg c44] at H
  exact absurd H (by simp)
 rw [if_pos c44] at H
 have c44b0 : decide (0 ≤ (ji43)) = true := decide_eq_true c44
 clear c44
 by_cases c45 : (ji43) < (((rd_T54 l0_1 x52_3).f1).length : Int)
 rotate_left
 ·rw [if_neg c45] at H
  exact absurd H (by simp)
 rw [if_pos c45] at H
 have c45b0 : decide ((ji43) < (((rd_T54 l0_1 x52_3).f1).length : Int)) = true := decide_eq_true c45
 clear c45
 by_cases c46 : ((rd_T73 ((rd_T54 l0_1 x52_3).f1) (ji43)).f0) ≥ ((rd_T73 ((rd_T54 l0_1 x52_3).f1) x60_4).f0)
 ·rw [if_pos c46] at H
  have c46b0 : decide (((rd_T73 ((rd_T54 l0_1 x52_3).f1) x60_4).f0) ≤ ((rd_T73 ((rd_T54 l0_1 x52_3).f1) (ji43)).f0)) = true := decide_eq_true c46
  clear c46
  obtain rfl := Option.some.inj H
  have p241 : 0 ≤ (x60_4 : Int) := of_decide_eq_true (by first | (with_reducible assumption) | assumption)
  have q241 : x60_4 < (((rd_T54 l0_1 x52_3).f1).length : Int) := of_decide_eq_true (by first | (with_reducible assumption) | assumption)
  obtain ⟨ad241, e241, hx241_0, hx241_1, hx241_2⟩ := at_T73 HR239_1.out x60_4 p241 q241
  cases e241
  replace hx241_0 := (HB.out.cell (World.block_lt_of_cell? w _ hx241_0)).trans hx241_0
  replace hx241_1 := (HB.out.cell (World.block_lt_of_cell? w _ hx241_1)).trans hx241_1
  replace hx241_2 := (HB.out.cell (World.block_lt_of_cell? w _ hx241_2)).trans hx241_2
  replace p241 := eq_true p241
  replace q241 := eq_true q241
  try go_wp2_with (first | ((with_reducible refine gate_dst (N := 9) rfl ?_); (try (refine gate_guard (by rfl) ?_; dsimp only)); refine box_event rfl (N := 9) rfl (cs := #[.int .i64 0, .int .i64 0, .string (⟨#[]⟩ : ByteArray)]) (t := 73) gs_ ?_; intro gb242 hg w47 hbox hb; have BK242 := Aside0.mk (hbox); have GW242 := Aside0.mk ((by rw [hg]; exact bz_ : w.heap.size ≤ gb242)); have GE242 := GW242; replace HB := Aside0.mk (below_step bl_ hb); have NB232_242 := nl_ hg BK232; have NB242_232 := nm_ hg BK232; replace BK232 := bb_ BK232 hb; have NB240_242 := nl_ hg BK240; have NB242_240 := nm_ hg BK240; replace BK240 := bb_ BK240 hb; clear hb hbox hg; have hnb48 := NB242_232.out; have hnc48 := NB232_242.out; have hnb49 := NB242_240.out; have hnc49 := NB240_242.out; have hcz50_0 : w47.cell? ⟨gb242, 0, none⟩ = some (.int .i64 0) := bc_ BK242.out 0; have hcz50_1 : w47.cell? ⟨gb242, 1, none⟩ = some (.int .i64 0) := bc_ BK242.out 1; have hcz50_2 : w47.cell? ⟨gb242, 2, none⟩ = some (.string (⟨#[]⟩ : ByteArray)) := bc_ BK242.out 2; have hfz50_0 := blk_frozen BK242.out 0; have hfz50_1 := blk_frozen BK242.out 1; have hfz50_2 := blk_frozen BK242.out 2))
  have n0_ : Aside0 ((((w47.setCell ⟨gb242, 0, none⟩ (.int .i64 ((rd_T73 ((rd_T54 l0_1 x52_3).f1) x60_4).f0))).setCell ⟨gb242, 1, none⟩ (.int .i64 ((rd_T73 ((rd_T54 l0_1 x52_3).f1) x60_4).f1))).setCell ⟨gb242, 2, none⟩ (.string ((rd_T73 ((rd_T54 l0_1 x52_3).f1) x60_4).f2))).heap[gb232]? = some (.cells #[.slice A0_0 l0_0.length c0_0, .slice (some ad239) l0_1.length c0_1] 33 (0, 0))) := ⟨kz_⟩
  have n1_ : Aside0 ((((w47.setCell ⟨gb242, 0, none⟩ (.int .i64 ((rd_T73 ((rd_T54 l0_1 x52_3).f1) x60_4).f0))).setCell ⟨gb242, 1, none⟩ (.int .i64 ((rd_T73 ((rd_T54 l0_1 x52_3).f1) x60_4).f1))).setCell ⟨gb242, 2, none⟩ (.string ((rd_T73 ((rd_T54 l0_1 x52_3).f1) x60_4).f2))).heap[gb240]? = some (.cells #[.string ((rd_T54 l0_1 x52_3).f0), .slice (some ad241) ((rd_T54 l0_1 x52_3).f1).length c239_1, .bool ((rd_T54 l0_1 x52_3).f2), .string ((rd_T54 l0_1 x52_3).f3), .slice A239_4 ((rd_T54 l0_1 x52_3).f4).length c239_4] 54 (0, 0))) := ⟨kz_⟩
  have n2_ : Aside0 ((((w47.setCell ⟨gb242, 0, none⟩ (.int .i64 ((rd_T73 ((rd_T54 l0_1 x52_3).f1) x60_4).f0))).setCell ⟨gb242, 1, none⟩ (.int .i64 ((rd_T73 ((rd_T54 l0_1 x52_3).f1) x60_4).f1))).setCell ⟨gb242, 2, none⟩ (.string ((rd_T73 ((rd_T54 l0_1 x52_3).f1) x60_4).f2))).heap[gb242]? = some (.cells #[.int .i64 ((rd_T73 ((rd_T54 l0_1 x52_3).f1) x60_4).f0), .int .i64 ((rd_T73 ((rd_T54 l0_1 x52_3).f1) x60_4).f1), .string ((rd_T73 ((rd_T54 l0_1 x52_3).f1) x60_4).f2)] 73 (0, 0))) := ⟨by (with_reducible repeat (first | refine blk_drewN ?_ _ | refine blk_drew ?_ | refine blk_alloc ?_ _)); refine blk_put (cs := #[.int .i64 ((rd_T73 ((rd_T54 l0_1 x52_3).f1) x60_4).f0), .int .i64 ((rd_T73 ((rd_T54 l0_1 x52_3).f1) x60_4).f1), .string (⟨#[]⟩ : ByteArray)]) ?_ 2 _ rfl; (with_reducible repeat (first | refine blk_drewN ?_ _ | refine blk_drew ?_ | refine blk_alloc ?_ _)); refine blk_put (cs := #[.int .i64 ((rd_T73 ((rd_T54 l0_1 x52_3).f1) x60_4).f0), .int .i64 0, .string (⟨#[]⟩ : ByteArray)]) ?_ 1 _ rfl; (with_reducible repeat (first | refine blk_drewN ?_ _ | refine blk_drew ?_ | refine blk_alloc ?_ _)); refine blk_put (cs := #[.int .i64 0, .int .i64 0, .string (⟨#[]⟩ : ByteArray)]) ?_ 0 _ rfl; exact kb_ BK242.out⟩
  have n3_ : Aside0 (Below w.heap.size w (((w47.setCell ⟨gb242, 0, none⟩ (.int .i64 ((rd_T73 ((rd_T54 l0_1 x52_3).f1) x60_4).f0))).setCell ⟨gb242, 1, none⟩ (.int .i64 ((rd_T73 ((rd_T54 l0_1 x52_3).f1) x60_4).f1))).setCell ⟨gb242, 2, none⟩ (.string ((rd_T73 ((rd_T54 l0_1 x52_3).f1) x60_4).f2)))) := ⟨bl_⟩
  (try clear BK232)
  (try clear BK240)
  (try clear BK242)
  (try clear HB)
  generalize (((w47.setCell ⟨gb242, 0, none⟩ (.int .i64 ((rd_T73 ((rd_T54 l0_1 x52_3).f1) x60_4).f0))).setCell ⟨gb242, 1, none⟩ (.int .i64 ((rd_T73 ((rd_T54 l0_1 x52_3).f1) x60_4).f1))).setCell ⟨gb242, 2, none⟩ (.string ((rd_T73 ((rd_T54 l0_1 x52_3).f1) x60_4).f2))) = w51 at n0_ n1_ n2_ n3_ ⊢
  have BK232 := n0_
  have BK240 := n1_
  have BK242 := n2_
  have HB := n3_
  clear n0_ n1_ n2_ n3_
  replace BK232 := Aside0.mk (blk_drew BK232.out)
  replace BK240 := Aside0.mk (blk_drew BK240.out)
  replace BK242 := Aside0.mk (blk_drew BK242.out)
  replace HB := Aside0.mk (below_drew1 HB.out)
  have p244 : 0 ≤ ((ji43) : Int) := of_decide_eq_true (by first | (with_reducible assumption) | assumption)
  have q244 : (ji43) < (((rd_T54 l0_1 x52_3).f1).length : Int) := of_decide_eq_true (by first | (with_reducible assumption) | assumption)
  obtain ⟨ad244, e244, hx244_0, hx244_1, hx244_2⟩ := at_T73 HR239_1.out (ji43) p244 q244
  have hw244_2 := hx244_2
  have hw244_1 := hx244_1
  have hw244_0 := hx244_0
  obtain rfl : ad241 = ad244 := (by injection e244)
  replace hx244_0 := (HB.out.cell (World.block_lt_of_cell? w _ hx244_0)).trans hx244_0
  replace hx244_1 := (HB.out.cell (World.block_lt_of_cell? w _ hx244_1)).trans hx244_1
  replace hx244_2 := (HB.out.cell (World.block_lt_of_cell? w _ hx244_2)).trans hx244_2
  replace p244 := eq_true p244
  replace q244 := eq_true q244
  refine start_ (n := 31) (S := fun w' => w'.cell? ⟨gb242, 0, none⟩ = some (.int .i64 ((rd_T73 ((rd_T54 l0_1 x52_3).f1) x60_4).f0)) ∧ w'.cell? ⟨gb242, 1, none⟩ = some (.int .i64 ((rd_T73 ((rd_T54 l0_1 x52_3).f1) x60_4).f1)) ∧ w'.cell? ⟨gb242, 2, none⟩ = some (.string ((rd_T73 ((rd_T54 l0_1 x52_3).f1) x60_4).f2)) ∧ w'.cell? ⟨gb240, 0, none⟩ = some (.string ((rd_T54 l0_1 x52_3).f0)) ∧ w'.cell? ⟨gb240, 1, none⟩ = some (.slice (some ad241) ((rd_T54 l0_1 x52_3).f1).length c239_1) ∧ w'.cell? ⟨gb240, 2, none⟩ = some (.bool ((rd_T54 l0_1 x52_3).f2)) ∧ w'.cell? ⟨gb240, 3, none⟩ = some (.string ((rd_T54 l0_1 x52_3).f3)) ∧ w'.cell? ⟨gb240, 4, none⟩ = some (.slice A239_4 ((rd_T54 l0_1 x52_3).f4).length c239_4) ∧ w'.cell? (ad241.add (((ji43)).toNat * 3)) = some (.int .i64 ((rd_T73 ((rd_T54 l0_1 x52_3).f1) (ji43)).f0)) ∧ w'.cell? ⟨(ad241.add (((ji43)).toNat * 3)).block, (ad241.add (((ji43)).toNat * 3)).off + 1, none⟩ = some (.int .i64 ((rd_T73 ((rd_T54 l0_1 x52_3).f1) (ji43)).f1)) ∧ w'.cell? ⟨(ad241.add (((ji43)).toNat * 3)).block, (ad241.add (((ji43)).toNat * 3)).off + 2, none⟩ = some (.string ((rd_T73 ((rd_T54 l0_1 x52_3).f1) (ji43)).f2))) (ds := []) #[false, false, false, false, false, false, false, false, false, false, false, false, false, false, false, false, false, false, false, false, false, false, false, false, false, false, false, false, false, false, false] (by kernel_rfl) rfl rfl ⟨bc_ BK242.out 0, bc_ BK242.out 1, bc_ BK242.out 2, bc_ BK240.out 0, bc_ BK240.out 1, bc_ BK240.out 2, bc_ BK240.out 3, bc_ BK240.out 4, ((HB.out.cell (World.block_lt_of_cell? w _ hw244_0)).trans hw244_0), ((HB.out.cell (World.block_lt_of_cell? w _ hw244_1)).trans hw244_1), ((HB.out.cell (World.block_lt_of_cell? w _ hw244_2)).trans hw244_2)⟩ (fun hHeld => ?_); refine with_tabW impl_isSynod.tab16 impl_isSynod.bits16 (fun HT_ HW_ => ?_)
  generalize w51.drew = w52 at BK232 BK240 BK242 HB hx244_0 hx244_1 hx244_2 hHeld ⊢
  refine pu_ 0 (some 65) (h := ?_)
  refine pu_ 2 (some 67) (h := ?_)
  refine pu_ 3 (some 68) (h := ?_)
  refine tk11_ 1 (some 66) (h := ?_)
  refine on_ 4 (some 69) (h := fun K hK => ?_)
  refine goes_ Try.func46 (by kernel_rfl) rfl #[.int .i64 ((rd_T73 ((rd_T54 l0_1 x52_3).f1) x60_4).f0), .int .i64 0, .int .i64 (wrap64 ((l0_0.length : Int) - 1))] (by rfl) rfl rfl nc_ ?_
  with_reducible refine (impl_in.calls ((rd_T73 ((rd_T54 l0_1 x52_3).f1) x60_4).f0) 0 (wrap64 ((l0_0.length : Int) - 1)) true _ A40.out).mono ?_
  rintro e w' ⟨rfl, ⟨nd, rfl⟩⟩
  refine ⟨_, rfl, ?_⟩
  refine hK.out _ _ ⟨bc_ BK242.out 0, bc_ BK242.out 1, bc_ BK242.out 2, bc_ BK240.out 0, bc_ BK240.out 1, bc_ BK240.out 2, bc_ BK240.out 3, bc_ BK240.out 4, ((HB.out.cell (World.block_lt_of_cell? w _ hw244_0)).trans hw244_0), ((HB.out.cell (World.block_lt_of_cell? w _ hw244_1)).trans hw244_1), ((HB.out.cell (World.block_lt_of_cell? w _ hw244_2)).trans hw244_2)⟩ (fun hHeld => ?_)
  clear hK K
  refine norm_ nn_ ?_
  refine pu_ 5 (some 70) (h := ?_)
  refine pu_ 6 (some 71) (h := ?_)
  refine pu_ 7 (some 72) (h := ?_)
  refine pu_ 8 (some 73) (h := ?_)
  refine pu_ 9 (some 74) (h := ?_)
  refine pu_ 10 (some 75) (h := ?_)
  refine pu_ 12 (some 77) (h := ?_)
  refine pu_ 13 (some 78) (h := ?_)
  refine pu_ 17 (some 82) (h := ?_)
  refine tk11_ 11 (some 76) (h := ?_)
  refine pu_ 14 (some 79) (h := ?_)
  refine pu_ 15 (some 80) (h := ?_)
  refine tk11_ 16 (some 81) (h := ?_)
  refine tk11_ 18 (some 83) (h := ?_)
  refine pu_ 19 (some 84) (h := ?_)
  refine pu_ 20 (some 85) (h := ?_)
  refine pu_ 21 (some 86) (h := ?_)
  refine pu_ 22 (some 87) (h := ?_)
  refine px_ 23 (some 88) (h := ?_)
  refine px_ 24 (some 89) (h := ?_)
  refine px_ 25 (some 90) (h := ?_)
  refine px_ 26 (some 91) (h := ?_)
  refine px_ 27 (some 92) (h := ?_)
  refine px_ 28 (some 93) (h := ?_)
  refine px_ 29 (some 94) (h := ?_)
  refine pu_ 30 (some 95) (h := ?_)
  refine done_ (done_of HT_.out (by kernel_rfl)) ?_
  try go_wp2
  go_ret
  exact ⟨by first | rfl | (simp [errW_none, errW_some] <;> rfl) | (simp only [← hji43]; first | rfl | (simp [errW_none, errW_some] <;> rfl)) | (simp [*, errW_none, errW_some] <;> rfl), bl_⟩
 rw [if_neg c46] at H
 have c46b0 : decide (((rd_T73 ((rd_T54 l0_1 x52_3).f1) x60_4).f0) ≤ ((rd_T73 ((rd_T54 l0_1 x52_3).f1) (ji43)).f0)) = false := decide_eq_false c46
 clear c46
 replace H := Option.bind_eq_some_iff.mp H
 obtain ⟨t245, A530, H⟩ := H
 replace H : (if t245 = true then (impl_isSynod.l2 k4 (l0_0.length : Int) x52_3 l0_1 (l0_1.length : Int) x52_3 ((rd_T54 l0_1 x52_3).f1) (((rd_T54 l0_1 x52_3).f1).length : Int) (wrap64 (x60_4 + 1)) ((rd_T54 l0_1 x52_3).f0) ((rd_T54 l0_1 x52_3).f1) ((rd_T54 l0_1 x52_3).f2) ((rd_T54 l0_1 x52_3).f3) ((rd_T54 l0_1 x52_3).f4)) else (some false)) = some r := H
 have A53 := Aside0.mk A530
 clear A530
 by_cases c54 : t245 = true
 rotate_left
 ·replace c54 := Bool.eq_false_iff.mpr c54
  subst c54
  have H1 : (some false) = some r := by rw [if_neg (show ¬ (false = true) by decide)] at H; exact H
  clear H
  have H := H1
  clear H1
  obtain rfl := Option.some.inj H
  have p241 : 0 ≤ (x60_4 : Int) := of_decide_eq_true (by first | (with_reducible assumption) | assumption)
  have q241 : x60_4 < (((rd_T54 l0_1 x52_3).f1).length : Int) := of_decide_eq_true (by first | (with_reducible assumption) | assumption)
  obtain ⟨ad241, e241, hx241_0, hx241_1, hx241_2⟩ := at_T73 HR239_1.out x60_4 p241 q241
  cases e241
  replace hx241_0 := (HB.out.cell (World.block_lt_of_cell? w _ hx241_0)).trans hx241_0
  replace hx241_1 := (HB.out.cell (World.block_lt_of_cell? w _ hx241_1)).trans hx241_1
  replace hx241_2 := (HB.out.cell (World.block_lt_of_cell? w _ hx241_2)).trans hx241_2
  replace p241 := eq_true p241
  replace q241 := eq_true q241
  try go_wp2_with (first | ((with_reducible refine gate_dst (N := 9) rfl ?_); (try (refine gate_guard (by rfl) ?_; dsimp only)); refine box_event rfl (N := 9) rfl (cs := #[.int .i64 0, .int .i64 0, .string (⟨#[]⟩ : ByteArray)]) (t := 73) gs_ ?_; intro gb242 hg w61 hbox hb; have BK242 := Aside0.mk (hbox); have GW242 := Aside0.mk ((by rw [hg]; exact bz_ : w.heap.size ≤ gb242)); have GE242 := GW242; replace HB := Aside0.mk (below_step bl_ hb); have NB232_242 := nl_ hg BK232; have NB242_232 := nm_ hg BK232; replace BK232 := bb_ BK232 hb; have NB240_242 := nl_ hg BK240; have NB242_240 := nm_ hg BK240; replace BK240 := bb_ BK240 hb; clear hb hbox hg; have hnb62 := NB242_232.out; have hnc62 := NB232_242.out; have hnb63 := NB242_240.out; have hnc63 := NB240_242.out; have hcz64_0 : w61.cell? ⟨gb242, 0, none⟩ = some (.int .i64 0) := bc_ BK242.out 0; have hcz64_1 : w61.cell? ⟨gb242, 1, none⟩ = some (.int .i64 0) := bc_ BK242.out 1; have hcz64_2 : w61.cell? ⟨gb242, 2, none⟩ = some (.string (⟨#[]⟩ : ByteArray)) := bc_ BK242.out 2; have hfz64_0 := blk_frozen BK242.out 0; have hfz64_1 := blk_frozen BK242.out 1; have hfz64_2 := blk_frozen BK242.out 2))
  have n0_ : Aside0 ((((w61.setCell ⟨gb242, 0, none⟩ (.int .i64 ((rd_T73 ((rd_T54 l0_1 x52_3).f1) x60_4).f0))).setCell ⟨gb242, 1, none⟩ (.int .i64 ((rd_T73 ((rd_T54 l0_1 x52_3).f1) x60_4).f1))).setCell ⟨gb242, 2, none⟩ (.string ((rd_T73 ((rd_T54 l0_1 x52_3).f1) x60_4).f2))).heap[gb232]? = some (.cells #[.slice A0_0 l0_0.length c0_0, .slice (some ad239) l0_1.length c0_1] 33 (0, 0))) := ⟨kz_⟩
  have n1_ : Aside0 ((((w61.setCell ⟨gb242, 0, none⟩ (.int .i64 ((rd_T73 ((rd_T54 l0_1 x52_3).f1) x60_4).f0))).setCell ⟨gb242, 1, none⟩ (.int .i64 ((rd_T73 ((rd_T54 l0_1 x52_3).f1) x60_4).f1))).setCell ⟨gb242, 2, none⟩ (.string ((rd_T73 ((rd_T54 l0_1 x52_3).f1) x60_4).f2))).heap[gb240]? = some (.cells #[.string ((rd_T54 l0_1 x52_3).f0), .slice (some ad241) ((rd_T54 l0_1 x52_3).f1).length c239_1, .bool ((rd_T54 l0_1 x52_3).f2), .string ((rd_T54 l0_1 x52_3).f3), .slice A239_4 ((rd_T54 l0_1 x52_3).f4).length c239_4] 54 (0, 0))) := ⟨kz_⟩
  have n2_ : Aside0 ((((w61.setCell ⟨gb242, 0, none⟩ (.int .i64 ((rd_T73 ((rd_T54 l0_1 x52_3).f1) x60_4).f0))).setCell ⟨gb242, 1, none⟩ (.int .i64 ((rd_T73 ((rd_T54 l0_1 x52_3).f1) x60_4).f1))).setCell ⟨gb242, 2, none⟩ (.string ((rd_T73 ((rd_T54 l0_1 x52_3).f1) x60_4).f2))).heap[gb242]? = some (.cells #[.int .i64 ((rd_T73 ((rd_T54 l0_1 x52_3).f1) x60_4).f0), .int .i64 ((rd_T73 ((rd_T54 l0_1 x52_3).f1) x60_4).f1), .string ((rd_T73 ((rd_T54 l0_1 x52_3).f1) x60_4).f2)] 73 (0, 0))) := ⟨by (with_reducible repeat (first | refine blk_drewN ?_ _ | refine blk_drew ?_ | refine blk_alloc ?_ _)); refine blk_put (cs := #[.int .i64 ((rd_T73 ((rd_T54 l0_1 x52_3).f1) x60_4).f0), .int .i64 ((rd_T73 ((rd_T54 l0_1 x52_3).f1) x60_4).f1), .string (⟨#[]⟩ : ByteArray)]) ?_ 2 _ rfl; (with_reducible repeat (first | refine blk_drewN ?_ _ | refine blk_drew ?_ | refine blk_alloc ?_ _)); refine blk_put (cs := #[.int .i64 ((rd_T73 ((rd_T54 l0_1 x52_3).f1) x60_4).f0), .int .i64 0, .string (⟨#[]⟩ : ByteArray)]) ?_ 1 _ rfl; (with_reducible repeat (first | refine blk_drewN ?_ _ | refine blk_drew ?_ | refine blk_alloc ?_ _)); refine blk_put (cs := #[.int .i64 0, .int .i64 0, .string (⟨#[]⟩ : ByteArray)]) ?_ 0 _ rfl; exact kb_ BK242.out⟩
  have n3_ : Aside0 (Below w.heap.size w (((w61.setCell ⟨gb242, 0, none⟩ (.int .i64 ((rd_T73 ((rd_T54 l0_1 x52_3).f1) x60_4).f0))).setCell ⟨gb242, 1, none⟩ (.int .i64 ((rd_T73 ((rd_T54 l0_1 x52_3).f1) x60_4).f1))).setCell ⟨gb242, 2, none⟩ (.string ((rd_T73 ((rd_T54 l0_1 x52_3).f1) x60_4).f2)))) := ⟨bl_⟩
  (try clear BK232)
  (try clear BK240)
  (try clear BK242)
  (try clear HB)
  generalize (((w61.setCell ⟨gb242, 0, none⟩ (.int .i64 ((rd_T73 ((rd_T54 l0_1 x52_3).f1) x60_4).f0))).setCell ⟨gb242, 1, none⟩ (.int .i64 ((rd_T73 ((rd_T54 l0_1 x52_3).f1) x60_4).f1))).setCell ⟨gb242, 2, none⟩ (.string ((rd_T73 ((rd_T54 l0_1 x52_3).f1) x60_4).f2))) = w65 at n0_ n1_ n2_ n3_ ⊢
  have BK232 := n0_
  have BK240 := n1_
  have BK242 := n2_
  have HB := n3_
  clear n0_ n1_ n2_ n3_
  replace BK232 := Aside0.mk (blk_drew BK232.out)
  replace BK240 := Aside0.mk (blk_drew BK240.out)
  replace BK242 := Aside0.mk (blk_drew BK242.out)
  replace HB := Aside0.mk (below_drew1 HB.out)
  have p244 : 0 ≤ ((ji43) : Int) := of_decide_eq_true (by first | (with_reducible assumption) | assumption)
  have q244 : (ji43) < (((rd_T54 l0_1 x52_3).f1).length : Int) := of_decide_eq_true (by first | (with_reducible assumption) | assumption)
  obtain ⟨ad244, e244, hx244_0, hx244_1, hx244_2⟩ := at_T73 HR239_1.out (ji43) p244 q244
  have hw244_2 := hx244_2
  have hw244_1 := hx244_1
  have hw244_0 := hx244_0
  obtain rfl : ad241 = ad244 := (by injection e244)
  replace hx244_0 := (HB.out.cell (World.block_lt_of_cell? w _ hx244_0)).trans hx244_0
  replace hx244_1 := (HB.out.cell (World.block_lt_of_cell? w _ hx244_1)).trans hx244_1
  replace hx244_2 := (HB.out.cell (World.block_lt_of_cell? w _ hx244_2)).trans hx244_2
  replace p244 := eq_true p244
  replace q244 := eq_true q244
  refine start_ (n := 31) (S := fun w' => w'.cell? ⟨gb242, 0, none⟩ = some (.int .i64 ((rd_T73 ((rd_T54 l0_1 x52_3).f1) x60_4).f0)) ∧ w'.cell? ⟨gb242, 1, none⟩ = some (.int .i64 ((rd_T73 ((rd_T54 l0_1 x52_3).f1) x60_4).f1)) ∧ w'.cell? ⟨gb242, 2, none⟩ = some (.string ((rd_T73 ((rd_T54 l0_1 x52_3).f1) x60_4).f2)) ∧ w'.cell? ⟨gb240, 0, none⟩ = some (.string ((rd_T54 l0_1 x52_3).f0)) ∧ w'.cell? ⟨gb240, 1, none⟩ = some (.slice (some ad241) ((rd_T54 l0_1 x52_3).f1).length c239_1) ∧ w'.cell? ⟨gb240, 2, none⟩ = some (.bool ((rd_T54 l0_1 x52_3).f2)) ∧ w'.cell? ⟨gb240, 3, none⟩ = some (.string ((rd_T54 l0_1 x52_3).f3)) ∧ w'.cell? ⟨gb240, 4, none⟩ = some (.slice A239_4 ((rd_T54 l0_1 x52_3).f4).length c239_4) ∧ w'.cell? (ad241.add (((ji43)).toNat * 3)) = some (.int .i64 ((rd_T73 ((rd_T54 l0_1 x52_3).f1) (ji43)).f0)) ∧ w'.cell? ⟨(ad241.add (((ji43)).toNat * 3)).block, (ad241.add (((ji43)).toNat * 3)).off + 1, none⟩ = some (.int .i64 ((rd_T73 ((rd_T54 l0_1 x52_3).f1) (ji43)).f1)) ∧ w'.cell? ⟨(ad241.add (((ji43)).toNat * 3)).block, (ad241.add (((ji43)).toNat * 3)).off + 2, none⟩ = some (.string ((rd_T73 ((rd_T54 l0_1 x52_3).f1) (ji43)).f2))) (ds := []) #[false, false, false, false, false, false, false, false, false, false, false, false, false, false, false, false, false, false, false, false, false, false, false, false, false, false, false, false, false, false, false] (by kernel_rfl) rfl rfl ⟨bc_ BK242.out 0, bc_ BK242.out 1, bc_ BK242.out 2, bc_ BK240.out 0, bc_ BK240.out 1, bc_ BK240.out 2, bc_ BK240.out 3, bc_ BK240.out 4, ((HB.out.cell (World.block_lt_of_cell? w _ hw244_0)).trans hw244_0), ((HB.out.cell (World.block_lt_of_cell? w _ hw244_1)).trans hw244_1), ((HB.out.cell (World.block_lt_of_cell? w _ hw244_2)).trans hw244_2)⟩ (fun hHeld => ?_); refine with_tabW impl_isSynod.tab16 impl_isSynod.bits16 (fun HT_ HW_ => ?_)
  generalize w65.drew = w66 at BK232 BK240 BK242 HB hx244_0 hx244_1 hx244_2 hHeld ⊢
  refine pu_ 0 (some 65) (h := ?_)
  refine pu_ 2 (some 67) (h := ?_)
  refine pu_ 3 (some 68) (h := ?_)
  refine tk11_ 1 (some 66) (h := ?_)
  refine on_ 4 (some 69) (h := fun K hK => ?_)
  refine goes_ Try.func46 (by kernel_rfl) rfl #[.int .i64 ((rd_T73 ((rd_T54 l0_1 x52_3).f1) x60_4).f0), .int .i64 0, .int .i64 (wrap64 ((l0_0.length : Int) - 1))] (by rfl) rfl rfl nc_ ?_
  with_reducible refine (impl_in.calls ((rd_T73 ((rd_T54 l0_1 x52_3).f1) x60_4).f0) 0 (wrap64 ((l0_0.length : Int) - 1)) true _ A40.out).mono ?_
  rintro e w' ⟨rfl, ⟨nd, rfl⟩⟩
  refine ⟨_, rfl, ?_⟩
  refine hK.out _ _ ⟨bc_ BK242.out 0, bc_ BK242.out 1, bc_ BK242.out 2, bc_ BK240.out 0, bc_ BK240.out 1, bc_ BK240.out 2, bc_ BK240.out 3, bc_ BK240.out 4, ((HB.out.cell (World.block_lt_of_cell? w _ hw244_0)).trans hw244_0), ((HB.out.cell (World.block_lt_of_cell? w _ hw244_1)).trans hw244_1), ((HB.out.cell (World.block_lt_of_cell? w _ hw244_2)).trans hw244_2)⟩ (fun hHeld => ?_)
  clear hK K
  refine norm_ nn_ ?_
  refine pu_ 5 (some 70) (h := ?_)
  refine pu_ 6 (some 71) (h := ?_)
  refine pu_ 7 (some 72) (h := ?_)
  refine pu_ 8 (some 73) (h := ?_)
  refine pu_ 9 (some 74) (h := ?_)
  refine pu_ 10 (some 75) (h := ?_)
  refine pu_ 12 (some 77) (h := ?_)
  refine pu_ 13 (some 78) (h := ?_)
  refine pu_ 17 (some 82) (h := ?_)
  refine tk11_ 11 (some 76) (h := ?_)
  refine pu_ 14 (some 79) (h := ?_)
  refine pu_ 15 (some 80) (h := ?_)
  refine tk11_ 16 (some 81) (h := ?_)
  refine tk11_ 18 (some 83) (h := ?_)
  refine pu_ 19 (some 84) (h := ?_)
  refine pu_ 20 (some 85) (h := ?_)
  refine pu_ 21 (some 86) (h := ?_)
  refine pu_ 22 (some 87) (h := ?_)
  refine pu_ 23 (some 88) (h := ?_)
  refine pu_ 25 (some 90) (h := ?_)
  refine pu_ 27 (some 92) (h := ?_)
  refine tk11_ 24 (some 89) (h := ?_)
  refine tk11_ 26 (some 91) (h := ?_)
  refine on_ 28 (some 93) (h := fun K hK => ?_)
  refine goes_ Try.func51 (by kernel_rfl) rfl #[.int .i64 ((rd_T73 ((rd_T54 l0_1 x52_3).f1) x60_4).f1), .string ((rd_T73 ((rd_T54 l0_1 x52_3).f1) x60_4).f2), .int .i64 x52_3] (by rfl) rfl rfl nc_ ?_
  with_reducible refine (impl_isVoted.calls k4 ((rd_T73 ((rd_T54 l0_1 x52_3).f1) x60_4).f1) ((rd_T73 ((rd_T54 l0_1 x52_3).f1) x60_4).f2) x52_3 false _ A53.out).mono ?_
  rintro e w' ⟨rfl, ⟨nd, rfl⟩⟩
  refine ⟨_, rfl, ?_⟩
  refine hK.out _ _ ⟨bc_ BK242.out 0, bc_ BK242.out 1, bc_ BK242.out 2, bc_ BK240.out 0, bc_ BK240.out 1, bc_ BK240.out 2, bc_ BK240.out 3, bc_ BK240.out 4, ((HB.out.cell (World.block_lt_of_cell? w _ hw244_0)).trans hw244_0), ((HB.out.cell (World.block_lt_of_cell? w _ hw244_1)).trans hw244_1), ((HB.out.cell (World.block_lt_of_cell? w _ hw244_2)).trans hw244_2)⟩ (fun hHeld => ?_)
  clear hK K
  refine norm_ nn_ ?_
  refine pu_ 29 (some 94) (h := ?_)
  refine pu_ 30 (some 95) (h := ?_)
  refine done_ (done_of HT_.out (by kernel_rfl)) ?_
  try go_wp2
  go_ret
  exact ⟨by first | rfl | (simp [errW_none, errW_some] <;> rfl) | (simp only [← hji43]; first | rfl | (simp [errW_none, errW_some] <;> rfl)) | (simp [*, errW_none, errW_some] <;> rfl), bl_⟩
 subst c54
 have H1 : (impl_isSynod.l2 k4 (l0_0.length : Int) x52_3 l0_1 (l0_1.length : Int) x52_3 ((rd_T54 l0_1 x52_3).f1) (((rd_T54 l0_1 x52_3).f1).length : Int) (wrap64 (x60_4 + 1)) ((rd_T54 l0_1 x52_3).f0) ((rd_T54 l0_1 x52_3).f1) ((rd_T54 l0_1 x52_3).f2) ((rd_T54 l0_1 x52_3).f3) ((rd_T54 l0_1 x52_3).f4)) = some r := by rw [if_pos rfl] at H; exact H
 clear H
 have H := H1
 clear H1
 have H' := Aside0.mk H
 clear H
 have p241 : 0 ≤ (x60_4 : Int) := of_decide_eq_true (by first | (with_reducible assumption) | assumption)
 have q241 : x60_4 < (((rd_T54 l0_1 x52_3).f1).length : Int) := of_decide_eq_true (by first | (with_reducible assumption) | assumption)
 obtain ⟨ad241, e241, hx241_0, hx241_1, hx241_2⟩ := at_T73 HR239_1.out x60_4 p241 q241
 cases e241
 replace hx241_0 := (HB.out.cell (World.block_lt_of_cell? w _ hx241_0)).trans hx241_0
 replace hx241_1 := (HB.out.cell (World.block_lt_of_cell? w _ hx241_1)).trans hx241_1
 replace hx241_2 := (HB.out.cell (World.block_lt_of_cell? w _ hx241_2)).trans hx241_2
 replace p241 := eq_true p241
 replace q241 := eq_true q241
 try go_wp2_with (first | ((with_reducible refine gate_dst (N := 9) rfl ?_); (try (refine gate_guard (by rfl) ?_; dsimp only)); refine box_event rfl (N := 9) rfl (cs := #[.int .i64 0, .int .i64 0, .string (⟨#[]⟩ : ByteArray)]) (t := 73) gs_ ?_; intro gb242 hg w55 hbox hb; have BK242 := Aside0.mk (hbox); have GW242 := Aside0.mk ((by rw [hg]; exact bz_ : w.heap.size ≤ gb242)); have GE242 := GW242; replace HB := Aside0.mk (below_step bl_ hb); have NB232_242 := nl_ hg BK232; have NB242_232 := nm_ hg BK232; replace BK232 := bb_ BK232 hb; have NB240_242 := nl_ hg BK240; have NB242_240 := nm_ hg BK240; replace BK240 := bb_ BK240 hb; clear hb hbox hg; have hnb56 := NB242_232.out; have hnc56 := NB232_242.out; have hnb57 := NB242_240.out; have hnc57 := NB240_242.out; have hcz58_0 : w55.cell? ⟨gb242, 0, none⟩ = some (.int .i64 0) := bc_ BK242.out 0; have hcz58_1 : w55.cell? ⟨gb242, 1, none⟩ = some (.int .i64 0) := bc_ BK242.out 1; have hcz58_2 : w55.cell? ⟨gb242, 2, none⟩ = some (.string (⟨#[]⟩ : ByteArray)) := bc_ BK242.out 2; have hfz58_0 := blk_frozen BK242.out 0; have hfz58_1 := blk_frozen BK242.out 1; have hfz58_2 := blk_frozen BK242.out 2))
 have n0_ : Aside0 ((((w55.setCell ⟨gb242, 0, none⟩ (.int .i64 ((rd_T73 ((rd_T54 l0_1 x52_3).f1) x60_4).f0))).setCell ⟨gb242, 1, none⟩ (.int .i64 ((rd_T73 ((rd_T54 l0_1 x52_3).f1) x60_4).f1))).setCell ⟨gb242, 2, none⟩ (.string ((rd_T73 ((rd_T54 l0_1 x52_3).f1) x60_4).f2))).heap[gb232]? = some (.cells #[.slice A0_0 l0_0.length c0_0, .slice (some ad239) l0_1.length c0_1] 33 (0, 0))) := ⟨kz_⟩
 have n1_ : Aside0 ((((w55.setCell ⟨gb242, 0, none⟩ (.int .i64 ((rd_T73 ((rd_T54 l0_1 x52_3).f1) x60_4).f0))).setCell ⟨gb242, 1, none⟩ (.int .i64 ((rd_T73 ((rd_T54 l0_1 x52_3).f1) x60_4).f1))).setCell ⟨gb242, 2, none⟩ (.string ((rd_T73 ((rd_T54 l0_1 x52_3).f1) x60_4).f2))).heap[gb240]? = some (.cells #[.string ((rd_T54 l0_1 x52_3).f0), .slice (some ad241) ((rd_T54 l0_1 x52_3).f1).length c239_1, .bool ((rd_T54 l0_1 x52_3).f2), .string ((rd_T54 l0_1 x52_3).f3), .slice A239_4 ((rd_T54 l0_1 x52_3).f4).length c239_4] 54 (0, 0))) := ⟨kz_⟩
 have n2_ : Aside0 ((((w55.setCell ⟨gb242, 0, none⟩ (.int .i64 ((rd_T73 ((rd_T54 l0_1 x52_3).f1) x60_4).f0))).setCell ⟨gb242, 1, none⟩ (.int .i64 ((rd_T73 ((rd_T54 l0_1 x52_3).f1) x60_4).f1))).setCell ⟨gb242, 2, none⟩ (.string ((rd_T73 ((rd_T54 l0_1 x52_3).f1) x60_4).f2))).heap[gb242]? = some (.cells #[.int .i64 ((rd_T73 ((rd_T54 l0_1 x52_3).f1) x60_4).f0), .int .i64 ((rd_T73 ((rd_T54 l0_1 x52_3).f1) x60_4).f1), .string ((rd_T73 ((rd_T54 l0_1 x52_3).f1) x60_4).f2)] 73 (0, 0))) := ⟨by (with_reducible repeat (first | refine blk_drewN ?_ _ | refine blk_drew ?_ | refine blk_alloc ?_ _)); refine blk_put (cs := #[.int .i64 ((rd_T73 ((rd_T54 l0_1 x52_3).f1) x60_4).f0), .int .i64 ((rd_T73 ((rd_T54 l0_1 x52_3).f1) x60_4).f1), .string (⟨#[]⟩ : ByteArray)]) ?_ 2 _ rfl; (with_reducible repeat (first | refine blk_drewN ?_ _ | refine blk_drew ?_ | refine blk_alloc ?_ _)); refine blk_put (cs := #[.int .i64 ((rd_T73 ((rd_T54 l0_1 x52_3).f1) x60_4).f0), .int .i64 0, .string (⟨#[]⟩ : ByteArray)]) ?_ 1 _ rfl; (with_reducible repeat (first | refine blk_drewN ?_ _ | refine blk_drew ?_ | refine blk_alloc ?_ _)); refine blk_put (cs := #[.int .i64 0, .int .i64 0, .string (⟨#[]⟩ : ByteArray)]) ?_ 0 _ rfl; exact kb_ BK242.out⟩
 have n3_ : Aside0 (Below w.heap.size w (((w55.setCell ⟨gb242, 0, none⟩ (.int .i64 ((rd_T73 ((rd_T54 l0_1 x52_3).f1) x60_4).f0))).setCell ⟨gb242, 1, none⟩ (.int .i64 ((rd_T73 ((rd_T54 l0_1 x52_3).f1) x60_4).f1))).setCell ⟨gb242, 2, none⟩ (.string ((rd_T73 ((rd_T54 l0_1 x52_3).f1) x60_4).f2)))) := ⟨bl_⟩
 (try clear BK232)
 (try clear BK240)
 (try clear BK242)
 (try clear HB)
 generalize (((w55.setCell ⟨gb242, 0, none⟩ (.int .i64 ((rd_T73 ((rd_T54 l0_1 x52_3).f1) x60_4).f0))).setCell ⟨gb242, 1, none⟩ (.int .i64 ((rd_T73 ((rd_T54 l0_1 x52_3).f1) x60_4).f1))).setCell ⟨gb242, 2, none⟩ (.string ((rd_T73 ((rd_T54 l0_1 x52_3).f1) x60_4).f2))) = w59 at n0_ n1_ n2_ n3_ ⊢
 have BK232 := n0_
 have BK240 := n1_
 have BK242 := n2_
 have HB := n3_
 clear n0_ n1_ n2_ n3_
 replace BK232 := Aside0.mk (blk_drew BK232.out)
 replace BK240 := Aside0.mk (blk_drew BK240.out)
 replace BK242 := Aside0.mk (blk_drew BK242.out)
 replace HB := Aside0.mk (below_drew1 HB.out)
 have p244 : 0 ≤ ((ji43) : Int) := of_decide_eq_true (by first | (with_reducible assumption) | assumption)
 have q244 : (ji43) < (((rd_T54 l0_1 x52_3).f1).length : Int) := of_decide_eq_true (by first | (with_reducible assumption) | assumption)
 obtain ⟨ad244, e244, hx244_0, hx244_1, hx244_2⟩ := at_T73 HR239_1.out (ji43) p244 q244
 have hw244_2 := hx244_2
 have hw244_1 := hx244_1
 have hw244_0 := hx244_0
 obtain rfl : ad241 = ad244 := (by injection e244)
 replace hx244_0 := (HB.out.cell (World.block_lt_of_cell? w _ hx244_0)).trans hx244_0
 replace hx244_1 := (HB.out.cell (World.block_lt_of_cell? w _ hx244_1)).trans hx244_1
 replace hx244_2 := (HB.out.cell (World.block_lt_of_cell? w _ hx244_2)).trans hx244_2
 replace p244 := eq_true p244
 replace q244 := eq_true q244
 refine start_ (n := 31) (S := fun w' => w'.cell? ⟨gb242, 0, none⟩ = some (.int .i64 ((rd_T73 ((rd_T54 l0_1 x52_3).f1) x60_4).f0)) ∧ w'.cell? ⟨gb242, 1, none⟩ = some (.int .i64 ((rd_T73 ((rd_T54 l0_1 x52_3).f1) x60_4).f1)) ∧ w'.cell? ⟨gb242, 2, none⟩ = some (.string ((rd_T73 ((rd_T54 l0_1 x52_3).f1) x60_4).f2)) ∧ w'.cell? ⟨gb240, 0, none⟩ = some (.string ((rd_T54 l0_1 x52_3).f0)) ∧ w'.cell? ⟨gb240, 1, none⟩ = some (.slice (some ad241) ((rd_T54 l0_1 x52_3).f1).length c239_1) ∧ w'.cell? ⟨gb240, 2, none⟩ = some (.bool ((rd_T54 l0_1 x52_3).f2)) ∧ w'.cell? ⟨gb240, 3, none⟩ = some (.string ((rd_T54 l0_1 x52_3).f3)) ∧ w'.cell? ⟨gb240, 4, none⟩ = some (.slice A239_4 ((rd_T54 l0_1 x52_3).f4).length c239_4) ∧ w'.cell? (ad241.add (((ji43)).toNat * 3)) = some (.int .i64 ((rd_T73 ((rd_T54 l0_1 x52_3).f1) (ji43)).f0)) ∧ w'.cell? ⟨(ad241.add (((ji43)).toNat * 3)).block, (ad241.add (((ji43)).toNat * 3)).off + 1, none⟩ = some (.int .i64 ((rd_T73 ((rd_T54 l0_1 x52_3).f1) (ji43)).f1)) ∧ w'.cell? ⟨(ad241.add (((ji43)).toNat * 3)).block, (ad241.add (((ji43)).toNat * 3)).off + 2, none⟩ = some (.string ((rd_T73 ((rd_T54 l0_1 x52_3).f1) (ji43)).f2))) (ds := []) #[false, false, false, false, false, false, false, false, false, false, false, false, false, false, false, false, false, false, false, false, false, false, false, false, false, false, false, false, false, false, false] (by kernel_rfl) rfl rfl ⟨bc_ BK242.out 0, bc_ BK242.out 1, bc_ BK242.out 2, bc_ BK240.out 0, bc_ BK240.out 1, bc_ BK240.out 2, bc_ BK240.out 3, bc_ BK240.out 4, ((HB.out.cell (World.block_lt_of_cell? w _ hw244_0)).trans hw244_0), ((HB.out.cell (World.block_lt_of_cell? w _ hw244_1)).trans hw244_1), ((HB.out.cell (World.block_lt_of_cell? w _ hw244_2)).trans hw244_2)⟩ (fun hHeld => ?_); refine with_tabW impl_isSynod.tab16 impl_isSynod.bits16 (fun HT_ HW_ => ?_)
 generalize w59.drew = w60 at BK232 BK240 BK242 HB hx244_0 hx244_1 hx244_2 hHeld ⊢
 refine pu_ 0 (some 65) (h := ?_)
 refine pu_ 2 (some 67) (h := ?_)
 refine pu_ 3 (some 68) (h := ?_)
 refine tk11_ 1 (some 66) (h := ?_)
 refine on_ 4 (some 69) (h := fun K hK => ?_)
 refine goes_ Try.func46 (by kernel_rfl) rfl #[.int .i64 ((rd_T73 ((rd_T54 l0_1 x52_3).f1) x60_4).f0), .int .i64 0, .int .i64 (wrap64 ((l0_0.length : Int) - 1))] (by rfl) rfl rfl nc_ ?_
 with_reducible refine (impl_in.calls ((rd_T73 ((rd_T54 l0_1 x52_3).f1) x60_4).f0) 0 (wrap64 ((l0_0.length : Int) - 1)) true _ A40.out).mono ?_
 rintro e w' ⟨rfl, ⟨nd, rfl⟩⟩
 refine ⟨_, rfl, ?_⟩
 refine hK.out _ _ ⟨bc_ BK242.out 0, bc_ BK242.out 1, bc_ BK242.out 2, bc_ BK240.out 0, bc_ BK240.out 1, bc_ BK240.out 2, bc_ BK240.out 3, bc_ BK240.out 4, ((HB.out.cell (World.block_lt_of_cell? w _ hw244_0)).trans hw244_0), ((HB.out.cell (World.block_lt_of_cell? w _ hw244_1)).trans hw244_1), ((HB.out.cell (World.block_lt_of_cell? w _ hw244_2)).trans hw244_2)⟩ (fun hHeld => ?_)
 clear hK K
 refine norm_ nn_ ?_
 refine pu_ 5 (some 70) (h := ?_)
 refine pu_ 6 (some 71) (h := ?_)
 refine pu_ 7 (some 72) (h := ?_)
 refine pu_ 8 (some 73) (h := ?_)
 refine pu_ 9 (some 74) (h := ?_)
 refine pu_ 10 (some 75) (h := ?_)
 refine pu_ 12 (some 77) (h := ?_)
 refine pu_ 13 (some 78) (h := ?_)
 refine pu_ 17 (some 82) (h := ?_)
 refine tk11_ 11 (some 76) (h := ?_)
 refine pu_ 14 (some 79) (h := ?_)
 refine pu_ 15 (some 80) (h := ?_)
 refine tk11_ 16 (some 81) (h := ?_)
 refine tk11_ 18 (some 83) (h := ?_)
 refine pu_ 19 (some 84) (h := ?_)
 refine pu_ 20 (some 85) (h := ?_)
 refine pu_ 21 (some 86) (h := ?_)
 refine pu_ 22 (some 87) (h := ?_)
 refine pu_ 23 (some 88) (h := ?_)
 refine pu_ 25 (some 90) (h := ?_)
 refine pu_ 27 (some 92) (h := ?_)
 refine tk11_ 24 (some 89) (h := ?_)
 refine tk11_ 26 (some 91) (h := ?_)
 refine on_ 28 (some 93) (h := fun K hK => ?_)
 refine goes_ Try.func51 (by kernel_rfl) rfl #[.int .i64 ((rd_T73 ((rd_T54 l0_1 x52_3).f1) x60_4).f1), .string ((rd_T73 ((rd_T54 l0_1 x52_3).f1) x60_4).f2), .int .i64 x52_3] (by rfl) rfl rfl nc_ ?_
 with_reducible refine (impl_isVoted.calls k4 ((rd_T73 ((rd_T54 l0_1 x52_3).f1) x60_4).f1) ((rd_T73 ((rd_T54 l0_1 x52_3).f1) x60_4).f2) x52_3 true _ A53.out).mono ?_
 rintro e w' ⟨rfl, ⟨nd, rfl⟩⟩
 refine ⟨_, rfl, ?_⟩
 refine hK.out _ _ ⟨bc_ BK242.out 0, bc_ BK242.out 1, bc_ BK242.out 2, bc_ BK240.out 0, bc_ BK240.out 1, bc_ BK240.out 2, bc_ BK240.out 3, bc_ BK240.out 4, ((HB.out.cell (World.block_lt_of_cell? w _ hw244_0)).trans hw244_0), ((HB.out.cell (World.block_lt_of_cell? w _ hw244_1)).trans hw244_1), ((HB.out.cell (World.block_lt_of_cell? w _ hw244_2)).trans hw244_2)⟩ (fun hHeld => ?_)
 clear hK K
 refine norm_ nn_ ?_
 refine pu_ 29 (some 94) (h := ?_)
 refine pu_ 30 (some 95) (h := ?_)
 refine done_ (done_of HT_.out (by kernel_rfl)) ?_
 try go_wp2
 go_roundg k4
 case measure => have := HJ1.out; have := HK2.out; have := HK3.out; have := HK4.out; omega
 case rel => exact ⟨(wrap64 (x60_4 + 1)), (by first | rfl | (simp; done) | (simp [*]; done)), H', ⟨by have := HJ1.out; have := HK2.out; have := HK3.out; have := HK4.out; omega⟩, ⟨by exact kb_ BK232.out⟩, ⟨by exact kb_ BK240.out⟩, ⟨bl_⟩⟩

end Go.Proofs.Ytjpaoeeeiklfnaa.PSY
