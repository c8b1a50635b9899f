/- What this text proves: the machine calls of these functions return what the plain functions say. Conditions: as each theorem says. Printed by a program of this session out of the translation. -/
import Derived.Test.YtgdcooiaeeajmaaPLAx0
import Derived.Test.YtgdcooiaeeajmaaPLAx1
namespace Go.Proofs.Ytgdcooiaeeajmaa.PLA
open Go.RowKit Go.Proofs.YtgdcooiaeeajmaaW.PrintWords Go.Proofs.YtgdcooiaeeajmaaW.PrintLast Go.Proofs.YtgdcooiaeeajmaaW.PrintMore
attribute [local go_sem] max2_int min2_int max_two min_two max_three min_three max_four min_four   -- for this text's walks alone
set_option linter.unusedVariables false
set_option linter.unusedSimpArgs false

/-! ### spec_l1Cur_events: function 47 -/
mutual
def spec_l1Cur_events.j0 : Nat → List (S68) → List Int → Int → Int → List Int → Int → Int → Option ((List (S68)) × Int × Int)
 | 0, _, _, _, _, _, _, _ => none
 | k + 1, x3, x4, x5, x6, x1000, x1001, x1002 => spec_l1Cur_events.l0 k x3 x4 x5 x6 x1000 x1001 x1002
def spec_l1Cur_events.l0 : Nat → List (S68) → List Int → Int → Int → List Int → Int → Int → Option ((List (S68)) × Int × Int)
 | 0, _, _, _, _, _, _, _ => none
 | k + 1, x3, x4, x5, x6, x1000, x1001, x1002 => if x6 > 0 then ((spec_l1Cur_pick.f x1000 x1001 x1002 4).bind fun bt120 => ((spec_l1Cur_pick.f x1000 bt120.2.1 bt120.2.2 4).bind fun bt124 => (if bt124.1 = 0 then (spec_l1Cur_events.j2 k x3 x4 x5 x6 bt124.1 (bt124.1 == 0) x1000 bt124.2.1 bt124.2.2 1 bt120.1 0) else (spec_l1Cur_events.j2 k x3 x4 x5 x6 bt124.1 (bt124.1 == 1) x1000 bt124.2.1 bt124.2.2 1 bt120.1 0)))) else ((spec_l1Cur_one.f x1000 x1001 x1002 30).bind fun bt163 => (if bt163.1 = true then ((spec_l1Cur_pick.f x1000 bt163.2.1 bt163.2.2 5).bind fun bt166 => ((spec_l1Cur_pick.f x1000 bt166.2.1 bt166.2.2 8).bind fun bt169 => ((spec_l1Cur_pick.f x1000 bt169.2.1 bt169.2.2 4).bind fun bt172 => (if x3.length < 5864062014805 then (some ((x3 ++ [(⟨bt166.1, wrap64 (bt169.1 - 1), bt172.1⟩ : S68)]), bt172.2.1, bt172.2.2)) else (none))))) else (some (x3, bt163.2.1, bt163.2.2))))
def spec_l1Cur_events.j2 : Nat → List (S68) → List Int → Int → Int → Int → Bool → List Int → Int → Int → Int → Int → Int → Option ((List (S68)) × Int × Int)
 | 0, _, _, _, _, _, _, _, _, _, _, _, _ => none
 | k + 1, x3, x4, x5, x6, x24, x25, x1000, x1001, x1002, x124000, x124001, x124002 => if x25 = true then (if x4.length < 17592186044416 then (if x3.length < 5864062014805 then (spec_l1Cur_events.l0 k (x3 ++ [(⟨2, x124001, x5⟩ : S68)]) (x4 ++ [x5]) (wrap64 (x5 + 1)) (wrap64 (x6 - 1)) x1000 x1001 x1002) else (none)) else (none)) else (if x24 = 2 then (if (x4.length : Int) > 0 then ((spec_l1Cur_pick.f x1000 x1001 x1002 (x4.length : Int)).bind fun bt133 => (if 0 ≤ bt133.1 then (if bt133.1 < (x4.length : Int) then ((some (([] : List Int) : List Int)).bind fun y137 => (if bt133.1 ≤ (x4.length : Int) then ((some (x4.take (bt133.1 : Int).toNat : List Int)).bind fun y140 => (if y137.length + y140.length < 17592186044416 then ((some (y137 ++ y140 : List Int)).bind fun y144 => (if 0 ≤ (wrap64 (bt133.1 + 1)) then (if (wrap64 (bt133.1 + 1)) ≤ (x4.length : Int) then ((some (x4.drop ((wrap64 (bt133.1 + 1)) : Int).toNat : List Int)).bind fun y147 => (if y144.length + y147.length < 17592186044416 then (if x3.length < 5864062014805 then (spec_l1Cur_events.l0 k (x3 ++ [(⟨3, x124001, rd x4 bt133.1⟩ : S68)]) (y144 ++ y147) x5 (wrap64 (x6 - 1)) x1000 bt133.2.1 bt133.2.2) else (none)) else (none))) else (none)) else (none))) else (none))) else (none))) else (none)) else (none))) else (if x3.length < 5864062014805 then (spec_l1Cur_events.l0 k (x3 ++ [(⟨x124000, x124001, x124002⟩ : S68)]) x4 x5 (wrap64 (x6 - 1)) x1000 x1001 x1002) else (none))) else (if x3.length < 5864062014805 then (spec_l1Cur_events.l0 k (x3 ++ [(⟨x124000, x124001, x124002⟩ : S68)]) x4 x5 (wrap64 (x6 - 1)) x1000 x1001 x1002) else (none)))
end
def spec_l1Cur_events.f (k : Nat) (s0_0 : List Int) (s0_1 : Int) (s0_2 : Int) : Option ((List (S68)) × Int × Int) := (spec_l1Cur_pick.f s0_0 s0_1 s0_2 14).bind fun bt111 => ((spec_l1Cur_one.f s0_0 bt111.2.1 bt111.2.2 20).bind fun bt114 => (if bt114.1 = true then ((spec_l1Cur_pick.f s0_0 bt114.2.1 bt114.2.2 2).bind fun bt117 => (spec_l1Cur_events.j0 k ([] : List (S68)) ([] : List Int) 1 (wrap64 (60 + bt117.1)) s0_0 bt117.2.1 bt117.2.2)) else (spec_l1Cur_events.j0 k ([] : List (S68)) ([] : List Int) 1 bt111.1 s0_0 bt114.2.1 bt114.2.2)))
theorem spec_l1Cur_events.mono_l : ∀ k, (∀ y0 y1 y2 y3 y4 y5 y6, LeO (spec_l1Cur_events.j0 k y0 y1 y2 y3 y4 y5 y6) (spec_l1Cur_events.j0 (k + 1) y0 y1 y2 y3 y4 y5 y6)) ∧ (∀ y0 y1 y2 y3 y4 y5 y6, LeO (spec_l1Cur_events.l0 k y0 y1 y2 y3 y4 y5 y6) (spec_l1Cur_events.l0 (k + 1) y0 y1 y2 y3 y4 y5 y6)) ∧ (∀ y0 y1 y2 y3 y4 y5 y6 y7 y8 y9 y10 y11, LeO (spec_l1Cur_events.j2 k y0 y1 y2 y3 y4 y5 y6 y7 y8 y9 y10 y11) (spec_l1Cur_events.j2 (k + 1) y0 y1 y2 y3 y4 y5 y6 y7 y8 y9 y10 y11))
 | 0 => ⟨fun _ _ _ _ _ _ _ r h => by simp [spec_l1Cur_events.j0] at h, fun _ _ _ _ _ _ _ r h => by simp [spec_l1Cur_events.l0] at h, fun _ _ _ _ _ _ _ _ _ _ _ _ r h => by simp [spec_l1Cur_events.j2] at h⟩
 | k + 1 => by
  obtain ⟨ih0, ih1, ih2⟩ := spec_l1Cur_events.mono_l k
  refine ⟨?_, ?_, ?_⟩
  ·intro y0 y1 y2 y3 y4 y5 y6
   unfold spec_l1Cur_events.j0
   repeat' first
   | (with_reducible exact ih0 _ _ _ _ _ _ _)
   | (with_reducible exact ih1 _ _ _ _ _ _ _)
   | (with_reducible exact ih2 _ _ _ _ _ _ _ _ _ _ _ _)
   | (with_reducible exact LeO.refl _)
   | (with_reducible exact LeO.none _)
   | (with_reducible refine LeO.ite ?_ ?_)
   | (with_reducible refine LeO.bind ?_ (fun _ => ?_))
   | exact ih0 _ _ _ _ _ _ _
   | exact ih1 _ _ _ _ _ _ _
   | exact ih2 _ _ _ _ _ _ _ _ _ _ _ _
   | exact LeO.none _
   | refine LeO.ite ?_ ?_
   | refine LeO.bind ?_ (fun _ => ?_)
  ·intro y0 y1 y2 y3 y4 y5 y6
   unfold spec_l1Cur_events.l0
   repeat' first
   | (with_reducible exact ih0 _ _ _ _ _ _ _)
   | (with_reducible exact ih1 _ _ _ _ _ _ _)
   | (with_reducible exact ih2 _ _ _ _ _ _ _ _ _ _ _ _)
   | (with_reducible exact LeO.refl _)
   | (with_reducible exact LeO.none _)
   | (with_reducible refine LeO.ite ?_ ?_)
   | (with_reducible refine LeO.bind ?_ (fun _ => ?_))
   | exact ih0 _ _ _ _ _ _ _
   | exact ih1 _ _ _ _ _ _ _
   | exact ih2 _ _ _ _ _ _ _ _ _ _ _ _
   | exact LeO.none _
   | refine LeO.ite ?_ ?_
   | refine LeO.bind ?_ (fun _ => ?_)
  ·intro y0 y1 y2 y3 y4 y5 y6 y7 y8 y9 y10 y11
   unfold spec_l1Cur_events.j2
   repeat' first
   | (with_reducible exact ih0 _ _ _ _ _ _ _)
   | (with_reducible exact ih1 _ _ _ _ _ _ _)
   | (with_reducible exact ih2 _ _ _ _ _ _ _ _ _ _ _ _)
   | (with_reducible exact LeO.refl _)
   | (with_reducible exact LeO.none _)
   | (with_reducible refine LeO.ite ?_ ?_)
   | (with_reducible refine LeO.bind ?_ (fun _ => ?_))
   | exact ih0 _ _ _ _ _ _ _
   | exact ih1 _ _ _ _ _ _ _
   | exact ih2 _ _ _ _ _ _ _ _ _ _ _ _
   | exact LeO.none _
   | refine LeO.ite ?_ ?_
   | refine LeO.bind ?_ (fun _ => ?_)
theorem spec_l1Cur_events.mono : ∀ a0 a1 a2 k, LeO (spec_l1Cur_events.f k a0 a1 a2) (spec_l1Cur_events.f (k + 1) a0 a1 a2) := by
 intro a0 a1 a2 k
 obtain ⟨ih0, ih1, ih2⟩ := spec_l1Cur_events.mono_l k
 unfold spec_l1Cur_events.f
 repeat' first
   | (with_reducible exact ih0 _ _ _ _ _ _ _)
   | (with_reducible exact ih1 _ _ _ _ _ _ _)
   | (with_reducible exact ih2 _ _ _ _ _ _ _ _ _ _ _ _)
   | (with_reducible exact LeO.refl _)
   | (with_reducible exact LeO.none _)
   | (with_reducible refine LeO.ite ?_ ?_)
   | (with_reducible refine LeO.bind ?_ (fun _ => ?_))
   | exact ih0 _ _ _ _ _ _ _
   | exact ih1 _ _ _ _ _ _ _
   | exact ih2 _ _ _ _ _ _ _ _ _ _ _ _
   | exact LeO.none _
   | refine LeO.ite ?_ ?_
   | refine LeO.bind ?_ (fun _ => ?_)
def spec_l1Cur_events.T22 : Bool × List (List Nat × List Nat) := (true, [([], []), ([], []), ([], []), ([1, 2], [1, 2]), ([0, 3], [0, 3]), ([], []), ([], []), ([6], [6]), ([5, 7], [5, 7]), ([4, 8, 4], [4, 8]), ([9, 9, 0, 1, 2, 3, 4, 5, 6, 7, 8, 9], [1, 5, 9])])
def spec_l1Cur_events.B22 : List Nat := [0, 0, 0, 6, 15, 0, 0, 64, 224, 511, 1023]
theorem spec_l1Cur_events.tab22 : rtab .any (opsOf Try.f47 22) = spec_l1Cur_events.T22 := by kernel_rfl
theorem spec_l1Cur_events.bits22 : waitsOk spec_l1Cur_events.T22.2 spec_l1Cur_events.B22 = true := by kernel_rfl
set_option maxHeartbeats 8000000 in
set_option maxRecDepth 100000 in
theorem spec_l1Cur_events.calls (k : Nat) (g : Nat) (s0_0 : List Int) (s0_1 : Int) (s0_2 : Int) (r1 : List (S68)) (r2 : Int) (r3 : Int) (w0 w : World) (hI : IsS52 w0 w g s0_0 s0_1 s0_2) (hB : Below w0.heap.size w0 w) (h : spec_l1Cur_events.f k s0_0 s0_1 s0_2 = some (r1, r2, r3)) :
  Calls Try.prog 47 #[.pointer (some ⟨g, 0, none⟩)] w fun e w' => ∃ v0_ : Value, e = .returned (v0_) ∧ Kd.R k68 68 w' w.heap.size (fun _ => True) v0_ r1 ∧ IsS52 w0 w' g s0_0 r2 r3 ∧ Below w0.heap.size w0 w' ∧ KeepBut w w' g none := by
 have hu68 := Try.underlying68
 have HI0 := Aside0.mk hI
 have HK := Aside0.mk (KeepBut.refl w g none)
 have HL := Aside0.mk hB.size
 clear hI
 have HW0 := Aside0.mk hB.size
 have HB := Aside0.mk hB
 clear hB
 have H : ((spec_l1Cur_pick.f s0_0 s0_1 s0_2 14).bind fun bt111 => ((spec_l1Cur_one.f s0_0 bt111.2.1 bt111.2.2 20).bind fun bt114 => (if bt114.1 = true then ((spec_l1Cur_pick.f s0_0 bt114.2.1 bt114.2.2 2).bind fun bt117 => (spec_l1Cur_events.j0 k ([] : List (S68)) ([] : List Int) 1 (wrap64 (60 + bt117.1)) s0_0 bt117.2.1 bt117.2.2)) else (spec_l1Cur_events.j0 k ([] : List (S68)) ([] : List Int) 1 bt111.1 s0_0 bt114.2.1 bt114.2.2)))) = some (r1, r2, r3) := h
 clear h
 replace H := Option.bind_eq_some_iff.mp H
 obtain ⟨⟨t111, t112, t113⟩, A20, H⟩ := H
 replace H : ((spec_l1Cur_one.f s0_0 t112 t113 20).bind fun bt114 => (if bt114.1 = true then ((spec_l1Cur_pick.f s0_0 bt114.2.1 bt114.2.2 2).bind fun bt117 => (spec_l1Cur_events.j0 k ([] : List (S68)) ([] : List Int) 1 (wrap64 (60 + bt117.1)) s0_0 bt117.2.1 bt117.2.2)) else (spec_l1Cur_events.j0 k ([] : List (S68)) ([] : List Int) 1 t111 s0_0 bt114.2.1 bt114.2.2))) = some (r1, r2, r3) := H
 have A2 := Aside0.mk A20
 clear A20
 replace H := Option.bind_eq_some_iff.mp H
 obtain ⟨⟨t114, t115, t116⟩, A30, H⟩ := H
 replace H : (if t114 = true then ((spec_l1Cur_pick.f s0_0 t115 t116 2).bind fun bt117 => (spec_l1Cur_events.j0 k ([] : List (S68)) ([] : List Int) 1 (wrap64 (60 + bt117.1)) s0_0 bt117.2.1 bt117.2.2)) else (spec_l1Cur_events.j0 k ([] : List (S68)) ([] : List Int) 1 t111 s0_0 t115 t116)) = some (r1, r2, r3) := H
 have A3 := Aside0.mk A30
 clear A30
 have HC4 := Aside0.mk H
 clear H
 go_enter Try.func47, Try.ntmps47
 go_upto_if 12 with (first | ((with_reducible refine gate_callee (f := 22) rfl ?_); refine goesL_ (some 10) rfl rfl Try.func22 (by kernel_rfl) rfl #[.pointer (some ⟨g, 0, none⟩), .int .i64 14] rfl nc_ ?_; (with_reducible refine (spec_l1Cur_pick.calls g s0_0 s0_1 s0_2 14 t111 t112 t113 w0 _ ?side1 ?side2 A2.out).mono ?_); (case side1 => repeat (first | (with_reducible first | exact HI0.out | apply IsS52.alloc | apply IsS52.drewN | apply IsS52.drew | apply IsS52.set_1 | apply IsS52.set_2) | exact HI0.out)); (case side2 => repeat (first | (with_reducible first | exact HB.out | apply below_alloc | apply pw_below_drewN | apply below_drew1 | refine below_set ?_ (IsS52.ge HI0.out)) | exact HB.out)); rintro e w5 ⟨rfl, hi, hb, hk⟩; refine ⟨_, rfl, ?_⟩; replace HK := Aside0.mk (KeepBut.trans (by repeat (first | (with_reducible first | exact HK.out | apply KeepBut.set_ | apply keep_drewN | apply keep_drew | apply keep_alloc) | exact HK.out)) hk (.inl rfl)); replace HB := Aside0.mk (hb); replace HI0 := Aside0.mk (hi); clear hb hk hi) | ((with_reducible refine gate_callee (f := 23) rfl ?_); refine goesL_ (some 12) rfl rfl Try.func23 (by kernel_rfl) rfl #[.pointer (some ⟨g, 0, none⟩), .int .i64 20] rfl nc_ ?_; (with_reducible refine (spec_l1Cur_one.calls g s0_0 t112 t113 20 t114 t115 t116 w0 _ ?side1 ?side2 A3.out).mono ?_); (case side1 => repeat (first | (with_reducible first | exact HI0.out | apply IsS52.alloc | apply IsS52.drewN | apply IsS52.drew | apply IsS52.set_1 | apply IsS52.set_2) | exact HI0.out)); (case side2 => repeat (first | (with_reducible first | exact HB.out | apply below_alloc | apply pw_below_drewN | apply below_drew1 | refine below_set ?_ (IsS52.ge HI0.out)) | exact HB.out)); rintro e w6 ⟨rfl, hi, hb, hk⟩; refine ⟨_, rfl, ?_⟩; replace HK := Aside0.mk (KeepBut.trans (by repeat (first | (with_reducible first | exact HK.out | apply KeepBut.set_ | apply keep_drewN | apply keep_drew | apply keep_alloc) | exact HK.out)) hk (.inl rfl)); replace HB := Aside0.mk (hb); replace HI0 := Aside0.mk (hi); clear hb hk hi))
 (try simp only [Act.put, List.setIfInBounds_toArray, List.set_cons_zero, List.set_cons_succ])
 go_cut [6] (fun v6 wc => ∃ (kq : Nat) (x6_3 : Int) (x1001_3 : Int) (x1002_3 : Int), v6 = .int .i64 x6_3 ∧ Aside0 (spec_l1Cur_events.j0 kq ([] : List (S68)) ([] : List Int) 1 x6_3 s0_0 x1001_3 x1002_3 = some (r1, r2, r3)) ∧ Aside0 (kq ≤ k) ∧ Aside0 (Kd.R k68 68 wc w.heap.size (fun _ => True) (.slice none 0 0) ([] : List (S68))) ∧ Aside0 (Kd.R (Kd.int .i64) 3 wc w.heap.size (fun _ => True) (.slice none 0 0) ([] : List Int)) ∧ Aside0 (IsS52 w0 wc g s0_0 x1001_3 x1002_3) ∧ Aside0 (KeepBut w wc g none) ∧ Aside0 (Below w0.heap.size w0 wc))
 case first =>
  have H := HC4.out
  clear HC4
  by_cases c7 : t114 = true
  rotate_left
  ·replace c7 := Bool.eq_false_iff.mpr c7
   subst c7
   have H1 : (spec_l1Cur_events.j0 k ([] : List (S68)) ([] : List Int) 1 t111 s0_0 t115 t116) = some (r1, r2, r3) := by rw [if_neg (show ¬ (false = true) by decide)] at H; exact H
   clear H
   have H := H1
   clear H1
   have H' := Aside0.mk H
   clear H
   go_wp2
   go_meet
   case rel => exact ⟨_, (t111), (t115), (t116), (by first | rfl | (simp; done) | (simp [*]; done)), H', ⟨by first | omega | exact Nat.le_refl _⟩, ⟨by first | exact Kd.R_nil _ _ _ _ _ | exact Kd.N_nil _ _ _ _ _ | exact Kd.V_nil _ _ _ _ _ | exact Kd.Q_nil _ _ _ _ _ | exact Kd.S_nil _ _ _ _ _⟩, ⟨by first | exact Kd.R_nil _ _ _ _ _ | exact Kd.N_nil _ _ _ _ _ | exact Kd.V_nil _ _ _ _ _ | exact Kd.Q_nil _ _ _ _ _ | exact Kd.S_nil _ _ _ _ _⟩, ⟨by repeat (first | (with_reducible first | exact HI0.out | apply IsS52.alloc | apply IsS52.drewN | apply IsS52.drew | apply IsS52.set_1 | apply IsS52.set_2) | exact HI0.out)⟩, ⟨by repeat (first | (with_reducible first | exact HK.out | apply KeepBut.set_ | apply keep_drewN | apply keep_drew | apply keep_alloc) | exact HK.out)⟩, ⟨by repeat (first | (with_reducible first | exact HB.out | apply below_alloc | apply pw_below_drewN | apply below_drew1 | refine below_set ?_ (IsS52.ge HI0.out)) | exact HB.out)⟩⟩
  subst c7
  have H1 : ((spec_l1Cur_pick.f s0_0 t115 t116 2).bind fun bt117 => (spec_l1Cur_events.j0 k ([] : List (S68)) ([] : List Int) 1 (wrap64 (60 + bt117.1)) s0_0 bt117.2.1 bt117.2.2)) = some (r1, r2, r3) := by rw [if_pos rfl] at H; exact H
  clear H
  have H := H1
  clear H1
  replace H := Option.bind_eq_some_iff.mp H
  obtain ⟨⟨t117, t118, t119⟩, A80, H⟩ := H
  replace H : (spec_l1Cur_events.j0 k ([] : List (S68)) ([] : List Int) 1 (wrap64 (60 + t117)) s0_0 t118 t119) = some (r1, r2, r3) := H
  have A8 := Aside0.mk A80
  clear A80
  have H' := Aside0.mk H
  clear H
  go_wp2_with (first | ((with_reducible refine gate_callee (f := 22) rfl ?_); refine goesL_ (some 14) rfl rfl Try.func22 (by kernel_rfl) rfl #[.pointer (some ⟨g, 0, none⟩), .int .i64 2] rfl nc_ ?_; (with_reducible refine (spec_l1Cur_pick.calls g s0_0 t115 t116 2 t117 t118 t119 w0 _ ?side1 ?side2 A8.out).mono ?_); (case side1 => repeat (first | (with_reducible first | exact HI0.out | apply IsS52.alloc | apply IsS52.drewN | apply IsS52.drew | apply IsS52.set_1 | apply IsS52.set_2) | exact HI0.out)); (case side2 => repeat (first | (with_reducible first | exact HB.out | apply below_alloc | apply pw_below_drewN | apply below_drew1 | refine below_set ?_ (IsS52.ge HI0.out)) | exact HB.out)); rintro e w9 ⟨rfl, hi, hb, hk⟩; refine ⟨_, rfl, ?_⟩; replace HK := Aside0.mk (KeepBut.trans (by repeat (first | (with_reducible first | exact HK.out | apply KeepBut.set_ | apply keep_drewN | apply keep_drew | apply keep_alloc) | exact HK.out)) hk (.inl rfl)); replace HB := Aside0.mk (hb); replace HI0 := Aside0.mk (hi); clear hb hk hi))
  go_meet
  case rel => exact ⟨_, (wrap64 (60 + t117)), (t118), (t119), (by first | rfl | (simp; done) | (simp [*]; done)), H', ⟨by first | omega | exact Nat.le_refl _⟩, ⟨by first | exact Kd.R_nil _ _ _ _ _ | exact Kd.N_nil _ _ _ _ _ | exact Kd.V_nil _ _ _ _ _ | exact Kd.Q_nil _ _ _ _ _ | exact Kd.S_nil _ _ _ _ _⟩, ⟨by first | exact Kd.R_nil _ _ _ _ _ | exact Kd.N_nil _ _ _ _ _ | exact Kd.V_nil _ _ _ _ _ | exact Kd.Q_nil _ _ _ _ _ | exact Kd.S_nil _ _ _ _ _⟩, ⟨by repeat (first | (with_reducible first | exact HI0.out | apply IsS52.alloc | apply IsS52.drewN | apply IsS52.drew | apply IsS52.set_1 | apply IsS52.set_2) | exact HI0.out)⟩, ⟨by repeat (first | (with_reducible first | exact HK.out | apply KeepBut.set_ | apply keep_drewN | apply keep_drew | apply keep_alloc) | exact HK.out)⟩, ⟨by repeat (first | (with_reducible first | exact HB.out | apply below_alloc | apply pw_below_drewN | apply below_drew1 | refine below_set ?_ (IsS52.ge HI0.out)) | exact HB.out)⟩⟩
 clear HC4
 try clear c2
 try clear p2
 try clear c4
 try clear p6
 try clear c7
 obtain ⟨kq, x6_3, x1001_3, x1002_3, rfl, HA, HJ3, HO_3, HO_4, HI0, HK, HB⟩ := hcut
 cases kq with
 | zero => exact absurd HA.out (by simp [spec_l1Cur_events.j0])
 | succ kj3 => ?_
 have H := HA.out
 clear HA
 simp only [spec_l1Cur_events.j0] at H
 have H' := Aside0.mk H
 clear H
 go_wp2
 go_loopg [3, 4, 5, 6] kj3 (fun kq v3 v4 v5 v6 w' => ∃ (x3_2 : List (S68)) (x4_2 : List Int) (x5_2 : Int) (x6_2 : Int) (x1001_2 : Int) (x1002_2 : Int), v5 = .int .i64 x5_2 ∧ v6 = .int .i64 x6_2 ∧ Aside0 (spec_l1Cur_events.l0 kq x3_2 x4_2 x5_2 x6_2 s0_0 x1001_2 x1002_2 = some (r1, r2, r3)) ∧ Aside0 (kq ≤ kj3) ∧ Aside0 (Kd.R k68 68 w' w.heap.size (fun _ => True) v3 x3_2) ∧ Aside0 (Kd.R (Kd.int .i64) 3 w' w.heap.size (fun _ => True) v4 x4_2) ∧ Aside0 (IsS52 w0 w' g s0_0 x1001_2 x1002_2) ∧ Aside0 (KeepBut w w' g none) ∧ Aside0 (Below w0.heap.size w0 w'))
 case atStart => exact ⟨(([] : List (S68))), (([] : List Int)), (1), (x6_3), (x1001_3), (x1002_3), (by first | rfl | (simp; done) | (simp [*]; done)), (by first | rfl | (simp; done) | (simp [*]; done)), H', ⟨Nat.le_refl _⟩, ⟨by exact kr_ HO_3.out⟩, ⟨by exact kr_ HO_4.out⟩, ⟨by repeat (first | (with_reducible first | exact HI0.out | apply IsS52.alloc | apply IsS52.drewN | apply IsS52.drew | apply IsS52.set_1 | apply IsS52.set_2) | exact HI0.out)⟩, ⟨by repeat (first | (with_reducible first | exact HK.out | apply KeepBut.set_ | apply keep_drewN | apply keep_drew | apply keep_alloc) | exact HK.out)⟩, ⟨by repeat (first | (with_reducible first | exact HB.out | apply below_alloc | apply pw_below_drewN | apply below_drew1 | refine below_set ?_ (IsS52.ge HI0.out)) | exact HB.out)⟩⟩
 clear H'
 try clear c2
 try clear p2
 try clear c4
 try clear p6
 try clear c7
 try clear p2
 try clear p6
 obtain ⟨x3_2, x4_2, x5_2, x6_2, x1001_2, x1002_2, rfl, rfl, HA, HK2, HO_3, HO_4, HI0, HK, HB⟩ := hrel
 cases gk with
 | zero => exact absurd HA.out (by simp [spec_l1Cur_events.l0])
 | succ k2 => ?_
 have H := HA.out
 clear HA
 simp only [spec_l1Cur_events.l0] at H
 by_cases c10 : x6_2 > 0
 rotate_left
 ·rw [if_neg c10] at H
  have c10b0 : decide (0 < x6_2) = false := decide_eq_false c10
  clear c10
  replace H := Option.bind_eq_some_iff.mp H
  obtain ⟨⟨t163, t164, t165⟩, A640, H⟩ := H
  replace H : (if t163 = true then ((spec_l1Cur_pick.f s0_0 t164 t165 5).bind fun bt166 => ((spec_l1Cur_pick.f s0_0 bt166.2.1 bt166.2.2 8).bind fun bt169 => ((spec_l1Cur_pick.f s0_0 bt169.2.1 bt169.2.2 4).bind fun bt172 => (if x3_2.length < 5864062014805 then (some ((x3_2 ++ [(⟨bt166.1, wrap64 (bt169.1 - 1), bt172.1⟩ : S68)]), bt172.2.1, bt172.2.2)) else (none))))) else (some (x3_2, t164, t165))) = some (r1, r2, r3) := H
  have A64 := Aside0.mk A640
  clear A640
  by_cases c65 : t163 = true
  rotate_left
  ·replace c65 := Bool.eq_false_iff.mpr c65
   subst c65
   have H1 : (some (x3_2, t164, t165)) = some (r1, r2, r3) := by rw [if_neg (show ¬ (false = true) by decide)] at H; exact H
   clear H
   have H := H1
   clear H1
   simp only [Option.some.injEq, Prod.mk.injEq] at H
   obtain ⟨rfl, rfl, rfl⟩ := H
   go_wp2_with (first | ((with_reducible refine gate_callee (f := 23) rfl ?_); refine goesL_ (some 67) rfl rfl Try.func23 (by kernel_rfl) rfl #[.pointer (some ⟨g, 0, none⟩), .int .i64 30] rfl nc_ ?_; (with_reducible refine (spec_l1Cur_one.calls g s0_0 x1001_2 x1002_2 30 false t164 t165 w0 _ ?side1 ?side2 A64.out).mono ?_); (case side1 => repeat (first | (with_reducible first | exact HI0.out | apply IsS52.alloc | apply IsS52.drewN | apply IsS52.drew | apply IsS52.set_1 | apply IsS52.set_2) | exact HI0.out)); (case side2 => repeat (first | (with_reducible first | exact HB.out | apply below_alloc | apply pw_below_drewN | apply below_drew1 | refine below_set ?_ (IsS52.ge HI0.out)) | exact HB.out)); rintro e w75 ⟨rfl, hi, hb, hk⟩; refine ⟨_, rfl, ?_⟩; replace HO_3 := Aside0.mk (Kd.R_mono (Kd.R_keep (IsS52.apart (show IsS52 w0 _ g s0_0 x1001_2 x1002_2 from by repeat (first | (with_reducible first | exact HI0.out | apply IsS52.alloc | apply IsS52.drewN | apply IsS52.drew | apply IsS52.set_1 | apply IsS52.set_2) | exact HI0.out)) (kr_ HO_3.out) (by decide)) hk (fun _ h => h.2)) (fun _ h => h.1)); replace HO_4 := Aside0.mk (Kd.R_mono (Kd.R_keep (IsS52.apart (show IsS52 w0 _ g s0_0 x1001_2 x1002_2 from by repeat (first | (with_reducible first | exact HI0.out | apply IsS52.alloc | apply IsS52.drewN | apply IsS52.drew | apply IsS52.set_1 | apply IsS52.set_2) | exact HI0.out)) (kr_ HO_4.out) (by decide)) hk (fun _ h => h.2)) (fun _ h => h.1)); replace HK := Aside0.mk (KeepBut.trans (by repeat (first | (with_reducible first | exact HK.out | apply KeepBut.set_ | apply keep_drewN | apply keep_drew | apply keep_alloc) | exact HK.out)) hk (.inl rfl)); replace HB := Aside0.mk (hb); replace HI0 := Aside0.mk (hi); clear hb hk hi))
   go_ret
   exact ⟨_, ng_, by exact kr_ HO_3.out, by repeat (first | (with_reducible first | exact HI0.out | apply IsS52.alloc | apply IsS52.drewN | apply IsS52.drew | apply IsS52.set_1 | apply IsS52.set_2) | exact HI0.out), by repeat (first | (with_reducible first | exact HB.out | apply below_alloc | apply pw_below_drewN | apply below_drew1 | refine below_set ?_ (IsS52.ge HI0.out)) | exact HB.out), by repeat (first | (with_reducible first | exact HK.out | apply KeepBut.set_ | apply keep_drewN | apply keep_drew | apply keep_alloc) | exact HK.out)⟩
  subst c65
  have H1 : ((spec_l1Cur_pick.f s0_0 t164 t165 5).bind fun bt166 => ((spec_l1Cur_pick.f s0_0 bt166.2.1 bt166.2.2 8).bind fun bt169 => ((spec_l1Cur_pick.f s0_0 bt169.2.1 bt169.2.2 4).bind fun bt172 => (if x3_2.length < 5864062014805 then (some ((x3_2 ++ [(⟨bt166.1, wrap64 (bt169.1 - 1), bt172.1⟩ : S68)]), bt172.2.1, bt172.2.2)) else (none))))) = some (r1, r2, r3) := by rw [if_pos rfl] at H; exact H
  clear H
  have H := H1
  clear H1
  replace H := Option.bind_eq_some_iff.mp H
  obtain ⟨⟨t166, t167, t168⟩, A660, H⟩ := H
  replace H : ((spec_l1Cur_pick.f s0_0 t167 t168 8).bind fun bt169 => ((spec_l1Cur_pick.f s0_0 bt169.2.1 bt169.2.2 4).bind fun bt172 => (if x3_2.length < 5864062014805 then (some ((x3_2 ++ [(⟨t166, wrap64 (bt169.1 - 1), bt172.1⟩ : S68)]), bt172.2.1, bt172.2.2)) else (none)))) = some (r1, r2, r3) := H
  have A66 := Aside0.mk A660
  clear A660
  replace H := Option.bind_eq_some_iff.mp H
  obtain ⟨⟨t169, t170, t171⟩, A670, H⟩ := H
  replace H : ((spec_l1Cur_pick.f s0_0 t170 t171 4).bind fun bt172 => (if x3_2.length < 5864062014805 then (some ((x3_2 ++ [(⟨t166, wrap64 (t169 - 1), bt172.1⟩ : S68)]), bt172.2.1, bt172.2.2)) else (none))) = some (r1, r2, r3) := H
  have A67 := Aside0.mk A670
  clear A670
  replace H := Option.bind_eq_some_iff.mp H
  obtain ⟨⟨t172, t173, t174⟩, A680, H⟩ := H
  replace H : (if x3_2.length < 5864062014805 then (some ((x3_2 ++ [(⟨t166, wrap64 (t169 - 1), t172⟩ : S68)]), t173, t174)) else (none)) = some (r1, r2, r3) := H
  have A68 := Aside0.mk A680
  clear A680
  by_cases c69 : x3_2.length < 5864062014805
  rotate_left
  ·rw [if_neg c69] at H
   exact absurd H (by simp)
  rw [if_pos c69] at H
  have LMc69 := Aside0.mk c69
  clear c69
  obtain ⟨y175, hy175⟩ : ∃ y_ : List (S68), y_ = (x3_2 ++ [(⟨t166, wrap64 (t169 - 1), t172⟩ : S68)]) := ⟨_, rfl⟩
  replace H : (some (y175, t173, t174)) = some (r1, r2, r3) := by first | (rw [hy175]; with_reducible exact H) | (have H2_ := (Option.bind_some _ _).symm.trans H; rw [hy175]; with_reducible exact H2_) | (have H2_ := (Option.bind_some _ _).symm.trans H; with_reducible exact H2_) | with_reducible exact H | (rw [hy175]; exact H) | exact H
  have Ny175 := Aside0.mk hy175
  clear hy175
  simp only [Option.some.injEq, Prod.mk.injEq] at H
  obtain ⟨rfl, rfl, rfl⟩ := H
  go_wp2_with (first | ((with_reducible refine gate_callee (f := 23) rfl ?_); refine goesL_ (some 67) rfl rfl Try.func23 (by kernel_rfl) rfl #[.pointer (some ⟨g, 0, none⟩), .int .i64 30] rfl nc_ ?_; (with_reducible refine (spec_l1Cur_one.calls g s0_0 x1001_2 x1002_2 30 true t164 t165 w0 _ ?side1 ?side2 A64.out).mono ?_); (case side1 => repeat (first | (with_reducible first | exact HI0.out | apply IsS52.alloc | apply IsS52.drewN | apply IsS52.drew | apply IsS52.set_1 | apply IsS52.set_2) | exact HI0.out)); (case side2 => repeat (first | (with_reducible first | exact HB.out | apply below_alloc | apply pw_below_drewN | apply below_drew1 | refine below_set ?_ (IsS52.ge HI0.out)) | exact HB.out)); rintro e w70 ⟨rfl, hi, hb, hk⟩; refine ⟨_, rfl, ?_⟩; replace HO_3 := Aside0.mk (Kd.R_mono (Kd.R_keep (IsS52.apart (show IsS52 w0 _ g s0_0 x1001_2 x1002_2 from by repeat (first | (with_reducible first | exact HI0.out | apply IsS52.alloc | apply IsS52.drewN | apply IsS52.drew | apply IsS52.set_1 | apply IsS52.set_2) | exact HI0.out)) (kr_ HO_3.out) (by decide)) hk (fun _ h => h.2)) (fun _ h => h.1)); replace HO_4 := Aside0.mk (Kd.R_mono (Kd.R_keep (IsS52.apart (show IsS52 w0 _ g s0_0 x1001_2 x1002_2 from by repeat (first | (with_reducible first | exact HI0.out | apply IsS52.alloc | apply IsS52.drewN | apply IsS52.drew | apply IsS52.set_1 | apply IsS52.set_2) | exact HI0.out)) (kr_ HO_4.out) (by decide)) hk (fun _ h => h.2)) (fun _ h => h.1)); replace HK := Aside0.mk (KeepBut.trans (by repeat (first | (with_reducible first | exact HK.out | apply KeepBut.set_ | apply keep_drewN | apply keep_drew | apply keep_alloc) | exact HK.out)) hk (.inl rfl)); replace HB := Aside0.mk (hb); replace HI0 := Aside0.mk (hi); clear hb hk hi) | ((with_reducible refine gate_callee (f := 22) rfl ?_); refine goesL_ (some 70) rfl rfl Try.func22 (by kernel_rfl) rfl #[.pointer (some ⟨g, 0, none⟩), .int .i64 5] rfl nc_ ?_; (with_reducible refine (spec_l1Cur_pick.calls g s0_0 t164 t165 5 t166 t167 t168 w0 _ ?side1 ?side2 A66.out).mono ?_); (case side1 => repeat (first | (with_reducible first | exact HI0.out | apply IsS52.alloc | apply IsS52.drewN | apply IsS52.drew | apply IsS52.set_1 | apply IsS52.set_2) | exact HI0.out)); (case side2 => repeat (first | (with_reducible first | exact HB.out | apply below_alloc | apply pw_below_drewN | apply below_drew1 | refine below_set ?_ (IsS52.ge HI0.out)) | exact HB.out)); rintro e w71 ⟨rfl, hi, hb, hk⟩; refine ⟨_, rfl, ?_⟩; replace HO_3 := Aside0.mk (Kd.R_mono (Kd.R_keep (IsS52.apart (show IsS52 w0 _ g s0_0 t164 t165 from by repeat (first | (with_reducible first | exact HI0.out | apply IsS52.alloc | apply IsS52.drewN | apply IsS52.drew | apply IsS52.set_1 | apply IsS52.set_2) | exact HI0.out)) (kr_ HO_3.out) (by decide)) hk (fun _ h => h.2)) (fun _ h => h.1)); replace HO_4 := Aside0.mk (Kd.R_mono (Kd.R_keep (IsS52.apart (show IsS52 w0 _ g s0_0 t164 t165 from by repeat (first | (with_reducible first | exact HI0.out | apply IsS52.alloc | apply IsS52.drewN | apply IsS52.drew | apply IsS52.set_1 | apply IsS52.set_2) | exact HI0.out)) (kr_ HO_4.out) (by decide)) hk (fun _ h => h.2)) (fun _ h => h.1)); replace HK := Aside0.mk (KeepBut.trans (by repeat (first | (with_reducible first | exact HK.out | apply KeepBut.set_ | apply keep_drewN | apply keep_drew | apply keep_alloc) | exact HK.out)) hk (.inl rfl)); replace HB := Aside0.mk (hb); replace HI0 := Aside0.mk (hi); clear hb hk hi) | ((with_reducible refine gate_callee (f := 22) rfl ?_); refine goesL_ (some 72) rfl rfl Try.func22 (by kernel_rfl) rfl #[.pointer (some ⟨g, 0, none⟩), .int .i64 8] rfl nc_ ?_; (with_reducible refine (spec_l1Cur_pick.calls g s0_0 t167 t168 8 t169 t170 t171 w0 _ ?side1 ?side2 A67.out).mono ?_); (case side1 => repeat (first | (with_reducible first | exact HI0.out | apply IsS52.alloc | apply IsS52.drewN | apply IsS52.drew | apply IsS52.set_1 | apply IsS52.set_2) | exact HI0.out)); (case side2 => repeat (first | (with_reducible first | exact HB.out | apply below_alloc | apply pw_below_drewN | apply below_drew1 | refine below_set ?_ (IsS52.ge HI0.out)) | exact HB.out)); rintro e w72 ⟨rfl, hi, hb, hk⟩; refine ⟨_, rfl, ?_⟩; replace HO_3 := Aside0.mk (Kd.R_mono (Kd.R_keep (IsS52.apart (show IsS52 w0 _ g s0_0 t167 t168 from by repeat (first | (with_reducible first | exact HI0.out | apply IsS52.alloc | apply IsS52.drewN | apply IsS52.drew | apply IsS52.set_1 | apply IsS52.set_2) | exact HI0.out)) (kr_ HO_3.out) (by decide)) hk (fun _ h => h.2)) (fun _ h => h.1)); replace HO_4 := Aside0.mk (Kd.R_mono (Kd.R_keep (IsS52.apart (show IsS52 w0 _ g s0_0 t167 t168 from by repeat (first | (with_reducible first | exact HI0.out | apply IsS52.alloc | apply IsS52.drewN | apply IsS52.drew | apply IsS52.set_1 | apply IsS52.set_2) | exact HI0.out)) (kr_ HO_4.out) (by decide)) hk (fun _ h => h.2)) (fun _ h => h.1)); replace HK := Aside0.mk (KeepBut.trans (by repeat (first | (with_reducible first | exact HK.out | apply KeepBut.set_ | apply keep_drewN | apply keep_drew | apply keep_alloc) | exact HK.out)) hk (.inl rfl)); replace HB := Aside0.mk (hb); replace HI0 := Aside0.mk (hi); clear hb hk hi) | ((with_reducible refine gate_callee (f := 22) rfl ?_); refine goesL_ (some 75) rfl rfl Try.func22 (by kernel_rfl) rfl #[.pointer (some ⟨g, 0, none⟩), .int .i64 4] rfl nc_ ?_; (with_reducible refine (spec_l1Cur_pick.calls g s0_0 t170 t171 4 t172 t173 t174 w0 _ ?side1 ?side2 A68.out).mono ?_); (case side1 => repeat (first | (with_reducible first | exact HI0.out | apply IsS52.alloc | apply IsS52.drewN | apply IsS52.drew | apply IsS52.set_1 | apply IsS52.set_2) | exact HI0.out)); (case side2 => repeat (first | (with_reducible first | exact HB.out | apply below_alloc | apply pw_below_drewN | apply below_drew1 | refine below_set ?_ (IsS52.ge HI0.out)) | exact HB.out)); rintro e w73 ⟨rfl, hi, hb, hk⟩; refine ⟨_, rfl, ?_⟩; replace HO_3 := Aside0.mk (Kd.R_mono (Kd.R_keep (IsS52.apart (show IsS52 w0 _ g s0_0 t170 t171 from by repeat (first | (with_reducible first | exact HI0.out | apply IsS52.alloc | apply IsS52.drewN | apply IsS52.drew | apply IsS52.set_1 | apply IsS52.set_2) | exact HI0.out)) (kr_ HO_3.out) (by decide)) hk (fun _ h => h.2)) (fun _ h => h.1)); replace HO_4 := Aside0.mk (Kd.R_mono (Kd.R_keep (IsS52.apart (show IsS52 w0 _ g s0_0 t170 t171 from by repeat (first | (with_reducible first | exact HI0.out | apply IsS52.alloc | apply IsS52.drewN | apply IsS52.drew | apply IsS52.set_1 | apply IsS52.set_2) | exact HI0.out)) (kr_ HO_4.out) (by decide)) hk (fun _ h => h.2)) (fun _ h => h.1)); replace HK := Aside0.mk (KeepBut.trans (by repeat (first | (with_reducible first | exact HK.out | apply KeepBut.set_ | apply keep_drewN | apply keep_drew | apply keep_alloc) | exact HK.out)) hk (.inl rfl)); replace HB := Aside0.mk (hb); replace HI0 := Aside0.mk (hi); clear hb hk hi) | ((with_reducible refine gate_builtin (b := .append) (xs := #[.tmp 68, .tmp 77]) rfl ?_); at_builtin; refine Kd.R_append k68 w.heap.size rfl (.tmp 68) (.tmp 77) 42 68 (.agg #[(.int .i64 0), (.int .i64 0), (.int .i64 0)]) 24 rfl Try.underlying42 info68 rfl (by decide) (by omega) u3 x3_2 (⟨t166, wrap64 (t169 - 1), t172⟩ : S68) [.int .i64 t166, .int .i64 (wrap64 (t169 - 1)), .int .i64 t172] (fun _ => True) (fun _ => False) rfl rfl ?aP (fun _ hk => hk.elim) ?aF ?aO (Below.refl _ _) ?aS ?aL ?_; (case aP => exact k68_mkM _ _ _ (⟨t166, wrap64 (t169 - 1), t172⟩ : S68)); (case aF => exact (fun _ _ => trivial)); (case aO => exact (kr_ HO_3.out)); (case aS => exact (keep_size (w := w) (g := g) (row := none) (by repeat (first | (with_reducible first | exact HK.out | apply KeepBut.set_ | apply keep_drewN | apply keep_drew | apply keep_alloc) | exact HK.out)))); (case aL => have := LMc69.out; omega); intro v176 w74 ho hb hg hat; rw [← Ny175.out] at ho; replace HO_4 := Aside0.mk (Kd.R_over' (kr_ HO_4.out) (Kd.R_typed (kr_ HO_3.out)) (by decide) hg); replace HB := Aside0.mk (below_weaken (by repeat (first | (with_reducible first | exact HB.out | apply below_alloc | apply pw_below_drewN | apply below_drew1 | refine below_set ?_ (IsS52.ge HI0.out)) | exact HB.out)) HL.out hb); replace HI0 := Aside0.mk (IsS52.grown (by repeat (first | (with_reducible first | exact HI0.out | apply IsS52.alloc | apply IsS52.drewN | apply IsS52.drew | apply IsS52.set_1 | apply IsS52.set_2) | exact HI0.out)) hg (IsS52.own_ne HI0.out HO_3.out (by decide))); replace HK := Aside0.mk (KeepBut.trans (by repeat (first | (with_reducible first | exact HK.out | apply KeepBut.set_ | apply keep_drewN | apply keep_drew | apply keep_alloc) | exact HK.out)) (KeepBut.of_grown hg g) (Kd.R_base2 HO_3.out)); have HO177 := Aside0.mk (ho); clear HO_3 ho hb hg hat))
  go_ret
  exact ⟨_, ng_, by exact kr_ HO177.out, by repeat (first | (with_reducible first | exact HI0.out | apply IsS52.alloc | apply IsS52.drewN | apply IsS52.drew | apply IsS52.set_1 | apply IsS52.set_2) | exact HI0.out), by repeat (first | (with_reducible first | exact HB.out | apply below_alloc | apply pw_below_drewN | apply below_drew1 | refine below_set ?_ (IsS52.ge HI0.out)) | exact HB.out), by repeat (first | (with_reducible first | exact HK.out | apply KeepBut.set_ | apply keep_drewN | apply keep_drew | apply keep_alloc) | exact HK.out)⟩
 rw [if_pos c10] at H
 have c10b0 : decide (0 < x6_2) = true := decide_eq_true c10
 clear c10
 replace H := Option.bind_eq_some_iff.mp H
 obtain ⟨⟨t120, t121, t122⟩, A110, H⟩ := H
 replace H : ((spec_l1Cur_pick.f s0_0 t121 t122 4).bind fun bt124 => (if bt124.1 = 0 then (spec_l1Cur_events.j2 k2 x3_2 x4_2 x5_2 x6_2 bt124.1 (bt124.1 == 0) s0_0 bt124.2.1 bt124.2.2 1 t120 0) else (spec_l1Cur_events.j2 k2 x3_2 x4_2 x5_2 x6_2 bt124.1 (bt124.1 == 1) s0_0 bt124.2.1 bt124.2.2 1 t120 0))) = some (r1, r2, r3) := H
 have A11 := Aside0.mk A110
 clear A110
 replace H := Option.bind_eq_some_iff.mp H
 obtain ⟨⟨t124, t125, t126⟩, A120, H⟩ := H
 replace H : (if t124 = 0 then (spec_l1Cur_events.j2 k2 x3_2 x4_2 x5_2 x6_2 t124 (t124 == 0) s0_0 t125 t126 1 t120 0) else (spec_l1Cur_events.j2 k2 x3_2 x4_2 x5_2 x6_2 t124 (t124 == 1) s0_0 t125 t126 1 t120 0)) = some (r1, r2, r3) := H
 have A12 := Aside0.mk A120
 clear A120
 have HC13 := Aside0.mk H
 clear H
 go_upto_if 25 with (first | ((with_reducible refine gate_callee (f := 22) rfl ?_); refine goesL_ (some 21) rfl rfl Try.func22 (by kernel_rfl) rfl #[.pointer (some ⟨g, 0, none⟩), .int .i64 4] rfl nc_ ?_; (with_reducible refine (spec_l1Cur_pick.calls g s0_0 x1001_2 x1002_2 4 t120 t121 t122 w0 _ ?side1 ?side2 A11.out).mono ?_); (case side1 => repeat (first | (with_reducible first | exact HI0.out | apply IsS52.alloc | apply IsS52.drewN | apply IsS52.drew | apply IsS52.set_1 | apply IsS52.set_2) | exact HI0.out)); (case side2 => repeat (first | (with_reducible first | exact HB.out | apply below_alloc | apply pw_below_drewN | apply below_drew1 | refine below_set ?_ (IsS52.ge HI0.out)) | exact HB.out)); rintro e w14 ⟨rfl, hi, hb, hk⟩; refine ⟨_, rfl, ?_⟩; replace HO_3 := Aside0.mk (Kd.R_mono (Kd.R_keep (IsS52.apart (show IsS52 w0 _ g s0_0 x1001_2 x1002_2 from by repeat (first | (with_reducible first | exact HI0.out | apply IsS52.alloc | apply IsS52.drewN | apply IsS52.drew | apply IsS52.set_1 | apply IsS52.set_2) | exact HI0.out)) (kr_ HO_3.out) (by decide)) hk (fun _ h => h.2)) (fun _ h => h.1)); replace HO_4 := Aside0.mk (Kd.R_mono (Kd.R_keep (IsS52.apart (show IsS52 w0 _ g s0_0 x1001_2 x1002_2 from by repeat (first | (with_reducible first | exact HI0.out | apply IsS52.alloc | apply IsS52.drewN | apply IsS52.drew | apply IsS52.set_1 | apply IsS52.set_2) | exact HI0.out)) (kr_ HO_4.out) (by decide)) hk (fun _ h => h.2)) (fun _ h => h.1)); replace HK := Aside0.mk (KeepBut.trans (by repeat (first | (with_reducible first | exact HK.out | apply KeepBut.set_ | apply keep_drewN | apply keep_drew | apply keep_alloc) | exact HK.out)) hk (.inl rfl)); replace HB := Aside0.mk (hb); replace HI0 := Aside0.mk (hi); clear hb hk hi) | ((with_reducible refine gate_dst (N := 7) rfl ?_); refine box_event rfl (N := 7) rfl (cs := #[.int .i64 0, .int .i64 0, .int .i64 0]) (t := 68) gs_ ?_; intro gb123 hg w15 hbox hb; replace HO_3 := Aside0.mk (Kd.R_below (Kd.R_elderB (kr_ HO_3.out) gb123 (Nat.le_of_eq hg.symm)) hb); replace HO_4 := rb_ HO_4 hb; replace HB := Aside0.mk (below_step (by repeat (first | (with_reducible first | exact HB.out | apply below_alloc | apply pw_below_drewN | apply below_drew1 | refine below_set ?_ (IsS52.ge HI0.out)) | exact HB.out)) hb); have BK123 := Aside0.mk (hbox); have GW123 := Aside0.mk ((by rw [hg]; exact (keep_size (w := w) (g := g) (row := none) (by repeat (first | (with_reducible first | exact HK.out | apply KeepBut.set_ | apply keep_drewN | apply keep_drew | apply keep_alloc) | exact HK.out))) : w.heap.size ≤ gb123)); have GE123 := Aside0.mk ((Nat.le_trans HW0.out (by rw [hg]; exact (keep_size (w := w) (g := g) (row := none) (by repeat (first | (with_reducible first | exact HK.out | apply KeepBut.set_ | apply keep_drewN | apply keep_drew | apply keep_alloc) | exact HK.out))) : w.heap.size ≤ gb123) : w0.heap.size ≤ gb123)); replace HK := Aside0.mk (KeepBut.trans (by repeat (first | (with_reducible first | exact HK.out | apply KeepBut.set_ | apply keep_drewN | apply keep_drew | apply keep_alloc) | exact HK.out)) (KeepBut.of_below hb g none) (.inl rfl)); have NB0_123 := Aside0.mk ((by rw [hg]; exact Nat.ne_of_lt (IsS52.lt (show IsS52 w0 _ g s0_0 t121 t122 from by repeat (first | (with_reducible first | exact HI0.out | apply IsS52.alloc | apply IsS52.drewN | apply IsS52.drew | apply IsS52.set_1 | apply IsS52.set_2) | exact HI0.out))) : g ≠ gb123)); have NB123_0 := Aside0.mk ((by rw [hg]; exact Nat.ne_of_gt (IsS52.lt (show IsS52 w0 _ g s0_0 t121 t122 from by repeat (first | (with_reducible first | exact HI0.out | apply IsS52.alloc | apply IsS52.drewN | apply IsS52.drew | apply IsS52.set_1 | apply IsS52.set_2) | exact HI0.out))) : gb123 ≠ g)); replace HI0 := Aside0.mk (IsS52.below (by repeat (first | (with_reducible first | exact HI0.out | apply IsS52.alloc | apply IsS52.drewN | apply IsS52.drew | apply IsS52.set_1 | apply IsS52.set_2) | exact HI0.out)) hb); clear hb hbox hg; have hnb16 := NB123_0.out; have hnc16 := NB0_123.out; have hcz17_0 : w15.cell? ⟨gb123, 0, none⟩ = some (.int .i64 0) := bc_ BK123.out 0; have hcz17_1 : w15.cell? ⟨gb123, 1, none⟩ = some (.int .i64 0) := bc_ BK123.out 1; have hcz17_2 : w15.cell? ⟨gb123, 2, none⟩ = some (.int .i64 0) := bc_ BK123.out 2; have hfz17_0 := blk_frozen BK123.out 0; have hfz17_1 := blk_frozen BK123.out 1; have hfz17_2 := blk_frozen BK123.out 2) | ((with_reducible refine gate_callee (f := 22) rfl ?_); refine goesL_ (some 24) rfl rfl Try.func22 (by kernel_rfl) rfl #[.pointer (some ⟨g, 0, none⟩), .int .i64 4] rfl nc_ ?_; (with_reducible refine (spec_l1Cur_pick.calls g s0_0 t121 t122 4 t124 t125 t126 w0 _ ?side1 ?side2 A12.out).mono ?_); (case side1 => repeat (first | (with_reducible first | exact HI0.out | apply IsS52.alloc | apply IsS52.drewN | apply IsS52.drew | apply IsS52.set_1 | apply IsS52.set_2 | apply IsS52.far4_ NB0_123.out) | exact HI0.out)); (case side2 => repeat (first | (with_reducible first | exact HB.out | apply below_alloc | apply pw_below_drewN | apply below_drew1 | refine below_set ?_ (IsS52.ge HI0.out) | refine below_set ?_ GE123.out) | exact HB.out)); rintro e w18 ⟨rfl, hi, hb, hk⟩; refine ⟨_, rfl, ?_⟩; replace HO_3 := Aside0.mk (Kd.R_mono (Kd.R_keep (IsS52.apart (show IsS52 w0 _ g s0_0 t121 t122 from by repeat (first | (with_reducible first | exact HI0.out | apply IsS52.alloc | apply IsS52.drewN | apply IsS52.drew | apply IsS52.set_1 | apply IsS52.set_2 | apply IsS52.far4_ NB0_123.out) | exact HI0.out)) (by exact kr_ ((Kd.R_mono (Kd.R_far (p := ⟨gb123, 2, none⟩) (Kd.R_far (p := ⟨gb123, 1, none⟩) (Kd.R_far (p := ⟨gb123, 0, none⟩) (Kd.R_mono HO_3.out (fun k_ hk => (⟨hk, hk.2⟩ : _ ∧ k_ ≠ gb123))) (fun _ hk => hk.2) (.int .i64 1)) (fun _ hk => hk.2) (.int .i64 t120)) (fun _ hk => hk.2) (.int .i64 0)) (fun _ h_ => h_.1)))) (by decide)) hk (fun _ h => h.2)) (fun _ h => h.1)); replace HO_4 := Aside0.mk (Kd.R_mono (Kd.R_keep (IsS52.apart (show IsS52 w0 _ g s0_0 t121 t122 from by repeat (first | (with_reducible first | exact HI0.out | apply IsS52.alloc | apply IsS52.drewN | apply IsS52.drew | apply IsS52.set_1 | apply IsS52.set_2 | apply IsS52.far4_ NB0_123.out) | exact HI0.out)) (by exact kr_ ((Kd.R_mono (Kd.R_far (p := ⟨gb123, 2, none⟩) (Kd.R_far (p := ⟨gb123, 1, none⟩) (Kd.R_far (p := ⟨gb123, 0, none⟩) (Kd.R_types HO_4.out BK123.out (by decide)) (fun _ hk => hk.2) (.int .i64 1)) (fun _ hk => hk.2) (.int .i64 t120)) (fun _ hk => hk.2) (.int .i64 0)) (fun _ h_ => h_.1)))) (by decide)) hk (fun _ h => h.2)) (fun _ h => h.1)); replace BK123 := Aside0.mk (KeepBut.blk hk (g' := gb123) (o := .cells #[.int .i64 1, .int .i64 t120, .int .i64 0] 68 (0, 0)) (by (with_reducible repeat (first | refine blk_drewN ?_ _ | refine blk_drew ?_ | refine blk_alloc ?_ _)); refine blk_put (cs := #[.int .i64 1, .int .i64 t120, .int .i64 0]) ?_ 2 _ rfl; (with_reducible repeat (first | refine blk_drewN ?_ _ | refine blk_drew ?_ | refine blk_alloc ?_ _)); refine blk_put (cs := #[.int .i64 1, .int .i64 0, .int .i64 0]) ?_ 1 _ rfl; (with_reducible repeat (first | refine blk_drewN ?_ _ | refine blk_drew ?_ | refine blk_alloc ?_ _)); refine blk_put (cs := #[.int .i64 0, .int .i64 0, .int .i64 0]) ?_ 0 _ rfl; exact kb_ BK123.out) NB123_0.out (by simp)); replace HK := Aside0.mk (KeepBut.trans (by repeat (first | (with_reducible first | exact HK.out | apply KeepBut.set_ | apply keep_drewN | apply keep_drew | apply keep_alloc | refine keep_far ?_ GW123.out _) | exact HK.out)) hk (.inl rfl)); replace HB := Aside0.mk (hb); replace HI0 := Aside0.mk (hi); clear hb hk hi))
 (try simp only [Act.put, List.setIfInBounds_toArray, List.set_cons_zero, List.set_cons_succ])
 go_cut [25] (fun v25 wc => ∃ (kq : Nat) (x25_12 : Bool), v25 = .bool x25_12 ∧ Aside0 (spec_l1Cur_events.j2 kq x3_2 x4_2 x5_2 x6_2 t124 x25_12 s0_0 t125 t126 1 t120 0 = some (r1, r2, r3)) ∧ Aside0 (kq ≤ k2) ∧ Aside0 (Kd.R k68 68 wc w.heap.size (fun k_ => k_ ≠ gb123) u3 x3_2) ∧ Aside0 (Kd.R (Kd.int .i64) 3 wc w.heap.size (fun _ => True) u4 x4_2) ∧ Aside0 (wc.heap[gb123]? = some (.cells #[.int .i64 1, .int .i64 t120, .int .i64 0] 68 (0, 0))) ∧ Aside0 (IsS52 w0 wc g s0_0 t125 t126) ∧ Aside0 (KeepBut w wc g none) ∧ Aside0 (Below w0.heap.size w0 wc))
 case first =>
  have H := HC13.out
  clear HC13
  by_cases c19 : t124 = 0
  rotate_left
  ·rw [if_neg c19] at H
   have c19b0 : (t124 == 0) = false := beq_eq_false_iff_ne.mpr c19
   have c19b1 : (t124 != 0) = true := bne_iff_ne.mpr c19
   (first | rw [c19b0] | (simp only [i64_w, i32_w]; rw [c19b0]) | skip)
   have H' := Aside0.mk H
   clear H
   go_wp2
   go_meet
   case rel => exact ⟨_, ((t124 == 1)), (by first | rfl | (simp; done) | (simp [*]; done)), H', ⟨by have := HJ3.out; have := HK2.out; first | omega | exact Nat.le_refl _⟩, ⟨kp_ HO_3.out⟩, ⟨by exact kr_ HO_4.out⟩, ⟨by exact kb_ BK123.out⟩, ⟨by repeat (first | (with_reducible first | exact HI0.out | apply IsS52.alloc | apply IsS52.drewN | apply IsS52.drew | apply IsS52.set_1 | apply IsS52.set_2 | apply IsS52.far4_ NB0_123.out) | exact HI0.out)⟩, ⟨by repeat (first | (with_reducible first | exact HK.out | apply KeepBut.set_ | apply keep_drewN | apply keep_drew | apply keep_alloc | refine keep_far ?_ GW123.out _) | exact HK.out)⟩, ⟨by repeat (first | (with_reducible first | exact HB.out | apply below_alloc | apply pw_below_drewN | apply below_drew1 | refine below_set ?_ (IsS52.ge HI0.out) | refine below_set ?_ GE123.out) | exact HB.out)⟩⟩
  rw [if_pos c19] at H
  have c19b0 : (t124 == 0) = true := beq_iff_eq.mpr c19
  have c19b1 : (t124 != 0) = false := bne_eq_false_iff_eq.mpr c19
  clear c19
  (first | rw [c19b0] | (simp only [i64_w, i32_w]; rw [c19b0]) | skip)
  have H' := Aside0.mk H
  clear H
  go_wp2
  go_meet
  case rel => exact ⟨_, ((t124 == 0)), (by first | rfl | (simp; done) | (simp [*]; done)), H', ⟨by have := HJ3.out; have := HK2.out; first | omega | exact Nat.le_refl _⟩, ⟨kp_ HO_3.out⟩, ⟨by exact kr_ HO_4.out⟩, ⟨by exact kb_ BK123.out⟩, ⟨by repeat (first | (with_reducible first | exact HI0.out | apply IsS52.alloc | apply IsS52.drewN | apply IsS52.drew | apply IsS52.set_1 | apply IsS52.set_2 | apply IsS52.far4_ NB0_123.out) | exact HI0.out)⟩, ⟨by repeat (first | (with_reducible first | exact HK.out | apply KeepBut.set_ | apply keep_drewN | apply keep_drew | apply keep_alloc | refine keep_far ?_ GW123.out _) | exact HK.out)⟩, ⟨by repeat (first | (with_reducible first | exact HB.out | apply below_alloc | apply pw_below_drewN | apply below_drew1 | refine below_set ?_ (IsS52.ge HI0.out) | refine below_set ?_ GE123.out) | exact HB.out)⟩⟩
 clear HC13
 try clear c1
 try clear c2
 try clear p2
 try clear c4
 try clear p6
 try clear c7
 try clear c10
 try clear c10b0
 try clear c16
 try clear c19
 try clear c19b0
 try clear c19b1
 try clear hcz17_0
 try clear hcz17_1
 try clear hcz17_2
 try clear hfz17_0
 try clear hfz17_1
 try clear hfz17_2
 try clear p2
 try clear p6
 obtain ⟨kq, x25_12, rfl, HA, HJ12, HO_3, HO_4, BK123, HI0, HK, HB⟩ := hcut
 cases kq with
 | zero => exact absurd HA.out (by simp [spec_l1Cur_events.j2])
 | succ kj12 => ?_
 have H := HA.out
 clear HA
 simp only [spec_l1Cur_events.j2] at H
 by_cases c20 : x25_12 = true
 ·subst c20
  have H1 : (if x4_2.length < 17592186044416 then (if x3_2.length < 5864062014805 then (spec_l1Cur_events.l0 kj12 (x3_2 ++ [(⟨2, t120, x5_2⟩ : S68)]) (x4_2 ++ [x5_2]) (wrap64 (x5_2 + 1)) (wrap64 (x6_2 - 1)) s0_0 t125 t126) else (none)) else (none)) = some (r1, r2, r3) := by rw [if_pos rfl] at H; exact H
  clear H
  have H := H1
  clear H1
  by_cases c21 : x4_2.length < 17592186044416
  rotate_left
  ·rw [if_neg c21] at H
   exact absurd H (by simp)
  rw [if_pos c21] at H
  have LMc21 := Aside0.mk c21
  clear c21
  obtain ⟨y127, hy127⟩ : ∃ y_ : List Int, y_ = (x4_2 ++ [x5_2]) := ⟨_, rfl⟩
  replace H : (if x3_2.length < 5864062014805 then (spec_l1Cur_events.l0 kj12 (x3_2 ++ [(⟨2, t120, x5_2⟩ : S68)]) y127 (wrap64 (x5_2 + 1)) (wrap64 (x6_2 - 1)) s0_0 t125 t126) else (none)) = some (r1, r2, r3) := by first | (rw [hy127]; with_reducible exact H) | (have H2_ := (Option.bind_some _ _).symm.trans H; rw [hy127]; with_reducible exact H2_) | (have H2_ := (Option.bind_some _ _).symm.trans H; with_reducible exact H2_) | with_reducible exact H | (rw [hy127]; exact H) | exact H
  have Ny127 := Aside0.mk hy127
  clear hy127
  by_cases c22 : x3_2.length < 5864062014805
  rotate_left
  ·rw [if_neg c22] at H
   exact absurd H (by simp)
  rw [if_pos c22] at H
  have LMc22 := Aside0.mk c22
  clear c22
  obtain ⟨y130, hy130⟩ : ∃ y_ : List (S68), y_ = (x3_2 ++ [(⟨2, t120, x5_2⟩ : S68)]) := ⟨_, rfl⟩
  replace H : (spec_l1Cur_events.l0 kj12 y130 y127 (wrap64 (x5_2 + 1)) (wrap64 (x6_2 - 1)) s0_0 t125 t126) = some (r1, r2, r3) := by first | (rw [hy130]; with_reducible exact H) | (have H2_ := (Option.bind_some _ _).symm.trans H; rw [hy130]; with_reducible exact H2_) | (have H2_ := (Option.bind_some _ _).symm.trans H; with_reducible exact H2_) | with_reducible exact H | (rw [hy130]; exact H) | exact H
  have Ny130 := Aside0.mk hy130
  clear hy130
  have H' := Aside0.mk H
  clear H
  have hnb23 := NB123_0.out
  have hnc23 := NB0_123.out
  have hcz24_0 : wc.cell? ⟨gb123, 0, none⟩ = some (.int .i64 1) := bc_ BK123.out 0
  have hcz24_1 : wc.cell? ⟨gb123, 1, none⟩ = some (.int .i64 t120) := bc_ BK123.out 1
  have hcz24_2 : wc.cell? ⟨gb123, 2, none⟩ = some (.int .i64 0) := bc_ BK123.out 2
  have hfz24_0 := blk_frozen BK123.out 0
  have hfz24_1 := blk_frozen BK123.out 1
  have hfz24_2 := blk_frozen BK123.out 2
  go_wp2_with (first | ((with_reducible refine gate_builtin (b := .append) (xs := #[.tmp 31, .tmp 33]) rfl ?_); at_builtin; refine Kd.R_append (Kd.int .i64) w.heap.size rfl (.tmp 31) (.tmp 33) 44 3 (.int .i64 0) 8 rfl Try.underlying44 info3 rfl (by decide) (by omega) u4 x4_2 x5_2 [.int .i64 x5_2] (fun _ => True) (fun _ => False) rfl (by first | (go_simp; done) | (go_simp; rfl)) ?aP (fun _ hk => hk.elim) ?aF ?aO (Below.refl _ _) ?aS ?aL ?_; (case aP => exact rfl); (case aF => exact (fun _ _ => trivial)); (case aO => exact (by exact kr_ (Kd.R_mono (Kd.R_far (p := ⟨gb123, 2, none⟩) (Kd.R_far (p := ⟨gb123, 0, none⟩) (Kd.R_types HO_4.out BK123.out (by decide)) (fun _ hk => hk.2) (.int .i64 2)) (fun _ hk => hk.2) (.int .i64 x5_2)) (fun _ hk => trivial)))); (case aS => exact (keep_size (w := w) (g := g) (row := none) (by repeat (first | (with_reducible first | exact HK.out | apply KeepBut.set_ | apply keep_drewN | apply keep_drew | apply keep_alloc | refine keep_far ?_ GW123.out _) | exact HK.out)))); (case aL => have := LMc21.out; omega); intro v128 w25 ho hb hg hat; rw [← Ny127.out] at ho; replace HO_3 := Aside0.mk (Kd.R_over' (by exact kr_ ((Kd.R_mono (Kd.R_far (p := ⟨gb123, 2, none⟩) (Kd.R_far (p := ⟨gb123, 0, none⟩) (Kd.R_mono HO_3.out (fun k_ hk => (⟨hk, hk⟩ : _ ∧ k_ ≠ gb123))) (fun _ hk => hk.2) (.int .i64 2)) (fun _ hk => hk.2) (.int .i64 x5_2)) (fun _ h_ => h_.1)))) (Kd.R_typed (by exact kr_ ((Kd.R_mono (Kd.R_far (p := ⟨gb123, 2, none⟩) (Kd.R_far (p := ⟨gb123, 0, none⟩) (Kd.R_types HO_4.out BK123.out (by decide)) (fun _ hk => hk.2) (.int .i64 2)) (fun _ hk => hk.2) (.int .i64 x5_2)) (fun _ h_ => h_.1))))) (by decide) hg); replace BK123 := Aside0.mk (blk_grown (g := gb123) (o := .cells #[.int .i64 2, .int .i64 t120, .int .i64 x5_2] 68 (0, 0)) (by (with_reducible repeat (first | refine blk_drewN ?_ _ | refine blk_drew ?_ | refine blk_alloc ?_ _)); refine blk_put (cs := #[.int .i64 2, .int .i64 t120, .int .i64 0]) ?_ 2 _ rfl; (with_reducible repeat (first | refine blk_drewN ?_ _ | refine blk_drew ?_ | refine blk_alloc ?_ _)); refine blk_put (cs := #[.int .i64 1, .int .i64 t120, .int .i64 0]) ?_ 0 _ rfl; exact kb_ BK123.out) hg (Kd.R_ne HO_4.out BK123.out (by decide))); replace HB := Aside0.mk (below_weaken (by repeat (first | (with_reducible first | exact HB.out | apply below_alloc | apply pw_below_drewN | apply below_drew1 | refine below_set ?_ (IsS52.ge HI0.out) | refine below_set ?_ GE123.out) | exact HB.out)) HL.out hb); replace HI0 := Aside0.mk (IsS52.grown (by repeat (first | (with_reducible first | exact HI0.out | apply IsS52.alloc | apply IsS52.drewN | apply IsS52.drew | apply IsS52.set_1 | apply IsS52.set_2 | apply IsS52.far4_ NB0_123.out) | exact HI0.out)) hg (IsS52.own_ne HI0.out HO_4.out (by decide))); replace HK := Aside0.mk (KeepBut.trans (by repeat (first | (with_reducible first | exact HK.out | apply KeepBut.set_ | apply keep_drewN | apply keep_drew | apply keep_alloc | refine keep_far ?_ GW123.out _) | exact HK.out)) (KeepBut.of_grown hg g) (Kd.R_base2 HO_4.out)); have HO129 := Aside0.mk (ho); clear HO_4 ho hb hg hat; have hcz26_0 : w25.cell? ⟨gb123, 0, none⟩ = some (.int .i64 2) := bc_ BK123.out 0; have hcz26_1 : w25.cell? ⟨gb123, 1, none⟩ = some (.int .i64 t120) := bc_ BK123.out 1; have hcz26_2 : w25.cell? ⟨gb123, 2, none⟩ = some (.int .i64 x5_2) := bc_ BK123.out 2; have hfz26_0 := blk_frozen BK123.out 0; have hfz26_1 := blk_frozen BK123.out 1; have hfz26_2 := blk_frozen BK123.out 2) | ((with_reducible refine gate_builtin (b := .append) (xs := #[.tmp 62, .tmp 64]) rfl ?_); at_builtin; refine Kd.R_append k68 w.heap.size rfl (.tmp 62) (.tmp 64) 42 68 (.agg #[(.int .i64 0), (.int .i64 0), (.int .i64 0)]) 24 rfl Try.underlying42 info68 rfl (by decide) (by omega) u3 x3_2 (⟨2, t120, x5_2⟩ : S68) [.int .i64 2, .int .i64 t120, .int .i64 x5_2] (fun k_ => k_ ≠ gb123) (fun _ => False) rfl rfl ?aP (fun _ hk => hk.elim) ?aF ?aO (Below.refl _ _) ?aS ?aL ?_; (case aP => exact k68_mkM _ _ _ (⟨2, t120, x5_2⟩ : S68)); (case aF => exact (fun k_ hk => Kd.freshB (kb_ BK123.out) k_ hk)); (case aO => exact (kr_ HO_3.out)); (case aS => exact (keep_size (w := w) (g := g) (row := none) (by repeat (first | (with_reducible first | exact HK.out | apply KeepBut.set_ | apply keep_drewN | apply keep_drew | apply keep_alloc | refine keep_far ?_ GW123.out _) | exact HK.out)))); (case aL => have := LMc22.out; omega); intro v131 w27 ho hb hg hat; rw [← Ny130.out] at ho; replace BK123 := Aside0.mk (blk_grown (kb_ BK123.out) hg (Kd.R_away HO_3.out (fun _ hk => hk))); replace HO129 := Aside0.mk (Kd.R_over' (kr_ HO129.out) (Kd.R_typed (kr_ HO_3.out)) (by decide) hg); replace HB := Aside0.mk (below_weaken (by repeat (first | (with_reducible first | exact HB.out | apply below_alloc | apply pw_below_drewN | apply below_drew1 | refine below_set ?_ (IsS52.ge HI0.out) | refine below_set ?_ GE123.out) | exact HB.out)) HL.out hb); replace HI0 := Aside0.mk (IsS52.grown (by repeat (first | (with_reducible first | exact HI0.out | apply IsS52.alloc | apply IsS52.drewN | apply IsS52.drew | apply IsS52.set_1 | apply IsS52.set_2 | apply IsS52.far4_ NB0_123.out) | exact HI0.out)) hg (IsS52.own_ne HI0.out HO_3.out (by decide))); replace HK := Aside0.mk (KeepBut.trans (by repeat (first | (with_reducible first | exact HK.out | apply KeepBut.set_ | apply keep_drewN | apply keep_drew | apply keep_alloc | refine keep_far ?_ GW123.out _) | exact HK.out)) (KeepBut.of_grown hg g) (Kd.R_base2 HO_3.out)); have HO132 := Aside0.mk (ho); clear HO_3 ho hb hg hat))
  go_roundg kj12
  case measure => have := HJ3.out; have := HK2.out; have := HJ12.out; omega
  case rel => exact ⟨(y130), (y127), (wrap64 (x5_2 + 1)), (wrap64 (x6_2 - 1)), (t125), (t126), (by first | rfl | (simp; done) | (simp [*]; done)), (by first | rfl | (simp; done) | (simp [*]; done)), H', ⟨by have := HJ3.out; have := HK2.out; have := HJ12.out; omega⟩, ⟨by exact kr_ (Kd.R_mono HO132.out (fun _ hk => trivial))⟩, ⟨by exact kr_ HO129.out⟩, ⟨by repeat (first | (with_reducible first | exact HI0.out | apply IsS52.alloc | apply IsS52.drewN | apply IsS52.drew | apply IsS52.set_1 | apply IsS52.set_2 | apply IsS52.far4_ NB0_123.out) | exact HI0.out)⟩, ⟨by repeat (first | (with_reducible first | exact HK.out | apply KeepBut.set_ | apply keep_drewN | apply keep_drew | apply keep_alloc | refine keep_far ?_ GW123.out _) | exact HK.out)⟩, ⟨by repeat (first | (with_reducible first | exact HB.out | apply below_alloc | apply pw_below_drewN | apply below_drew1 | refine below_set ?_ (IsS52.ge HI0.out) | refine below_set ?_ GE123.out) | exact HB.out)⟩⟩
 replace c20 := Bool.eq_false_iff.mpr c20
 subst c20
 have H1 : (if t124 = 2 then (if (x4_2.length : Int) > 0 then ((spec_l1Cur_pick.f s0_0 t125 t126 (x4_2.length : Int)).bind fun bt133 => (if 0 ≤ bt133.1 then (if bt133.1 < (x4_2.length : Int) then ((some (([] : List Int) : List Int)).bind fun y137 => (if bt133.1 ≤ (x4_2.length : Int) then ((some (x4_2.take (bt133.1 : Int).toNat : List Int)).bind fun y140 => (if y137.length + y140.length < 17592186044416 then ((some (y137 ++ y140 : List Int)).bind fun y144 => (if 0 ≤ (wrap64 (bt133.1 + 1)) then (if (wrap64 (bt133.1 + 1)) ≤ (x4_2.length : Int) then ((some (x4_2.drop ((wrap64 (bt133.1 + 1)) : Int).toNat : List Int)).bind fun y147 => (if y144.length + y147.length < 17592186044416 then (if x3_2.length < 5864062014805 then (spec_l1Cur_events.l0 kj12 (x3_2 ++ [(⟨3, t120, rd x4_2 bt133.1⟩ : S68)]) (y144 ++ y147) x5_2 (wrap64 (x6_2 - 1)) s0_0 bt133.2.1 bt133.2.2) else (none)) else (none))) else (none)) else (none))) else (none))) else (none))) else (none)) else (none))) else (if x3_2.length < 5864062014805 then (spec_l1Cur_events.l0 kj12 (x3_2 ++ [(⟨1, t120, 0⟩ : S68)]) x4_2 x5_2 (wrap64 (x6_2 - 1)) s0_0 t125 t126) else (none))) else (if x3_2.length < 5864062014805 then (spec_l1Cur_events.l0 kj12 (x3_2 ++ [(⟨1, t120, 0⟩ : S68)]) x4_2 x5_2 (wrap64 (x6_2 - 1)) s0_0 t125 t126) else (none))) = some (r1, r2, r3) := by rw [if_neg (show ¬ (false = true) by decide)] at H; exact H
 clear H
 have H := H1
 clear H1
 by_cases c28 : t124 = 2
 rotate_left
 ·rw [if_neg c28] at H
  have c28b0 : (t124 == 2) = false := beq_eq_false_iff_ne.mpr c28
  have c28b1 : (t124 != 2) = true := bne_iff_ne.mpr c28
  by_cases c60 : x3_2.length < 5864062014805
  rotate_left
  ·rw [if_neg c60] at H
   exact absurd H (by simp)
  rw [if_pos c60] at H
  have LMc60 := Aside0.mk c60
  clear c60
  obtain ⟨y160, hy160⟩ : ∃ y_ : List (S68), y_ = (x3_2 ++ [(⟨1, t120, 0⟩ : S68)]) := ⟨_, rfl⟩
  replace H : (spec_l1Cur_events.l0 kj12 y160 x4_2 x5_2 (wrap64 (x6_2 - 1)) s0_0 t125 t126) = some (r1, r2, r3) := by first | (rw [hy160]; with_reducible exact H) | (have H2_ := (Option.bind_some _ _).symm.trans H; rw [hy160]; with_reducible exact H2_) | (have H2_ := (Option.bind_some _ _).symm.trans H; with_reducible exact H2_) | with_reducible exact H | (rw [hy160]; exact H) | exact H
  have Ny160 := Aside0.mk hy160
  clear hy160
  have H' := Aside0.mk H
  clear H
  have hnb61 := NB123_0.out
  have hnc61 := NB0_123.out
  have hcz62_0 : wc.cell? ⟨gb123, 0, none⟩ = some (.int .i64 1) := bc_ BK123.out 0
  have hcz62_1 : wc.cell? ⟨gb123, 1, none⟩ = some (.int .i64 t120) := bc_ BK123.out 1
  have hcz62_2 : wc.cell? ⟨gb123, 2, none⟩ = some (.int .i64 0) := bc_ BK123.out 2
  have hfz62_0 := blk_frozen BK123.out 0
  have hfz62_1 := blk_frozen BK123.out 1
  have hfz62_2 := blk_frozen BK123.out 2
  go_wp2_with (first | ((with_reducible refine gate_builtin (b := .append) (xs := #[.tmp 62, .tmp 64]) rfl ?_); at_builtin; refine Kd.R_append k68 w.heap.size rfl (.tmp 62) (.tmp 64) 42 68 (.agg #[(.int .i64 0), (.int .i64 0), (.int .i64 0)]) 24 rfl Try.underlying42 info68 rfl (by decide) (by omega) u3 x3_2 (⟨1, t120, 0⟩ : S68) [.int .i64 1, .int .i64 t120, .int .i64 0] (fun k_ => k_ ≠ gb123) (fun _ => False) rfl rfl ?aP (fun _ hk => hk.elim) ?aF ?aO (Below.refl _ _) ?aS ?aL ?_; (case aP => exact k68_mkM _ _ _ (⟨1, t120, 0⟩ : S68)); (case aF => exact (fun k_ hk => Kd.freshB (kb_ BK123.out) k_ hk)); (case aO => exact (kr_ HO_3.out)); (case aS => exact (keep_size (w := w) (g := g) (row := none) (by repeat (first | (with_reducible first | exact HK.out | apply KeepBut.set_ | apply keep_drewN | apply keep_drew | apply keep_alloc | refine keep_far ?_ GW123.out _) | exact HK.out)))); (case aL => have := LMc60.out; omega); intro v161 w63 ho hb hg hat; rw [← Ny160.out] at ho; replace HO_4 := Aside0.mk (Kd.R_over' (kr_ HO_4.out) (Kd.R_typed (kr_ HO_3.out)) (by decide) hg); replace BK123 := Aside0.mk (blk_grown (kb_ BK123.out) hg (Kd.R_away HO_3.out (fun _ hk => hk))); replace HB := Aside0.mk (below_weaken (by repeat (first | (with_reducible first | exact HB.out | apply below_alloc | apply pw_below_drewN | apply below_drew1 | refine below_set ?_ (IsS52.ge HI0.out) | refine below_set ?_ GE123.out) | exact HB.out)) HL.out hb); replace HI0 := Aside0.mk (IsS52.grown (by repeat (first | (with_reducible first | exact HI0.out | apply IsS52.alloc | apply IsS52.drewN | apply IsS52.drew | apply IsS52.set_1 | apply IsS52.set_2 | apply IsS52.far4_ NB0_123.out) | exact HI0.out)) hg (IsS52.own_ne HI0.out HO_3.out (by decide))); replace HK := Aside0.mk (KeepBut.trans (by repeat (first | (with_reducible first | exact HK.out | apply KeepBut.set_ | apply keep_drewN | apply keep_drew | apply keep_alloc | refine keep_far ?_ GW123.out _) | exact HK.out)) (KeepBut.of_grown hg g) (Kd.R_base2 HO_3.out)); have HO162 := Aside0.mk (ho); clear HO_3 ho hb hg hat))
  go_roundg kj12
  case measure => have := HJ3.out; have := HK2.out; have := HJ12.out; omega
  case rel => exact ⟨(y160), (x4_2), (x5_2), (wrap64 (x6_2 - 1)), (t125), (t126), (by first | rfl | (simp; done) | (simp [*]; done)), (by first | rfl | (simp; done) | (simp [*]; done)), H', ⟨by have := HJ3.out; have := HK2.out; have := HJ12.out; omega⟩, ⟨by exact kr_ (Kd.R_mono HO162.out (fun _ hk => trivial))⟩, ⟨by exact kr_ HO_4.out⟩, ⟨by repeat (first | (with_reducible first | exact HI0.out | apply IsS52.alloc | apply IsS52.drewN | apply IsS52.drew | apply IsS52.set_1 | apply IsS52.set_2 | apply IsS52.far4_ NB0_123.out) | exact HI0.out)⟩, ⟨by repeat (first | (with_reducible first | exact HK.out | apply KeepBut.set_ | apply keep_drewN | apply keep_drew | apply keep_alloc | refine keep_far ?_ GW123.out _) | exact HK.out)⟩, ⟨by repeat (first | (with_reducible first | exact HB.out | apply below_alloc | apply pw_below_drewN | apply below_drew1 | refine below_set ?_ (IsS52.ge HI0.out) | refine below_set ?_ GE123.out) | exact HB.out)⟩⟩
 rw [if_pos c28] at H
 have c28b0 : (t124 == 2) = true := beq_iff_eq.mpr c28
 have c28b1 : (t124 != 2) = false := bne_eq_false_iff_eq.mpr c28
 clear c28
 by_cases c29 : (x4_2.length : Int) > 0
 rotate_left
 ·rw [if_neg c29] at H
  have c29b0 : decide (0 < (x4_2.length : Int)) = false := decide_eq_false c29
  have c29b1 : decide (0 < x4_2.length) = false := decide_eq_false (by omega)
  clear c29
  by_cases c55 : x3_2.length < 5864062014805
  rotate_left
  ·rw [if_neg c55] at H
   exact absurd H (by simp)
  rw [if_pos c55] at H
  have LMc55 := Aside0.mk c55
  clear c55
  obtain ⟨y157, hy157⟩ : ∃ y_ : List (S68), y_ = (x3_2 ++ [(⟨1, t120, 0⟩ : S68)]) := ⟨_, rfl⟩
  replace H : (spec_l1Cur_events.l0 kj12 y157 x4_2 x5_2 (wrap64 (x6_2 - 1)) s0_0 t125 t126) = some (r1, r2, r3) := by first | (rw [hy157]; with_reducible exact H) | (have H2_ := (Option.bind_some _ _).symm.trans H; rw [hy157]; with_reducible exact H2_) | (have H2_ := (Option.bind_some _ _).symm.trans H; with_reducible exact H2_) | with_reducible exact H | (rw [hy157]; exact H) | exact H
  have Ny157 := Aside0.mk hy157
  clear hy157
  have H' := Aside0.mk H
  clear H
  obtain ⟨Ao56, co56, eo56⟩ := Kd.R_slice HO_4.out
  subst eo56
  have hnb57 := NB123_0.out
  have hnc57 := NB0_123.out
  have hcz58_0 : wc.cell? ⟨gb123, 0, none⟩ = some (.int .i64 1) := bc_ BK123.out 0
  have hcz58_1 : wc.cell? ⟨gb123, 1, none⟩ = some (.int .i64 t120) := bc_ BK123.out 1
  have hcz58_2 : wc.cell? ⟨gb123, 2, none⟩ = some (.int .i64 0) := bc_ BK123.out 2
  have hfz58_0 := blk_frozen BK123.out 0
  have hfz58_1 := blk_frozen BK123.out 1
  have hfz58_2 := blk_frozen BK123.out 2
  go_wp2_with (first | ((with_reducible refine gate_builtin (b := .append) (xs := #[.tmp 62, .tmp 64]) rfl ?_); at_builtin; refine Kd.R_append k68 w.heap.size rfl (.tmp 62) (.tmp 64) 42 68 (.agg #[(.int .i64 0), (.int .i64 0), (.int .i64 0)]) 24 rfl Try.underlying42 info68 rfl (by decide) (by omega) u3 x3_2 (⟨1, t120, 0⟩ : S68) [.int .i64 1, .int .i64 t120, .int .i64 0] (fun k_ => k_ ≠ gb123) (fun _ => False) rfl rfl ?aP (fun _ hk => hk.elim) ?aF ?aO (Below.refl _ _) ?aS ?aL ?_; (case aP => exact k68_mkM _ _ _ (⟨1, t120, 0⟩ : S68)); (case aF => exact (fun k_ hk => Kd.freshB (kb_ BK123.out) k_ hk)); (case aO => exact (kr_ HO_3.out)); (case aS => exact (keep_size (w := w) (g := g) (row := none) (by repeat (first | (with_reducible first | exact HK.out | apply KeepBut.set_ | apply keep_drewN | apply keep_drew | apply keep_alloc | refine keep_far ?_ GW123.out _) | exact HK.out)))); (case aL => have := LMc55.out; omega); intro v158 w59 ho hb hg hat; rw [← Ny157.out] at ho; replace HO_4 := Aside0.mk (Kd.R_over' (kr_ HO_4.out) (Kd.R_typed (kr_ HO_3.out)) (by decide) hg); replace BK123 := Aside0.mk (blk_grown (kb_ BK123.out) hg (Kd.R_away HO_3.out (fun _ hk => hk))); replace HB := Aside0.mk (below_weaken (by repeat (first | (with_reducible first | exact HB.out | apply below_alloc | apply pw_below_drewN | apply below_drew1 | refine below_set ?_ (IsS52.ge HI0.out) | refine below_set ?_ GE123.out) | exact HB.out)) HL.out hb); replace HI0 := Aside0.mk (IsS52.grown (by repeat (first | (with_reducible first | exact HI0.out | apply IsS52.alloc | apply IsS52.drewN | apply IsS52.drew | apply IsS52.set_1 | apply IsS52.set_2 | apply IsS52.far4_ NB0_123.out) | exact HI0.out)) hg (IsS52.own_ne HI0.out HO_3.out (by decide))); replace HK := Aside0.mk (KeepBut.trans (by repeat (first | (with_reducible first | exact HK.out | apply KeepBut.set_ | apply keep_drewN | apply keep_drew | apply keep_alloc | refine keep_far ?_ GW123.out _) | exact HK.out)) (KeepBut.of_grown hg g) (Kd.R_base2 HO_3.out)); have HO159 := Aside0.mk (ho); clear HO_3 ho hb hg hat))
  go_roundg kj12
  case measure => have := HJ3.out; have := HK2.out; have := HJ12.out; omega
  case rel => exact ⟨(y157), (x4_2), (x5_2), (wrap64 (x6_2 - 1)), (t125), (t126), (by first | rfl | (simp; done) | (simp [*]; done)), (by first | rfl | (simp; done) | (simp [*]; done)), H', ⟨by have := HJ3.out; have := HK2.out; have := HJ12.out; omega⟩, ⟨by exact kr_ (Kd.R_mono HO159.out (fun _ hk => trivial))⟩, ⟨by exact kr_ HO_4.out⟩, ⟨by repeat (first | (with_reducible first | exact HI0.out | apply IsS52.alloc | apply IsS52.drewN | apply IsS52.drew | apply IsS52.set_1 | apply IsS52.set_2 | apply IsS52.far4_ NB0_123.out) | exact HI0.out)⟩, ⟨by repeat (first | (with_reducible first | exact HK.out | apply KeepBut.set_ | apply keep_drewN | apply keep_drew | apply keep_alloc | refine keep_far ?_ GW123.out _) | exact HK.out)⟩, ⟨by repeat (first | (with_reducible first | exact HB.out | apply below_alloc | apply pw_below_drewN | apply below_drew1 | refine below_set ?_ (IsS52.ge HI0.out) | refine below_set ?_ GE123.out) | exact HB.out)⟩⟩
 rw [if_pos c29] at H
 have c29b0 : decide (0 < (x4_2.length : Int)) = true := decide_eq_true c29
 have c29b1 : decide (0 < x4_2.length) = true := decide_eq_true (by omega)
 clear c29
 replace H := Option.bind_eq_some_iff.mp H
 obtain ⟨⟨t133, t134, t135⟩, A300, H⟩ := H
 replace H : (if 0 ≤ t133 then (if t133 < (x4_2.length : Int) then ((some (([] : List Int) : List Int)).bind fun y137 => (if t133 ≤ (x4_2.length : Int) then ((some (x4_2.take (t133 : Int).toNat : List Int)).bind fun y140 => (if y137.length + y140.length < 17592186044416 then ((some (y137 ++ y140 : List Int)).bind fun y144 => (if 0 ≤ (wrap64 (t133 + 1)) then (if (wrap64 (t133 + 1)) ≤ (x4_2.length : Int) then ((some (x4_2.drop ((wrap64 (t133 + 1)) : Int).toNat : List Int)).bind fun y147 => (if y144.length + y147.length < 17592186044416 then (if x3_2.length < 5864062014805 then (spec_l1Cur_events.l0 kj12 (x3_2 ++ [(⟨3, t120, rd x4_2 t133⟩ : S68)]) (y144 ++ y147) x5_2 (wrap64 (x6_2 - 1)) s0_0 t134 t135) else (none)) else (none))) else (none)) else (none))) else (none))) else (none))) else (none)) else (none)) = some (r1, r2, r3) := H
 have A30 := Aside0.mk A300
 clear A300
 by_cases c31 : 0 ≤ t133
 rotate_left
 ·rw [if_neg c31] at H
  exact absurd H (by simp)
 rw [if_pos c31] at H
 have c31b0 : decide (0 ≤ t133) = true := decide_eq_true c31
 clear c31
 by_cases c32 : t133 < (x4_2.length : Int)
 rotate_left
 ·rw [if_neg c32] at H
  exact absurd H (by simp)
 rw [if_pos c32] at H
 have c32b0 : decide (t133 < (x4_2.length : Int)) = true := decide_eq_true c32
 clear c32
 obtain ⟨y137, hy137⟩ : ∃ y_ : List Int, y_ = (([] : List Int)) := ⟨_, rfl⟩
 replace H : (if t133 ≤ (x4_2.length : Int) then ((some (x4_2.take (t133 : Int).toNat : List Int)).bind fun y140 => (if y137.length + y140.length < 17592186044416 then ((some (y137 ++ y140 : List Int)).bind fun y144 => (if 0 ≤ (wrap64 (t133 + 1)) then (if (wrap64 (t133 + 1)) ≤ (x4_2.length : Int) then ((some (x4_2.drop ((wrap64 (t133 + 1)) : Int).toNat : List Int)).bind fun y147 => (if y144.length + y147.length < 17592186044416 then (if x3_2.length < 5864062014805 then (spec_l1Cur_events.l0 kj12 (x3_2 ++ [(⟨3, t120, rd x4_2 t133⟩ : S68)]) (y144 ++ y147) x5_2 (wrap64 (x6_2 - 1)) s0_0 t134 t135) else (none)) else (none))) else (none)) else (none))) else (none))) else (none)) = some (r1, r2, r3) := by first | (rw [hy137]; with_reducible exact H) | (have H2_ := (Option.bind_some _ _).symm.trans H; rw [hy137]; with_reducible exact H2_) | (have H2_ := (Option.bind_some _ _).symm.trans H; with_reducible exact H2_) | with_reducible exact H | (rw [hy137]; exact H) | exact H
 have Ny137 := Aside0.mk hy137
 clear hy137
 have c33b0 := eq_true (of_decide_eq_true (by first | (with_reducible assumption) | assumption) : 0 ≤ t133)
 by_cases c34 : t133 ≤ (x4_2.length : Int)
 rotate_left
 ·rw [if_neg c34] at H
  exact absurd H (by simp)
 rw [if_pos c34] at H
 have c34b0 := eq_true c34
 have c34b1 : decide (t133 ≤ (x4_2.length : Int)) = true := decide_eq_true c34
 clear c34
 obtain ⟨y140, hy140⟩ : ∃ y_ : List Int, y_ = (x4_2.take (t133 : Int).toNat) := ⟨_, rfl⟩
 replace H : (if y137.length + y140.length < 17592186044416 then ((some (y137 ++ y140 : List Int)).bind fun y144 => (if 0 ≤ (wrap64 (t133 + 1)) then (if (wrap64 (t133 + 1)) ≤ (x4_2.length : Int) then ((some (x4_2.drop ((wrap64 (t133 + 1)) : Int).toNat : List Int)).bind fun y147 => (if y144.length + y147.length < 17592186044416 then (if x3_2.length < 5864062014805 then (spec_l1Cur_events.l0 kj12 (x3_2 ++ [(⟨3, t120, rd x4_2 t133⟩ : S68)]) (y144 ++ y147) x5_2 (wrap64 (x6_2 - 1)) s0_0 t134 t135) else (none)) else (none))) else (none)) else (none))) else (none)) = some (r1, r2, r3) := by first | (rw [hy140]; with_reducible exact H) | (have H2_ := (Option.bind_some _ _).symm.trans H; rw [hy140]; with_reducible exact H2_) | (have H2_ := (Option.bind_some _ _).symm.trans H; with_reducible exact H2_) | with_reducible exact H | (rw [hy140]; exact H) | exact H
 have Ny140 := Aside0.mk hy140
 clear hy140
 by_cases c35 : y137.length + y140.length < 17592186044416
 rotate_left
 ·rw [if_neg c35] at H
  exact absurd H (by simp)
 rw [if_pos c35] at H
 have LMc35 := Aside0.mk c35
 clear c35
 obtain ⟨y144, hy144⟩ : ∃ y_ : List Int, y_ = (y137 ++ y140) := ⟨_, rfl⟩
 replace H : (if 0 ≤ (wrap64 (t133 + 1)) then (if (wrap64 (t133 + 1)) ≤ (x4_2.length : Int) then ((some (x4_2.drop ((wrap64 (t133 + 1)) : Int).toNat : List Int)).bind fun y147 => (if y144.length + y147.length < 17592186044416 then (if x3_2.length < 5864062014805 then (spec_l1Cur_events.l0 kj12 (x3_2 ++ [(⟨3, t120, rd x4_2 t133⟩ : S68)]) (y144 ++ y147) x5_2 (wrap64 (x6_2 - 1)) s0_0 t134 t135) else (none)) else (none))) else (none)) else (none)) = some (r1, r2, r3) := by first | (rw [hy144]; with_reducible exact H) | (have H2_ := (Option.bind_some _ _).symm.trans H; rw [hy144]; with_reducible exact H2_) | (have H2_ := (Option.bind_some _ _).symm.trans H; with_reducible exact H2_) | with_reducible exact H | (rw [hy144]; exact H) | exact H
 have Ny144 := Aside0.mk hy144
 clear hy144
 obtain ⟨ji36, hji36⟩ : ∃ j_ : Int, (wrap64 (t133 + 1)) = j_ := ⟨_, rfl⟩
 replace H : (if 0 ≤ (ji36) then (if (ji36) ≤ (x4_2.length : Int) then ((some (x4_2.drop ((ji36) : Int).toNat : List Int)).bind fun y147 => (if y144.length + y147.length < 17592186044416 then (if x3_2.length < 5864062014805 then (spec_l1Cur_events.l0 kj12 (x3_2 ++ [(⟨3, t120, rd x4_2 t133⟩ : S68)]) (y144 ++ y147) x5_2 (wrap64 (x6_2 - 1)) s0_0 t134 t135) else (none)) else (none))) else (none)) else (none)) = some (r1, r2, r3) := by first | (rw [hji36] at H; exact H) | (simp only [hji36] at H ⊢; exact H)
 (try rw [hji36] at A30)
 have hji36w : (IntKind.i64.wrap (t133 + 1)) = ji36 := (i64_w _).trans hji36
 by_cases c37 : 0 ≤ (ji36)
 rotate_left
 ·rw [if_neg c37] at H
  exact absurd H (by simp)
 rw [if_pos c37] at H
 have c37b0 := eq_true c37
 have c37b1 : decide (0 ≤ (ji36)) = true := decide_eq_true c37
 clear c37
 by_cases c38 : (ji36) ≤ (x4_2.length : Int)
 rotate_left
 ·rw [if_neg c38] at H
  exact absurd H (by simp)
 rw [if_pos c38] at H
 have c38b0 := eq_true c38
 have c38b1 : decide ((ji36) ≤ (x4_2.length : Int)) = true := decide_eq_true c38
 clear c38
 obtain ⟨y147, hy147⟩ : ∃ y_ : List Int, y_ = (x4_2.drop ((ji36) : Int).toNat) := ⟨_, rfl⟩
 replace H : (if y144.length + y147.length < 17592186044416 then (if x3_2.length < 5864062014805 then (spec_l1Cur_events.l0 kj12 (x3_2 ++ [(⟨3, t120, rd x4_2 t133⟩ : S68)]) (y144 ++ y147) x5_2 (wrap64 (x6_2 - 1)) s0_0 t134 t135) else (none)) else (none)) = some (r1, r2, r3) := by first | (rw [hy147]; with_reducible exact H) | (have H2_ := (Option.bind_some _ _).symm.trans H; rw [hy147]; with_reducible exact H2_) | (have H2_ := (Option.bind_some _ _).symm.trans H; with_reducible exact H2_) | with_reducible exact H | (rw [hy147]; exact H) | exact H
 have Ny147 := Aside0.mk hy147
 clear hy147
 by_cases c39 : y144.length + y147.length < 17592186044416
 rotate_left
 ·rw [if_neg c39] at H
  exact absurd H (by simp)
 rw [if_pos c39] at H
 have LMc39 := Aside0.mk c39
 clear c39
 obtain ⟨y151, hy151⟩ : ∃ y_ : List Int, y_ = (y144 ++ y147) := ⟨_, rfl⟩
 replace H : (if x3_2.length < 5864062014805 then (spec_l1Cur_events.l0 kj12 (x3_2 ++ [(⟨3, t120, rd x4_2 t133⟩ : S68)]) y151 x5_2 (wrap64 (x6_2 - 1)) s0_0 t134 t135) else (none)) = some (r1, r2, r3) := by first | (rw [hy151]; with_reducible exact H) | (have H2_ := (Option.bind_some _ _).symm.trans H; rw [hy151]; with_reducible exact H2_) | (have H2_ := (Option.bind_some _ _).symm.trans H; with_reducible exact H2_) | with_reducible exact H | (rw [hy151]; exact H) | exact H
 have Ny151 := Aside0.mk hy151
 clear hy151
 by_cases c40 : x3_2.length < 5864062014805
 rotate_left
 ·rw [if_neg c40] at H
  exact absurd H (by simp)
 rw [if_pos c40] at H
 have LMc40 := Aside0.mk c40
 clear c40
 obtain ⟨y154, hy154⟩ : ∃ y_ : List (S68), y_ = (x3_2 ++ [(⟨3, t120, rd x4_2 t133⟩ : S68)]) := ⟨_, rfl⟩
 replace H : (spec_l1Cur_events.l0 kj12 y154 y151 x5_2 (wrap64 (x6_2 - 1)) s0_0 t134 t135) = some (r1, r2, r3) := by first | (rw [hy154]; with_reducible exact H) | (have H2_ := (Option.bind_some _ _).symm.trans H; rw [hy154]; with_reducible exact H2_) | (have H2_ := (Option.bind_some _ _).symm.trans H; with_reducible exact H2_) | with_reducible exact H | (rw [hy154]; exact H) | exact H
 have Ny154 := Aside0.mk hy154
 clear hy154
 have H' := Aside0.mk H
 clear H
 obtain ⟨Ao41, co41, eo41⟩ := Kd.R_slice HO_4.out
 subst eo41
 try go_wp2_with (first | ((with_reducible refine gate_callee (f := 22) rfl ?_); refine goesL_ (some 45) rfl rfl Try.func22 (by kernel_rfl) rfl #[.pointer (some ⟨g, 0, none⟩), .int .i64 (x4_2.length : Int)] rfl nc_ ?_; (with_reducible refine (spec_l1Cur_pick.calls g s0_0 t125 t126 (x4_2.length : Int) t133 t134 t135 w0 _ ?side1 ?side2 A30.out).mono ?_); (case side1 => repeat (first | (with_reducible first | exact HI0.out | apply IsS52.alloc | apply IsS52.drewN | apply IsS52.drew | apply IsS52.set_1 | apply IsS52.set_2 | apply IsS52.far4_ NB0_123.out) | exact HI0.out)); (case side2 => repeat (first | (with_reducible first | exact HB.out | apply below_alloc | apply pw_below_drewN | apply below_drew1 | refine below_set ?_ (IsS52.ge HI0.out) | refine below_set ?_ GE123.out) | exact HB.out)); rintro e w42 ⟨rfl, hi, hb, hk⟩; refine ⟨_, rfl, ?_⟩; replace HO_3 := Aside0.mk (Kd.R_mono (Kd.R_keep (IsS52.apart (show IsS52 w0 _ g s0_0 t125 t126 from by repeat (first | (with_reducible first | exact HI0.out | apply IsS52.alloc | apply IsS52.drewN | apply IsS52.drew | apply IsS52.set_1 | apply IsS52.set_2 | apply IsS52.far4_ NB0_123.out) | exact HI0.out)) (kr_ HO_3.out) (by decide)) hk (fun _ h => h.2)) (fun _ h => h.1)); replace HO_4 := Aside0.mk (Kd.R_mono (Kd.R_keep (IsS52.apart (show IsS52 w0 _ g s0_0 t125 t126 from by repeat (first | (with_reducible first | exact HI0.out | apply IsS52.alloc | apply IsS52.drewN | apply IsS52.drew | apply IsS52.set_1 | apply IsS52.set_2 | apply IsS52.far4_ NB0_123.out) | exact HI0.out)) (kr_ HO_4.out) (by decide)) hk (fun _ h => h.2)) (fun _ h => h.1)); replace BK123 := Aside0.mk (KeepBut.blk hk (g' := gb123) (o := .cells #[.int .i64 1, .int .i64 t120, .int .i64 0] 68 (0, 0)) (kb_ BK123.out) NB123_0.out (by simp)); replace HK := Aside0.mk (KeepBut.trans (by repeat (first | (with_reducible first | exact HK.out | apply KeepBut.set_ | apply keep_drewN | apply keep_drew | apply keep_alloc | refine keep_far ?_ GW123.out _) | exact HK.out)) hk (.inl rfl)); replace HB := Aside0.mk (hb); replace HI0 := Aside0.mk (hi); clear hb hk hi; have hnb43 := NB123_0.out; have hnc43 := NB0_123.out; have hcz44_0 : w42.cell? ⟨gb123, 0, none⟩ = some (.int .i64 1) := bc_ BK123.out 0; have hcz44_1 : w42.cell? ⟨gb123, 1, none⟩ = some (.int .i64 t120) := bc_ BK123.out 1; have hcz44_2 : w42.cell? ⟨gb123, 2, none⟩ = some (.int .i64 0) := bc_ BK123.out 2; have hfz44_0 := blk_frozen BK123.out 0; have hfz44_1 := blk_frozen BK123.out 1; have hfz44_2 := blk_frozen BK123.out 2; have p136 : 0 ≤ (t133 : Int) := of_decide_eq_true (by first | (with_reducible assumption) | assumption); have q136 : t133 < (x4_2.length : Int) := of_decide_eq_true (by first | (with_reducible assumption) | assumption); obtain ⟨ad136, e136, hx136_0⟩ := Kd.at_int (Kd.R_reads' HO_4.out).2.2 t133 p136 q136; cases e136; have hn136_0 : ad136.block ≠ gb123 := Kd.own_blk (Kd.R_ne HO_4.out BK123.out (by decide)); replace hx136_0 := (cell_far (p := ⟨gb123, 0, none⟩) (by first | (rw [add_block]; exact hn136_0) | (show (Addr.add _ _).block ≠ _; rw [add_block]; exact hn136_0) | exact hn136_0) (.int .i64 3)).trans hx136_0; clear hn136_0; replace p136 := eq_true p136; replace q136 := eq_true q136))
 have n0_ : Aside0 (Kd.R k68 68 ((w42.setCell ⟨gb123, 0, none⟩ (.int .i64 3)).setCell ⟨gb123, 2, none⟩ (.int .i64 (rd x4_2 t133))) w.heap.size (fun k_ => k_ ≠ gb123) u3 x3_2) := ⟨by exact kr_ (Kd.R_mono (Kd.R_far (p := ⟨gb123, 2, none⟩) (Kd.R_far (p := ⟨gb123, 0, none⟩) (Kd.R_mono HO_3.out (fun k_ hk => (⟨hk, hk⟩ : _ ∧ k_ ≠ gb123))) (fun _ hk => hk.2) (.int .i64 3)) (fun _ hk => hk.2) (.int .i64 (rd x4_2 t133))) (fun _ hk => hk.1))⟩
 have n1_ : Aside0 (Kd.R (Kd.int .i64) 3 ((w42.setCell ⟨gb123, 0, none⟩ (.int .i64 3)).setCell ⟨gb123, 2, none⟩ (.int .i64 (rd x4_2 t133))) w.heap.size (fun _ => True) (.slice (some ad136) x4_2.length co41) x4_2) := ⟨by exact kr_ (Kd.R_mono (Kd.R_far (p := ⟨gb123, 2, none⟩) (Kd.R_far (p := ⟨gb123, 0, none⟩) (Kd.R_types HO_4.out BK123.out (by decide)) (fun _ hk => hk.2) (.int .i64 3)) (fun _ hk => hk.2) (.int .i64 (rd x4_2 t133))) (fun _ hk => trivial))⟩
 have n2_ : Aside0 (((w42.setCell ⟨gb123, 0, none⟩ (.int .i64 3)).setCell ⟨gb123, 2, none⟩ (.int .i64 (rd x4_2 t133))).heap[gb123]? = some (.cells #[.int .i64 3, .int .i64 t120, .int .i64 (rd x4_2 t133)] 68 (0, 0))) := ⟨by (with_reducible repeat (first | refine blk_drewN ?_ _ | refine blk_drew ?_ | refine blk_alloc ?_ _)); refine blk_put (cs := #[.int .i64 3, .int .i64 t120, .int .i64 0]) ?_ 2 _ rfl; (with_reducible repeat (first | refine blk_drewN ?_ _ | refine blk_drew ?_ | refine blk_alloc ?_ _)); refine blk_put (cs := #[.int .i64 1, .int .i64 t120, .int .i64 0]) ?_ 0 _ rfl; exact kb_ BK123.out⟩
 have n3_ : Aside0 (IsS52 w0 ((w42.setCell ⟨gb123, 0, none⟩ (.int .i64 3)).setCell ⟨gb123, 2, none⟩ (.int .i64 (rd x4_2 t133))) g s0_0 t134 t135) := ⟨by repeat (first | (with_reducible first | exact HI0.out | apply IsS52.alloc | apply IsS52.drewN | apply IsS52.drew | apply IsS52.set_1 | apply IsS52.set_2 | apply IsS52.far4_ NB0_123.out) | exact HI0.out)⟩
 have n4_ : Aside0 (KeepBut w ((w42.setCell ⟨gb123, 0, none⟩ (.int .i64 3)).setCell ⟨gb123, 2, none⟩ (.int .i64 (rd x4_2 t133))) g none) := ⟨by repeat (first | (with_reducible first | exact HK.out | apply KeepBut.set_ | apply keep_drewN | apply keep_drew | apply keep_alloc | refine keep_far ?_ GW123.out _) | exact HK.out)⟩
 have n5_ : Aside0 (Below w0.heap.size w0 ((w42.setCell ⟨gb123, 0, none⟩ (.int .i64 3)).setCell ⟨gb123, 2, none⟩ (.int .i64 (rd x4_2 t133)))) := ⟨by repeat (first | (with_reducible first | exact HB.out | apply below_alloc | apply pw_below_drewN | apply below_drew1 | refine below_set ?_ (IsS52.ge HI0.out) | refine below_set ?_ GE123.out) | exact HB.out)⟩
 (try clear HO_3)
 (try clear HO_4)
 (try clear BK123)
 (try clear HI0)
 (try clear HK)
 (try clear HB)
 generalize ((w42.setCell ⟨gb123, 0, none⟩ (.int .i64 3)).setCell ⟨gb123, 2, none⟩ (.int .i64 (rd x4_2 t133))) = w45 at n0_ n1_ n2_ n3_ n4_ n5_ ⊢
 have HO_3 := n0_
 have HO_4 := n1_
 have BK123 := n2_
 have HI0 := n3_
 have HK := n4_
 have HB := n5_
 clear n0_ n1_ n2_ n3_ n4_ n5_
 replace HO_3 := Aside0.mk (Kd.R_drew HO_3.out)
 replace HO_4 := Aside0.mk (Kd.R_drew HO_4.out)
 replace BK123 := Aside0.mk (blk_drew BK123.out)
 replace HI0 := Aside0.mk (IsS52.drew HI0.out)
 replace HK := Aside0.mk (keep_drew HK.out)
 replace HB := Aside0.mk (below_drew1 HB.out)
 have q47 : (t133 : Int) ≤ ((x4_2.length : Int) : Int) := of_decide_eq_true (by first | (with_reducible assumption) | assumption)
 obtain ⟨i047, hi047, _, hsz47, _⟩ := info_parts info3
 have hroom47 : x4_2.length ≤ co41 := (Kd.R_reads' HO_4.out).2.1
 have hC47 : Kd.C (Kd.int .i64) _ (some ad136) x4_2.length x4_2 := (Kd.R_reads' HO_4.out).2.2
 have hcut47 := cut_to (P := Try.prog) 44 3 .i64 Try.underlying44 hi047 (some ad136) x4_2.length co41 t133 (of_decide_eq_true (by first | (with_reducible assumption) | assumption)) q47 hroom47
 have hr47 := Kd.C_take (m := (t133 : Int).toNat) hC47 (by omega)
 have hy47 : y140.length = (t133 : Int).toNat := (by rw [Ny140.out, List.length_take]; omega)
 rw [← Ny140.out] at hr47
 rw [← hy47] at hcut47
 have HR143 := Aside0.mk hr47
 have HC143 := Aside0.mk (show y140.length ≤ co41 from by omega)
 clear hr47 hC47 hroom47 hi047 hsz47
 have KY47 := Aside0.mk hy47
 clear hy47
 have KL47 := Aside0.mk (show (t133 : Int).toNat ≤ x4_2.length from by omega)
 replace q47 := eq_true q47
 have q48 : ((ji36) : Int) ≤ ((x4_2.length : Int) : Int) := of_decide_eq_true (by first | (with_reducible assumption) | assumption)
 obtain ⟨i048, hi048, _, hsz48, _⟩ := info_parts info3
 have hroom48 : x4_2.length ≤ co41 := (Kd.R_reads' HO_4.out).2.1
 have hC48 : Kd.C (Kd.int .i64) _ (some ad136) x4_2.length x4_2 := (Kd.R_reads' HO_4.out).2.2
 have q048 : (0 : Int) ≤ ((ji36) : Int) := of_decide_eq_true (by first | (with_reducible assumption) | assumption)
 have hcut48 := cut_from (P := Try.prog) 44 3 .i64 Try.underlying44 hi048 1 hsz48 (some ad136) x4_2.length co41 (ji36) q048 q48
 have hr48 := Kd.C_drop (m := ((ji36) : Int).toNat) (c := co41) hC48 (by omega) hroom48
 obtain ⟨A48, hA48⟩ : ∃ A1, A1 = (if co41 = ((ji36) : Int).toNat then (some ad136) else ((some ad136) : Option Addr).map (·.add (((ji36) : Int).toNat * 1))) := ⟨_, rfl⟩
 obtain ⟨c48, hc48⟩ : ∃ c1, c1 = co41 - ((ji36) : Int).toNat := ⟨_, rfl⟩
 have hy48 : y147.length = x4_2.length - ((ji36) : Int).toNat := (by rw [Ny147.out, List.length_drop] <;> omega)
 rw [show (x4_2).drop ((ji36) : Int).toNat = y147 from Ny147.out.symm] at hr48
 replace hr48 : Kd.C (Kd.int .i64) _ A48 y147.length y147 := (by rw [hA48]; exact hr48)
 rw [← hy48, ← hA48, ← hc48] at hcut48
 have HR150 := Aside0.mk hr48
 have HC150 := Aside0.mk (show y147.length ≤ c48 from by rw [hy48, hc48]; exact Nat.sub_le_sub_right hroom48 _)
 clear hr48 hC48 hroom48 hi048 hsz48 hc48
 have KY48 := Aside0.mk hy48
 have KA48 := Aside0.mk hA48
 clear hy48 hA48
 have KL48 := Aside0.mk (show ((ji36) : Int).toNat ≤ x4_2.length from by omega)
 replace q48 := eq_true q48
 refine start_ (n := 11) (S := fun w' => True) (ds := []) #[false, false, false, false, false, false, false, false, false, false, false] (by kernel_rfl) rfl rfl trivial (fun hHeld => ?_); refine with_tabW spec_l1Cur_events.tab22 spec_l1Cur_events.bits22 (fun HT_ HW_ => ?_)
 generalize w45.drew = w46 at HO_3 HO_4 BK123 HI0 HK HB HR143 HR150 hHeld ⊢
 refine pu_ 1 (some 53) (h := ?_)
 refine pu_ 2 (some 54) (h := ?_)
 refine pu_ 3 (some 55) (h := ?_)
 refine pu_ 5 (some 57) (h := ?_)
 refine pu_ 6 (some 58) (h := ?_)
 refine pu_ 7 (some 59) (h := ?_)
 refine pu_ 8 (some 60) (h := ?_)
 refine on_ 0 (some 52) (h := fun K hK => ?_)
 refine Kd.R_lit_step (Kd.int .i64) _ 3 rfl (N := 52) rfl (xs := ([] : List Int)) (inner := []) (ok := fun _ => True) (okp := fun _ => True) gs_ ?hp (fun _ hk => hk) trivial (Below.refl _ _) (Nat.le_refl _) (by simp) ?_; (case hp => exact (Reps.none _ _))
 intro v138 w49 ho50 hb hg_ hnew_
 clear hg_ hnew_
 (first | rw [← Ny137.out] at ho50 | (simp only [Int.reduceToNat] at ho50; rw [← Ny137.out] at ho50))
 replace HO_3 := rb_ HO_3 hb
 have HO139 := Aside0.mk (Kd.R_lower (rn_ ho50 HO_4.out) (keep_size (w := w) (g := g) (row := none) (by repeat (first | (with_reducible first | exact HK.out | apply KeepBut.set_ | apply keep_drewN | apply keep_drew | apply keep_alloc | refine keep_far ?_ GW123.out _) | exact HK.out))))
 replace HO_4 := Aside0.mk (Kd.R_elder' (kr_ HO_4.out) (Kd.R_base ho50) hb)
 replace BK123 := bb_ BK123 hb
 replace HR143 := Aside0.mk (Kd.C_below (by repeat (first | (with_reducible exact HR143.out) | (with_reducible refine Kd.C_alloc ?_ _) | (with_reducible refine Kd.C_drewN ?_ _) | (with_reducible refine Kd.C_drew ?_) | exact HR143.out)) hb)
 replace HR150 := Aside0.mk (Kd.C_below (by repeat (first | (with_reducible exact HR150.out) | (with_reducible refine Kd.C_alloc ?_ _) | (with_reducible refine Kd.C_drewN ?_ _) | (with_reducible refine Kd.C_drew ?_) | exact HR150.out)) hb)
 replace HK := Aside0.mk (KeepBut.trans (by repeat (first | (with_reducible first | exact HK.out | apply KeepBut.set_ | apply keep_drewN | apply keep_drew | apply keep_alloc | refine keep_far ?_ GW123.out _) | exact HK.out)) (KeepBut.of_below hb g none) (.inl rfl))
 replace HB := Aside0.mk (below_step (by repeat (first | (with_reducible first | exact HB.out | apply below_alloc | apply pw_below_drewN | apply below_drew1 | refine below_set ?_ (IsS52.ge HI0.out) | refine below_set ?_ GE123.out) | exact HB.out)) hb)
 replace HI0 := Aside0.mk (IsS52.below (by repeat (first | (with_reducible first | exact HI0.out | apply IsS52.alloc | apply IsS52.drewN | apply IsS52.drew | apply IsS52.set_1 | apply IsS52.set_2 | apply IsS52.far4_ NB0_123.out) | exact HI0.out)) hb)
 clear hb ho50
 refine hK.out _ _ trivial (fun hHeld => ?_)
 clear hK K
 refine norm_ nn_ ?_
 refine on_ 4 (some 56) (h := fun K hK => ?_)
 refine Kd.R_append_rows_step (Kd.int .i64) w.heap.size (by rfl) (.tmp 52) (.tmp 55) 44 3 (.int .i64 0) 8 rfl Try.underlying44 info3 rfl (by decide) (by omega) v138 y137 y140 _ _ _ (fun k_ => some k_ ≠ (.slice (some ad136) x4_2.length co41 : Value).ownBlock) (fun _ => False) rfl rfl ?aO ?aR (fun _ _ h => h) (fun _ h => h.elim) ?aF (Below.refl _ _) ?aS ?aL ?_
 (case aR => repeat (first | exact (by repeat (first | (with_reducible exact HR143.out) | (with_reducible refine Kd.C_alloc ?_ _) | (with_reducible refine Kd.C_drewN ?_ _) | (with_reducible refine Kd.C_drew ?_) | exact HR143.out)) | (with_reducible refine Kd.C_alloc ?_ _) | (with_reducible refine Kd.C_drewN ?_ _) | (with_reducible refine Kd.C_drew ?_)))
 (case aF => exact (fun k_ hk => Kd.fresh' (Kd.R_lt (kr_ HO_4.out)) k_ hk))
 (case aO => exact (kp_ HO139.out))
 (case aS => exact (keep_size (w := w) (g := g) (row := none) (by repeat (first | (with_reducible first | exact HK.out | apply KeepBut.set_ | apply keep_drewN | apply keep_drew | apply keep_alloc | refine keep_far ?_ GW123.out _) | exact HK.out))))
 (case aL => have := LMc35.out; omega)
 intro v145 w51 ho hb hg hat
 rw [← Ny144.out] at ho
 replace HO_3 := Aside0.mk (Kd.R_over' (kr_ HO_3.out) (Kd.R_typed (kr_ HO139.out)) (by decide) hg)
 replace BK123 := bgr_ BK123 hg HO139 BK123
 replace HB := Aside0.mk (below_weaken (by repeat (first | (with_reducible first | exact HB.out | apply below_alloc | apply pw_below_drewN | apply below_drew1 | refine below_set ?_ (IsS52.ge HI0.out) | refine below_set ?_ GE123.out) | exact HB.out)) HL.out hb)
 replace HI0 := Aside0.mk (IsS52.grown (by repeat (first | (with_reducible first | exact HI0.out | apply IsS52.alloc | apply IsS52.drewN | apply IsS52.drew | apply IsS52.set_1 | apply IsS52.set_2 | apply IsS52.far4_ NB0_123.out) | exact HI0.out)) hg (IsS52.own_ne HI0.out HO139.out (by decide)))
 replace HK := Aside0.mk (KeepBut.trans (by repeat (first | (with_reducible first | exact HK.out | apply KeepBut.set_ | apply keep_drewN | apply keep_drew | apply keep_alloc | refine keep_far ?_ GW123.out _) | exact HK.out)) (KeepBut.of_grown hg g) (Kd.R_base2 HO139.out))
 replace HR143 := Aside0.mk ((show Kd.C (Kd.int .i64) w51 (some ad136) y140.length y140 from by rw [Ny140.out]; exact Kd.C_take (m := (t133 : Int).toNat) ((Kd.R_reads' (Kd.R_after (ok := (fun _ => True)) (kr_ HO_4.out) hg hat)).2.2) KL47.out))
 replace HR150 := Aside0.mk ((show Kd.C (Kd.int .i64) w51 A48 y147.length y147 from by rw [Ny147.out, KA48.out]; exact Kd.C_drop (m := ((ji36) : Int).toNat) (c := co41) ((Kd.R_reads' (Kd.R_after (ok := (fun _ => True)) (kr_ HO_4.out) hg hat)).2.2) KL48.out ((Kd.R_reads' (Kd.R_after (ok := (fun _ => True)) (kr_ HO_4.out) hg hat)).2.1)))
 replace HO_4 := Aside0.mk (Kd.R_after (ok := (fun _ => True)) (kr_ HO_4.out) hg hat)
 have HO146 := Aside0.mk (ho)
 clear HO139 ho hb hg hat
 refine hK.out _ _ trivial (fun hHeld => ?_)
 clear hK K
 refine norm_ nn_ ?_
 refine on_ 9 (some 61) (h := fun K hK => ?_)
 refine Kd.R_append_rows_step (Kd.int .i64) w.heap.size (by rfl) (.tmp 56) (.tmp 60) 44 3 (.int .i64 0) 8 rfl Try.underlying44 info3 rfl (by decide) (by omega) v145 y144 y147 _ _ _ (fun k_ => some k_ ≠ (.slice (some ad136) x4_2.length co41 : Value).ownBlock) (fun _ => False) rfl rfl ?aO ?aR (fun _ _ h => h) (fun _ h => h.elim) ?aF (Below.refl _ _) ?aS ?aL ?_
 (case aR => repeat (first | exact (by repeat (first | (with_reducible exact HR150.out) | (with_reducible refine Kd.C_alloc ?_ _) | (with_reducible refine Kd.C_drewN ?_ _) | (with_reducible refine Kd.C_drew ?_) | exact HR150.out)) | (with_reducible refine Kd.C_alloc ?_ _) | (with_reducible refine Kd.C_drewN ?_ _) | (with_reducible refine Kd.C_drew ?_)))
 (case aF => exact (fun k_ hk => Kd.fresh' (Kd.R_lt (kr_ HO_4.out)) k_ hk))
 (case aO => exact (kr_ HO146.out))
 (case aS => exact (keep_size (w := w) (g := g) (row := none) (by repeat (first | (with_reducible first | exact HK.out | apply KeepBut.set_ | apply keep_drewN | apply keep_drew | apply keep_alloc | refine keep_far ?_ GW123.out _) | exact HK.out))))
 (case aL => have := LMc39.out; omega)
 intro v152 w52 ho hb hg hat
 rw [← Ny151.out] at ho
 replace HO_3 := Aside0.mk (Kd.R_over' (kr_ HO_3.out) (Kd.R_typed (kr_ HO146.out)) (by decide) hg)
 replace BK123 := bgr_ BK123 hg HO146 BK123
 replace HB := Aside0.mk (below_weaken (by repeat (first | (with_reducible first | exact HB.out | apply below_alloc | apply pw_below_drewN | apply below_drew1 | refine below_set ?_ (IsS52.ge HI0.out) | refine below_set ?_ GE123.out) | exact HB.out)) HL.out hb)
 replace HI0 := Aside0.mk (IsS52.grown (by repeat (first | (with_reducible first | exact HI0.out | apply IsS52.alloc | apply IsS52.drewN | apply IsS52.drew | apply IsS52.set_1 | apply IsS52.set_2 | apply IsS52.far4_ NB0_123.out) | exact HI0.out)) hg (IsS52.own_ne HI0.out HO146.out (by decide)))
 replace HK := Aside0.mk (KeepBut.trans (by repeat (first | (with_reducible first | exact HK.out | apply KeepBut.set_ | apply keep_drewN | apply keep_drew | apply keep_alloc | refine keep_far ?_ GW123.out _) | exact HK.out)) (KeepBut.of_grown hg g) (Kd.R_base2 HO146.out))
 replace HR143 := Aside0.mk ((show Kd.C (Kd.int .i64) w52 (some ad136) y140.length y140 from by rw [Ny140.out]; exact Kd.C_take (m := (t133 : Int).toNat) ((Kd.R_reads' (Kd.R_after (ok := (fun _ => True)) (kr_ HO_4.out) hg hat)).2.2) KL47.out))
 replace HR150 := Aside0.mk ((show Kd.C (Kd.int .i64) w52 A48 y147.length y147 from by rw [Ny147.out, KA48.out]; exact Kd.C_drop (m := ((ji36) : Int).toNat) (c := co41) ((Kd.R_reads' (Kd.R_after (ok := (fun _ => True)) (kr_ HO_4.out) hg hat)).2.2) KL48.out ((Kd.R_reads' (Kd.R_after (ok := (fun _ => True)) (kr_ HO_4.out) hg hat)).2.1)))
 replace HO_4 := Aside0.mk (Kd.R_after (ok := (fun _ => True)) (kr_ HO_4.out) hg hat)
 have HO153 := Aside0.mk (ho)
 clear HO146 ho hb hg hat
 refine hK.out _ _ trivial (fun hHeld => ?_)
 clear hK K
 refine norm_ nn_ ?_
 refine pu_ 10 (some 4) (h := ?_)
 refine done_ (done_of HT_.out (by kernel_rfl)) ?_
 have hcz53_0 : w52.cell? ⟨gb123, 0, none⟩ = some (.int .i64 3) := bc_ BK123.out 0
 have hcz53_1 : w52.cell? ⟨gb123, 1, none⟩ = some (.int .i64 t120) := bc_ BK123.out 1
 have hcz53_2 : w52.cell? ⟨gb123, 2, none⟩ = some (.int .i64 (rd x4_2 t133)) := bc_ BK123.out 2
 have hfz53_0 := blk_frozen BK123.out 0
 have hfz53_1 := blk_frozen BK123.out 1
 have hfz53_2 := blk_frozen BK123.out 2
 try go_wp2_with (first | ((with_reducible refine gate_builtin (b := .append) (xs := #[.tmp 62, .tmp 64]) rfl ?_); at_builtin; refine Kd.R_append k68 w.heap.size rfl (.tmp 62) (.tmp 64) 42 68 (.agg #[(.int .i64 0), (.int .i64 0), (.int .i64 0)]) 24 rfl Try.underlying42 info68 rfl (by decide) (by omega) u3 x3_2 (⟨3, t120, rd x4_2 t133⟩ : S68) [.int .i64 3, .int .i64 t120, .int .i64 (rd x4_2 t133)] (fun k_ => k_ ≠ gb123) (fun _ => False) rfl rfl ?aP (fun _ hk => hk.elim) ?aF ?aO (Below.refl _ _) ?aS ?aL ?_; (case aP => exact k68_mkM _ _ _ (⟨3, t120, rd x4_2 t133⟩ : S68)); (case aF => exact (fun k_ hk => Kd.freshB (kb_ BK123.out) k_ hk)); (case aO => exact (kr_ HO_3.out)); (case aS => exact (keep_size (w := w) (g := g) (row := none) (by repeat (first | (with_reducible first | exact HK.out | apply KeepBut.set_ | apply keep_drewN | apply keep_drew | apply keep_alloc | refine keep_far ?_ GW123.out _) | exact HK.out)))); (case aL => have := LMc40.out; omega); intro v155 w54 ho hb hg hat; rw [← Ny154.out] at ho; replace BK123 := Aside0.mk (blk_grown (kb_ BK123.out) hg (Kd.R_away HO_3.out (fun _ hk => hk))); replace HO153 := Aside0.mk (Kd.R_over' (kr_ HO153.out) (Kd.R_typed (kr_ HO_3.out)) (by decide) hg); replace HB := Aside0.mk (below_weaken (by repeat (first | (with_reducible first | exact HB.out | apply below_alloc | apply pw_below_drewN | apply below_drew1 | refine below_set ?_ (IsS52.ge HI0.out) | refine below_set ?_ GE123.out) | exact HB.out)) HL.out hb); replace HI0 := Aside0.mk (IsS52.grown (by repeat (first | (with_reducible first | exact HI0.out | apply IsS52.alloc | apply IsS52.drewN | apply IsS52.drew | apply IsS52.set_1 | apply IsS52.set_2 | apply IsS52.far4_ NB0_123.out) | exact HI0.out)) hg (IsS52.own_ne HI0.out HO_3.out (by decide))); replace HK := Aside0.mk (KeepBut.trans (by repeat (first | (with_reducible first | exact HK.out | apply KeepBut.set_ | apply keep_drewN | apply keep_drew | apply keep_alloc | refine keep_far ?_ GW123.out _) | exact HK.out)) (KeepBut.of_grown hg g) (Kd.R_base2 HO_3.out)); replace HR143 := Aside0.mk ((show Kd.C (Kd.int .i64) w54 (some ad136) y140.length y140 from by rw [Ny140.out]; exact Kd.C_take (m := (t133 : Int).toNat) ((Kd.R_reads' (Kd.R_over' (kr_ HO_4.out) (Kd.R_typed (kr_ HO_3.out)) (by decide) hg)).2.2) KL47.out)); replace HR150 := Aside0.mk ((show Kd.C (Kd.int .i64) w54 A48 y147.length y147 from by rw [Ny147.out, KA48.out]; exact Kd.C_drop (m := ((ji36) : Int).toNat) (c := co41) ((Kd.R_reads' (Kd.R_over' (kr_ HO_4.out) (Kd.R_typed (kr_ HO_3.out)) (by decide) hg)).2.2) KL48.out ((Kd.R_reads' (Kd.R_over' (kr_ HO_4.out) (Kd.R_typed (kr_ HO_3.out)) (by decide) hg)).2.1))); replace HO_4 := Aside0.mk (Kd.R_over' (kr_ HO_4.out) (Kd.R_typed (kr_ HO_3.out)) (by decide) hg); have HO156 := Aside0.mk (ho); clear HO_3 ho hb hg hat))
 go_roundg kj12
 case measure => have := HJ3.out; have := HK2.out; have := HJ12.out; omega
 case rel => exact ⟨(y154), (y151), (x5_2), (wrap64 (x6_2 - 1)), (t134), (t135), (by first | rfl | (simp; done) | (simp [*]; done)), (by first | rfl | (simp; done) | (simp [*]; done)), H', ⟨by have := HJ3.out; have := HK2.out; have := HJ12.out; omega⟩, ⟨by exact kr_ (Kd.R_mono HO156.out (fun _ hk => trivial))⟩, ⟨by exact kr_ (Kd.R_mono HO153.out (fun _ hk => trivial))⟩, ⟨by repeat (first | (with_reducible first | exact HI0.out | apply IsS52.alloc | apply IsS52.drewN | apply IsS52.drew | apply IsS52.set_1 | apply IsS52.set_2 | apply IsS52.far4_ NB0_123.out) | exact HI0.out)⟩, ⟨by repeat (first | (with_reducible first | exact HK.out | apply KeepBut.set_ | apply keep_drewN | apply keep_drew | apply keep_alloc | refine keep_far ?_ GW123.out _) | exact HK.out)⟩, ⟨by repeat (first | (with_reducible first | exact HB.out | apply below_alloc | apply pw_below_drewN | apply below_drew1 | refine below_set ?_ (IsS52.ge HI0.out) | refine below_set ?_ GE123.out) | exact HB.out)⟩⟩

/-! ### spec_DrawGoodEvents: function 35 -/
def spec_DrawGoodEvents.f (k : Nat) (l0 : List Int) : Option ((List (S68))) := (spec_l1Cur_events.f k l0 0 0).bind fun bt179 => (some bt179.1)
theorem spec_DrawGoodEvents.mono : ∀ a0 k, LeO (spec_DrawGoodEvents.f k a0) (spec_DrawGoodEvents.f (k + 1) a0) := by
 intro a0 k
 unfold spec_DrawGoodEvents.f
 repeat' first
   | (with_reducible exact spec_l1Cur_events.mono _ _ _ _)
   | (with_reducible exact LeO.refl _)
   | (with_reducible exact LeO.none _)
   | (with_reducible refine LeO.ite ?_ ?_)
   | (with_reducible refine LeO.bind ?_ (fun _ => ?_))
   | exact spec_l1Cur_events.mono _ _ _ _
   | exact LeO.none _
   | refine LeO.ite ?_ ?_
   | refine LeO.bind ?_ (fun _ => ?_)
set_option maxHeartbeats 8000000 in
set_option maxRecDepth 100000 in
theorem spec_DrawGoodEvents.calls (k : Nat) (A0 : Option Addr) (c0 : Nat) (l0 : List Int) (r : List (S68)) (w : World) (hr0 : Kd.C (Kd.int .u8) w A0 l0.length l0) (hc0 : l0.length ≤ c0) (h : spec_DrawGoodEvents.f k l0 = some r) :
  Calls Try.prog 35 #[.slice A0 l0.length c0] w fun e w' => ∃ v0_ : Value, e = .returned (v0_) ∧ Kd.R k68 68 w' w.heap.size (fun _ => True) v0_ r ∧ Below w.heap.size w w' := by
 have hu52 := Try.underlying52
 have HR0 := Aside0.mk hr0
 have HC0 := Aside0.mk hc0
 clear hr0 hc0
 have HB := Aside0.mk (Below.refl w.heap.size w)
 have H : ((spec_l1Cur_events.f k l0 0 0).bind fun bt179 => (some bt179.1)) = some r := h
 clear h
 replace H := Option.bind_eq_some_iff.mp H
 obtain ⟨⟨t179, t182, t183⟩, A20, H⟩ := H
 replace H : (some t179) = some r := H
 have A2 := Aside0.mk A20
 clear A20
 obtain rfl := Option.some.inj H
 go_enter Try.func35, Try.ntmps35
 go_wp2_with (first | ((with_reducible refine gate_dst (N := 6) rfl ?_); refine box_event rfl (N := 6) rfl (cs := #[.slice A0 l0.length c0, .int .i64 0, .int .u64 0]) (t := 52) gs_ ?_; intro gb178 hg w3 hbox hb; have BK178 := Aside0.mk (hbox); have GW178 := Aside0.mk ((by rw [hg]; exact bz_ : w.heap.size ≤ gb178)); have GE178 := GW178; replace HB := Aside0.mk (below_step bl_ hb); clear hb hbox hg; have HI178 := Aside0.mk (show IsS52 w _ gb178 l0 0 0 from ⟨_, _, BK178.out, GE178.out, HR0.out⟩)) | ((with_reducible refine gate_callee (f := 47) rfl ?_); refine goesL_ (some 8) rfl rfl Try.func47 (by kernel_rfl) rfl #[.pointer (some ⟨gb178, 0, none⟩)] rfl nc_ ?_; (with_reducible refine (spec_l1Cur_events.calls k gb178 l0 0 0 t179 t182 t183 w _ ?side1 ?side2 A2.out).mono ?_); (case side1 => repeat (first | (with_reducible first | exact HI178.out | apply IsS52.alloc | apply IsS52.drewN | apply IsS52.drew | apply IsS52.set_1 | apply IsS52.set_2) | exact HI178.out)); (case side2 => repeat (first | (with_reducible first | exact HB.out | apply below_alloc | apply pw_below_drewN | apply below_drew1 | refine below_set ?_ (IsS52.ge HI178.out)) | exact HB.out)); rintro e w4 ⟨v180, rfl, ho0, hi, hb, hk⟩; refine ⟨_, rfl, ?_⟩; have HO181 := Aside0.mk (Kd.R_lower ho0 (below_size (by repeat (first | (with_reducible first | exact HB.out | apply below_alloc | apply pw_below_drewN | apply below_drew1 | refine below_set ?_ (IsS52.ge HI178.out)) | exact HB.out)))); replace HB := Aside0.mk (hb); replace HI178 := Aside0.mk (hi); clear hb hk hi ho0))
 go_ret
 exact ⟨_, ng_, by exact kr_ HO181.out, by repeat (first | (with_reducible first | exact HB.out | apply below_alloc | apply pw_below_drewN | apply below_drew1 | refine below_set ?_ (IsS52.ge HI178.out)) | exact HB.out)⟩

/-! ### spec_DrawLamportOf: function 16 -/
def spec_DrawLamportOf.f (k : Nat) (l0 : List Int) : Option ((List (S68))) := (spec_DrawGoodEvents.f k l0).bind fun t184 => (some t184)
theorem spec_DrawLamportOf.mono : ∀ a0 k, LeO (spec_DrawLamportOf.f k a0) (spec_DrawLamportOf.f (k + 1) a0) := by
 intro a0 k
 unfold spec_DrawLamportOf.f
 repeat' first
   | (with_reducible exact spec_DrawGoodEvents.mono _ _)
   | (with_reducible exact LeO.refl _)
   | (with_reducible exact LeO.none _)
   | (with_reducible refine LeO.ite ?_ ?_)
   | (with_reducible refine LeO.bind ?_ (fun _ => ?_))
   | exact spec_DrawGoodEvents.mono _ _
   | exact LeO.none _
   | refine LeO.ite ?_ ?_
   | refine LeO.bind ?_ (fun _ => ?_)
set_option maxHeartbeats 8000000 in
set_option maxRecDepth 100000 in
theorem spec_DrawLamportOf.calls (k : Nat) (A0 : Option Addr) (c0 : Nat) (l0 : List Int) (r : List (S68)) (w : World) (hr0 : Kd.C (Kd.int .u8) w A0 l0.length l0) (hc0 : l0.length ≤ c0) (h : spec_DrawLamportOf.f k l0 = some r) :
  Calls Try.prog 16 #[.slice A0 l0.length c0] w fun e w' => ∃ v0_ : Value, e = .returned (v0_) ∧ Kd.R k68 68 w' w.heap.size (fun _ => True) v0_ r ∧ Below w.heap.size w w' := by
 have HR0 := Aside0.mk hr0
 have HC0 := Aside0.mk hc0
 clear hr0 hc0
 have HB := Aside0.mk (Below.refl w.heap.size w)
 have H : ((spec_DrawGoodEvents.f k l0).bind fun t184 => (some t184)) = some r := h
 clear h
 replace H := Option.bind_eq_some_iff.mp H
 obtain ⟨t184, A20, H⟩ := H
 replace H : (some t184) = some r := H
 have A2 := Aside0.mk A20
 clear A20
 obtain rfl := Option.some.inj H
 go_enter Try.func16, Try.ntmps16
 go_wp2_with (first | ((with_reducible refine gate_callee (f := 35) rfl ?_); refine goesL_ (some 4) rfl rfl Try.func35 (by kernel_rfl) rfl #[.slice A0 l0.length c0] rfl nc_ ?_; (with_reducible refine (spec_DrawGoodEvents.calls k _ _ l0 t184 _ ?side1 ?side2 A2.out).mono ?_); (case side1 => exact kc_ HR0.out); (case side2 => exact HC0.out); rintro e w3 ⟨v185, rfl, ho0, hb⟩; refine ⟨_, rfl, ?_⟩; have HO186 := Aside0.mk (Kd.R_lower ho0 bz_); replace HB := Aside0.mk (below_step bl_ hb); clear hb ho0))
 go_ret
 exact ⟨_, ng_, by exact kr_ HO186.out, bl_⟩

/-! ### impl_in: function 25 -/
def impl_in.f (a0 : Int) (a1 : Int) (a2 : Int) : Option (Bool) := if a0 ≥ a1 then (some (decide (a0 ≤ a2))) else (some false)
set_option maxHeartbeats 8000000 in
set_option maxRecDepth 100000 in
theorem impl_in.calls (a0 : Int) (a1 : Int) (a2 : Int) (r : Bool) (w : World) (h : impl_in.f a0 a1 a2 = some r) :
  Calls Try.prog 25 #[.int .i64 a0, .int .i64 a1, .int .i64 a2] w fun e w' => e = .returned (.bool r) ∧ Drawn0 w w' := by
 have H : (if a0 ≥ a1 then (some (decide (a0 ≤ a2))) else (some false)) = some r := h
 clear h
 by_cases c4 : a0 ≥ a1
 ·rw [if_pos c4] at H
  have c4b0 : decide (a1 ≤ a0) = true := decide_eq_true c4
  clear c4
  obtain rfl := Option.some.inj H
  go_enter Try.func25, Try.ntmps25
  go_wp2
  go_ret
  exact ⟨by first | rfl | (simp; done) | (simp [*]; done), by repeat (first | exact Drawn0.refl _ | apply Drawn0.step)⟩
 rw [if_neg c4] at H
 have c4b0 : decide (a1 ≤ a0) = false := decide_eq_false c4
 clear c4
 obtain rfl := Option.some.inj H
 go_enter Try.func25, Try.ntmps25
 go_wp2
 go_ret
 exact ⟨by first | rfl | (simp; done) | (simp [*]; done), by repeat (first | exact Drawn0.refl _ | apply Drawn0.step)⟩

end Go.Proofs.Ytgdcooiaeeajmaa.PLA
