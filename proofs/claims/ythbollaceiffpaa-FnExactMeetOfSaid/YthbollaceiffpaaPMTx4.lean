/- What this text proves: the machine calls of these functions return what the plain functions say. Conditions: as each theorem says. Printed by a program of this session out of the translation. -/
import Derived.Test.YthbollaceiffpaaPMTx0
import Derived.Test.YthbollaceiffpaaPMTx1
import Derived.Test.YthbollaceiffpaaPMTx2
import Derived.Test.YthbollaceiffpaaPMTx3
namespace Go.Proofs.Ythbollaceiffpaa.PMT
open Go.RowKit Go.Proofs.YthbollaceiffpaaW.PrintWords Go.Proofs.YthbollaceiffpaaW.PrintLast Go.Proofs.YthbollaceiffpaaW.PrintMore
attribute [local go_sem] max2_int min2_int max_two min_two max_three min_three max_four min_four   -- for this text's walks alone
set_option linter.unusedVariables false
set_option linter.unusedSimpArgs false

class Keep_ (w w1 : World) : Prop where
  kept : Below w.heap.size w w1
instance Keep_.same (w : World) : Keep_ w w := ⟨Below.refl _ _⟩
instance Keep_.drew (w w1 : World) [h : Keep_ w w1] : Keep_ w w1.drew := ⟨below_drew1 h.kept⟩
instance Keep_.drewN (w w1 : World) (n : Nat) [h : Keep_ w w1] : Keep_ w (w1.drewN n) := ⟨pw_below_drewN h.kept n⟩
instance Keep_.alloc (w w1 : World) (o : Obj) [h : Keep_ w w1] : Keep_ w (w1.alloc o) := ⟨below_alloc h.kept o⟩
theorem kb_ {w w1 : World} {g : Nat} {o : Obj} (h : w.heap[g]? = some o) [k : Keep_ w w1] : w1.heap[g]? = some o := blk_below h k.kept
theorem kr_ {α : Type} {d : Kd α} {e : Nat} {w w1 : World} {base : Nat} {ok : Nat → Prop} {v : Value} {xs : List α} (h : d.R e w base ok v xs) [k : Keep_ w w1] : d.R e w1 base ok v xs := Kd.R_below h k.kept

/-! ### laws_FnExactMeetOf: function 8 -/
mutual
def laws_FnExactMeetOf.j0 : Nat → Int → Bool → Bool → Bool → List Int → List Int → List Int → List Int → List Int → List Int → Option (Bool)
 | 0, _, _, _, _, _, _, _, _, _, _ => none
 | k + 1, x2, x9, x13, x57, x176000, x177000, x190000, x194000, x198000, x203000 => if x57 = true then (none) else ((laws_toGroup.f k x176000).bind fun t204 => ((laws_eqGroup.f k x194000 t204).bind fun t207 => (if t207 = true then ((laws_toGroup.f k x177000).bind fun t208 => ((laws_eqGroup.f k x198000 t208).bind fun t211 => (if t211 = true then ((laws_markGroup.f k x194000 1).bind fun bt212 => ((laws_markGroup.f k x198000 bt212.1).bind fun bt214 => (if bt214.1 < 0 then (none) else ((laws_eqGroup.f k x203000 x190000).bind fun t216 => (if t216 = true then (laws_FnExactMeetOf.j1 k x2 x9 (x13 != x9) x176000 x177000 x190000 x203000) else (none)))))) else (none)))) else (none))))
def laws_FnExactMeetOf.j1 : Nat → Int → Bool → Bool → List Int → List Int → List Int → List Int → Option (Bool)
 | 0, _, _, _, _, _, _, _ => none
 | k + 1, x2, x9, x86, x176000, x177000, x190000, x203000 => if x86 = true then (none) else ((laws_markGroup.f k x203000 1).bind fun bt217 => ((laws_heldGroup.f k bt217.2 1).bind fun t219 => (if t219 < 0 then (none) else (if t219 = bt217.1 then ((laws_toGroup.f k x176000).bind fun t220 => ((laws_toGroup.f k x177000).bind fun t223 => ((impl_MeetOf.f k t220 t223 x2).bind fun bt226 => ((laws_eqGroup.f k bt226.1 x190000).bind fun t231 => (if t231 = true then (laws_FnExactMeetOf.j2 k bt217.1 (bt226.2 != x9) bt217.2) else (none)))))) else (none)))))
def laws_FnExactMeetOf.j2 : Nat → Int → Bool → List Int → Option (Bool)
 | 0, _, _, _ => none
 | k + 1, x15, x115, x203000 => if x115 = true then (none) else ((laws_heldGroup.f k x203000 1).bind fun t232 => (if t232 < 0 then (none) else (if t232 = x15 then (some true) else (none))))
end
def laws_FnExactMeetOf.f (k : Nat) (l0_0 : List Int) (l1_0 : List Int) (a2 : Int) : Option (Bool) := (laws_szGroup.f l0_0 1048576).bind fun t177 => (if t177 < 0 then (some true) else ((laws_szGroup.f l1_0 t177).bind fun t178 => (if t178 < 0 then (some true) else ((laws_toGroup.f k l0_0).bind fun t179 => ((laws_toGroup.f k l1_0).bind fun t182 => ((spec_MeetOf.f k t179 t182 a2).bind fun bt185 => ((laws_toGroup.f k l0_0).bind fun t190 => ((laws_toGroup.f k l1_0).bind fun t194 => ((impl_MeetOf.f k t190 t194 a2).bind fun bt198 => ((laws_eqGroup.f k bt198.1 bt185.1).bind fun t203 => (if t203 = true then (laws_FnExactMeetOf.j0 k a2 bt185.2 bt198.2 (bt198.2 != bt185.2) l0_0 l1_0 bt185.1 t190 t194 bt198.1) else (none))))))))))))
theorem laws_FnExactMeetOf.mono_l : ∀ k, (∀ y0 y1 y2 y3 y4 y5 y6 y7 y8 y9, LeO (laws_FnExactMeetOf.j0 k y0 y1 y2 y3 y4 y5 y6 y7 y8 y9) (laws_FnExactMeetOf.j0 (k + 1) y0 y1 y2 y3 y4 y5 y6 y7 y8 y9)) ∧ (∀ y0 y1 y2 y3 y4 y5 y6, LeO (laws_FnExactMeetOf.j1 k y0 y1 y2 y3 y4 y5 y6) (laws_FnExactMeetOf.j1 (k + 1) y0 y1 y2 y3 y4 y5 y6)) ∧ (∀ y0 y1 y2, LeO (laws_FnExactMeetOf.j2 k y0 y1 y2) (laws_FnExactMeetOf.j2 (k + 1) y0 y1 y2))
 | 0 => ⟨fun _ _ _ _ _ _ _ _ _ _ r h => by simp [laws_FnExactMeetOf.j0] at h, fun _ _ _ _ _ _ _ r h => by simp [laws_FnExactMeetOf.j1] at h, fun _ _ _ r h => by simp [laws_FnExactMeetOf.j2] at h⟩
 | k + 1 => by
  obtain ⟨ih0, ih1, ih2⟩ := laws_FnExactMeetOf.mono_l k
  refine ⟨?_, ?_, ?_⟩
  ·intro y0 y1 y2 y3 y4 y5 y6 y7 y8 y9
   unfold laws_FnExactMeetOf.j0
   repeat' first
   | (with_reducible exact ih0 _ _ _ _ _ _ _ _ _ _)
   | (with_reducible exact ih1 _ _ _ _ _ _ _)
   | (with_reducible exact ih2 _ _ _)
   | (with_reducible exact impl_MeetOf.mono _ _ _ _)
   | (with_reducible exact laws_eqGroup.mono _ _ _)
   | (with_reducible exact laws_heldGroup.mono _ _ _)
   | (with_reducible exact laws_markGroup.mono _ _ _)
   | (with_reducible exact laws_toGroup.mono _ _)
   | (with_reducible exact spec_MeetOf.mono _ _ _ _)
   | (with_reducible exact LeO.refl _)
   | (with_reducible exact LeO.none _)
   | (with_reducible refine LeO.ite ?_ ?_)
   | (with_reducible refine LeO.bind ?_ (fun _ => ?_))
   | exact ih0 _ _ _ _ _ _ _ _ _ _
   | exact ih1 _ _ _ _ _ _ _
   | exact ih2 _ _ _
   | exact impl_MeetOf.mono _ _ _ _
   | exact laws_eqGroup.mono _ _ _
   | exact laws_heldGroup.mono _ _ _
   | exact laws_markGroup.mono _ _ _
   | exact laws_toGroup.mono _ _
   | exact spec_MeetOf.mono _ _ _ _
   | exact LeO.none _
   | refine LeO.ite ?_ ?_
   | refine LeO.bind ?_ (fun _ => ?_)
  ·intro y0 y1 y2 y3 y4 y5 y6
   unfold laws_FnExactMeetOf.j1
   repeat' first
   | (with_reducible exact ih0 _ _ _ _ _ _ _ _ _ _)
   | (with_reducible exact ih1 _ _ _ _ _ _ _)
   | (with_reducible exact ih2 _ _ _)
   | (with_reducible exact impl_MeetOf.mono _ _ _ _)
   | (with_reducible exact laws_eqGroup.mono _ _ _)
   | (with_reducible exact laws_heldGroup.mono _ _ _)
   | (with_reducible exact laws_markGroup.mono _ _ _)
   | (with_reducible exact laws_toGroup.mono _ _)
   | (with_reducible exact spec_MeetOf.mono _ _ _ _)
   | (with_reducible exact LeO.refl _)
   | (with_reducible exact LeO.none _)
   | (with_reducible refine LeO.ite ?_ ?_)
   | (with_reducible refine LeO.bind ?_ (fun _ => ?_))
   | exact ih0 _ _ _ _ _ _ _ _ _ _
   | exact ih1 _ _ _ _ _ _ _
   | exact ih2 _ _ _
   | exact impl_MeetOf.mono _ _ _ _
   | exact laws_eqGroup.mono _ _ _
   | exact laws_heldGroup.mono _ _ _
   | exact laws_markGroup.mono _ _ _
   | exact laws_toGroup.mono _ _
   | exact spec_MeetOf.mono _ _ _ _
   | exact LeO.none _
   | refine LeO.ite ?_ ?_
   | refine LeO.bind ?_ (fun _ => ?_)
  ·intro y0 y1 y2
   unfold laws_FnExactMeetOf.j2
   repeat' first
   | (with_reducible exact ih0 _ _ _ _ _ _ _ _ _ _)
   | (with_reducible exact ih1 _ _ _ _ _ _ _)
   | (with_reducible exact ih2 _ _ _)
   | (with_reducible exact impl_MeetOf.mono _ _ _ _)
   | (with_reducible exact laws_eqGroup.mono _ _ _)
   | (with_reducible exact laws_heldGroup.mono _ _ _)
   | (with_reducible exact laws_markGroup.mono _ _ _)
   | (with_reducible exact laws_toGroup.mono _ _)
   | (with_reducible exact spec_MeetOf.mono _ _ _ _)
   | (with_reducible exact LeO.refl _)
   | (with_reducible exact LeO.none _)
   | (with_reducible refine LeO.ite ?_ ?_)
   | (with_reducible refine LeO.bind ?_ (fun _ => ?_))
   | exact ih0 _ _ _ _ _ _ _ _ _ _
   | exact ih1 _ _ _ _ _ _ _
   | exact ih2 _ _ _
   | exact impl_MeetOf.mono _ _ _ _
   | exact laws_eqGroup.mono _ _ _
   | exact laws_heldGroup.mono _ _ _
   | exact laws_markGroup.mono _ _ _
   | exact laws_toGroup.mono _ _
   | exact spec_MeetOf.mono _ _ _ _
   | exact LeO.none _
   | refine LeO.ite ?_ ?_
   | refine LeO.bind ?_ (fun _ => ?_)
theorem laws_FnExactMeetOf.mono : ∀ a0 a1 a2 k, LeO (laws_FnExactMeetOf.f k a0 a1 a2) (laws_FnExactMeetOf.f (k + 1) a0 a1 a2) := by
 intro a0 a1 a2 k
 obtain ⟨ih0, ih1, ih2⟩ := laws_FnExactMeetOf.mono_l k
 unfold laws_FnExactMeetOf.f
 repeat' first
   | (with_reducible exact ih0 _ _ _ _ _ _ _ _ _ _)
   | (with_reducible exact ih1 _ _ _ _ _ _ _)
   | (with_reducible exact ih2 _ _ _)
   | (with_reducible exact impl_MeetOf.mono _ _ _ _)
   | (with_reducible exact laws_eqGroup.mono _ _ _)
   | (with_reducible exact laws_heldGroup.mono _ _ _)
   | (with_reducible exact laws_markGroup.mono _ _ _)
   | (with_reducible exact laws_toGroup.mono _ _)
   | (with_reducible exact spec_MeetOf.mono _ _ _ _)
   | (with_reducible exact LeO.refl _)
   | (with_reducible exact LeO.none _)
   | (with_reducible refine LeO.ite ?_ ?_)
   | (with_reducible refine LeO.bind ?_ (fun _ => ?_))
   | exact ih0 _ _ _ _ _ _ _ _ _ _
   | exact ih1 _ _ _ _ _ _ _
   | exact ih2 _ _ _
   | exact impl_MeetOf.mono _ _ _ _
   | exact laws_eqGroup.mono _ _ _
   | exact laws_heldGroup.mono _ _ _
   | exact laws_markGroup.mono _ _ _
   | exact laws_toGroup.mono _ _
   | exact spec_MeetOf.mono _ _ _ _
   | exact LeO.none _
   | refine LeO.ite ?_ ?_
   | refine LeO.bind ?_ (fun _ => ?_)
def laws_FnExactMeetOf.T8 : Bool × List (List Nat × List Nat) := (true, [([], []), ([0], [0]), ([], []), ([2, 1], [2]), ([], []), ([1, 3, 4, 3], [1, 3, 4]), ([5], [5]), ([6], [6]), ([6], [6]), ([], []), ([9, 7, 5, 0, 1, 2, 3, 4, 5, 6, 7, 9], [7, 9]), ([8, 10, 0, 1, 2, 3, 4, 5, 6, 7, 8, 9, 10], [8])])
def laws_FnExactMeetOf.B8 : List Nat := [0, 1, 0, 7, 0, 31, 63, 127, 127, 0, 767, 2047]
theorem laws_FnExactMeetOf.tab8 : rtab .any (opsOf Try.f8 8) = laws_FnExactMeetOf.T8 := by kernel_rfl
theorem laws_FnExactMeetOf.bits8 : waitsOk laws_FnExactMeetOf.T8.2 laws_FnExactMeetOf.B8 = true := by kernel_rfl
def laws_FnExactMeetOf.T31 : Bool × List (List Nat × List Nat) := (true, [([], []), ([0], [0]), ([], []), ([2, 1], [2]), ([], []), ([1, 3, 4, 3], [1, 3, 4]), ([5], [5]), ([6], [6]), ([6], [6]), ([], []), ([9, 7, 5, 0, 1, 2, 3, 4, 5, 6, 7, 9], [7, 9]), ([8, 10, 0, 1, 2, 3, 4, 5, 6, 7, 8, 9, 10], [8])])
def laws_FnExactMeetOf.B31 : List Nat := [0, 1, 0, 7, 0, 31, 63, 127, 127, 0, 767, 2047]
theorem laws_FnExactMeetOf.tab31 : rtab .any (opsOf Try.f8 31) = laws_FnExactMeetOf.T31 := by kernel_rfl
theorem laws_FnExactMeetOf.bits31 : waitsOk laws_FnExactMeetOf.T31.2 laws_FnExactMeetOf.B31 = true := by kernel_rfl
set_option maxHeartbeats 8000000 in
set_option maxRecDepth 100000 in
theorem laws_FnExactMeetOf.calls (k : Nat) (A0_0 : Option Addr) (c0_0 : Nat) (l0_0 : List Int) (A1_0 : Option Addr) (c1_0 : Nat) (l1_0 : List Int) (a2 : Int) (r : Bool) (w : World) (hr0_0 : Kd.C (Kd.int .i64) w A0_0 l0_0.length l0_0) (hc0_0 : l0_0.length ≤ c0_0) (hr1_0 : Kd.C (Kd.int .i64) w A1_0 l1_0.length l1_0) (hc1_0 : l1_0.length ≤ c1_0) (h : laws_FnExactMeetOf.f k l0_0 l1_0 a2 = some r) :
  Calls Try.prog 8 #[.agg #[.slice A0_0 l0_0.length c0_0], .agg #[.slice A1_0 l1_0.length c1_0], .int .i64 a2] w fun e w' => e = .returned (.bool r) ∧ Below w.heap.size w w' := by
 have hu24 := Try.underlying24
 have hu28 := Try.underlying28
 have HR0_0 := Aside0.mk hr0_0
 have HC0_0 := Aside0.mk hc0_0
 clear hr0_0 hc0_0
 have HR1_0 := Aside0.mk hr1_0
 have HC1_0 := Aside0.mk hc1_0
 clear hr1_0 hc1_0
 have HB := Aside0.mk (Below.refl w.heap.size w)
 have H : ((laws_szGroup.f l0_0 1048576).bind fun t177 => (if t177 < 0 then (some true) else ((laws_szGroup.f l1_0 t177).bind fun t178 => (if t178 < 0 then (some true) else ((laws_toGroup.f k l0_0).bind fun t179 => ((laws_toGroup.f k l1_0).bind fun t182 => ((spec_MeetOf.f k t179 t182 a2).bind fun bt185 => ((laws_toGroup.f k l0_0).bind fun t190 => ((laws_toGroup.f k l1_0).bind fun t194 => ((impl_MeetOf.f k t190 t194 a2).bind fun bt198 => ((laws_eqGroup.f k bt198.1 bt185.1).bind fun t203 => (if t203 = true then (laws_FnExactMeetOf.j0 k a2 bt185.2 bt198.2 (bt198.2 != bt185.2) l0_0 l1_0 bt185.1 t190 t194 bt198.1) else (none))))))))))))) = some r := h
 clear h
 replace H := Option.bind_eq_some_iff.mp H
 obtain ⟨t177, A40, H⟩ := H
 replace H : (if t177 < 0 then (some true) else ((laws_szGroup.f l1_0 t177).bind fun t178 => (if t178 < 0 then (some true) else ((laws_toGroup.f k l0_0).bind fun t179 => ((laws_toGroup.f k l1_0).bind fun t182 => ((spec_MeetOf.f k t179 t182 a2).bind fun bt185 => ((laws_toGroup.f k l0_0).bind fun t190 => ((laws_toGroup.f k l1_0).bind fun t194 => ((impl_MeetOf.f k t190 t194 a2).bind fun bt198 => ((laws_eqGroup.f k bt198.1 bt185.1).bind fun t203 => (if t203 = true then (laws_FnExactMeetOf.j0 k a2 bt185.2 bt198.2 (bt198.2 != bt185.2) l0_0 l1_0 bt185.1 t190 t194 bt198.1) else (none)))))))))))) = some r := H
 have A4 := Aside0.mk A40
 clear A40
 by_cases c5 : t177 < 0
 ·rw [if_pos c5] at H
  have c5b0 : decide (t177 < 0) = true := decide_eq_true c5
  clear c5
  obtain rfl := Option.some.inj H
  go_enter Try.func8, Try.ntmps8
  go_wp2_with (first | ((with_reducible refine gate_dst (N := 3) rfl ?_); refine box_event ?hg (N := 3) ?hd (cs := #[.slice A0_0 l0_0.length c0_0]) (t := 24) ?hr ?_; (case hd => rfl); (case hg => rfl); (case hr => first | (go_simp; done) | (go_simp; rfl)); intro gb175 hg w6 hbox hb; have n0_ := Aside0.mk (below_step (by repeat (first | (with_reducible first | exact HB.out | apply below_alloc | apply pw_below_drewN | apply below_drew1) | exact HB.out)) hb); have n1_ := Aside0.mk (hbox); have n2_ := Aside0.mk ((by rw [hg]; exact (below_size (by repeat (first | (with_reducible first | exact HB.out | apply below_alloc | apply pw_below_drewN | apply below_drew1) | exact HB.out))) : w.heap.size ≤ gb175)); have n3_ := Aside0.mk ((by rw [hg]; exact (below_size (by repeat (first | (with_reducible first | exact HB.out | apply below_alloc | apply pw_below_drewN | apply below_drew1) | exact HB.out))) : w.heap.size ≤ gb175)); clear HB; have HB := n0_; have BK175 := n1_; have GW175 := n2_; have GE175 := n3_; clear n0_ n1_ n2_ n3_; clear hb hbox hg) | ((with_reducible refine gate_dst (N := 4) rfl ?_); refine box_event ?hg (N := 4) ?hd (cs := #[.slice A1_0 l1_0.length c1_0]) (t := 24) ?hr ?_; (case hd => rfl); (case hg => rfl); (case hr => first | (go_simp; done) | (go_simp; rfl)); intro gb176 hg w7 hbox hb; have n0_ := Aside0.mk (blk_below (g := gb175) (o := .cells #[.slice A0_0 l0_0.length c0_0] 24 (0, 0)) (kb_ BK175.out) hb); have n1_ := Aside0.mk (below_step (by repeat (first | (with_reducible first | exact HB.out | apply below_alloc | apply pw_below_drewN | apply below_drew1 | refine below_set ?_ GE175.out) | exact HB.out)) hb); have n2_ := Aside0.mk (hbox); have n3_ := Aside0.mk ((by rw [hg]; exact (below_size (by repeat (first | (with_reducible first | exact HB.out | apply below_alloc | apply pw_below_drewN | apply below_drew1 | refine below_set ?_ GE175.out) | exact HB.out))) : w.heap.size ≤ gb176)); have n4_ := Aside0.mk ((by rw [hg]; exact (below_size (by repeat (first | (with_reducible first | exact HB.out | apply below_alloc | apply pw_below_drewN | apply below_drew1 | refine below_set ?_ GE175.out) | exact HB.out))) : w.heap.size ≤ gb176)); have n5_ := Aside0.mk ((by rw [hg]; exact Nat.ne_of_lt (blk_lt (g := gb175) (o := .cells #[.slice A0_0 l0_0.length c0_0] 24 (0, 0)) (kb_ BK175.out)) : gb175 ≠ gb176)); have n6_ := Aside0.mk ((by rw [hg]; exact Nat.ne_of_gt (blk_lt (g := gb175) (o := .cells #[.slice A0_0 l0_0.length c0_0] 24 (0, 0)) (kb_ BK175.out)) : gb176 ≠ gb175)); clear BK175; clear HB; have BK175 := n0_; have HB := n1_; have BK176 := n2_; have GW176 := n3_; have GE176 := n4_; have NB175_176 := n5_; have NB176_175 := n6_; clear n0_ n1_ n2_ n3_ n4_ n5_ n6_; clear hb hbox hg; have hnb8 := NB175_176.out; have hnc8 := NB176_175.out; have hcz9_0 : w7.cell? ⟨gb175, 0, none⟩ = some (.slice A0_0 l0_0.length c0_0) := (blk_cell BK175.out 0).trans rfl; have hfz9_0 := blk_frozen BK175.out 0) | ((with_reducible refine gate_callee (f := 12) rfl ?_); refine goesL_ (some 21) rfl rfl Try.func12 (by kernel_rfl) rfl #[.agg #[.slice A0_0 l0_0.length c0_0], .int .i64 1048576] rfl (by (try simp only [List.map_toArray, List.map_cons, List.map_nil]); first | done | rfl | (simp only [List.length_drop, List.length_take]; rfl)) ?_; (with_reducible refine (laws_szGroup.calls _ _ l0_0 1048576 t177 _ ?side1 ?side2 A4.out).mono ?_); (case side1 => repeat (first | exact (Kd.C_below HR0_0.out HB.out) | (with_reducible refine Kd.C_alloc ?_ _) | (with_reducible refine Kd.C_drewN ?_ _) | (with_reducible refine Kd.C_drew ?_))); (case side2 => exact HC0_0.out); rintro e w10 ⟨rfl, hb⟩; refine ⟨_, rfl, ?_⟩; have n0_ := Aside0.mk (blk_below (g := gb175) (o := .cells #[.slice A0_0 l0_0.length c0_0] 24 (0, 0)) (kb_ BK175.out) hb); have n1_ := Aside0.mk (blk_below (g := gb176) (o := .cells #[.slice A1_0 l1_0.length c1_0] 24 (0, 0)) (kb_ BK176.out) hb); have n2_ := Aside0.mk (below_step (by repeat (first | (with_reducible first | exact HB.out | apply below_alloc | apply pw_below_drewN | apply below_drew1 | refine below_set ?_ GE175.out | refine below_set ?_ GE176.out) | exact HB.out)) hb); clear BK175; clear BK176; clear HB; have BK175 := n0_; have BK176 := n1_; have HB := n2_; clear n0_ n1_ n2_; (try clear hb); (try clear hb2); (try clear hk); (try clear hi)))
  go_ret
  exact ⟨by first | rfl | (simp [errW_none, errW_some] <;> rfl) | (simp [*, errW_none, errW_some] <;> rfl), by repeat (first | (with_reducible first | exact HB.out | apply below_alloc | apply pw_below_drewN | apply below_drew1 | refine below_set ?_ GE175.out | refine below_set ?_ GE176.out) | exact HB.out)⟩
 rw [if_neg c5] at H
 have c5b0 : decide (t177 < 0) = false := decide_eq_false c5
 clear c5
 replace H := Option.bind_eq_some_iff.mp H
 obtain ⟨t178, A110, H⟩ := H
 replace H : (if t178 < 0 then (some true) else ((laws_toGroup.f k l0_0).bind fun t179 => ((laws_toGroup.f k l1_0).bind fun t182 => ((spec_MeetOf.f k t179 t182 a2).bind fun bt185 => ((laws_toGroup.f k l0_0).bind fun t190 => ((laws_toGroup.f k l1_0).bind fun t194 => ((impl_MeetOf.f k t190 t194 a2).bind fun bt198 => ((laws_eqGroup.f k bt198.1 bt185.1).bind fun t203 => (if t203 = true then (laws_FnExactMeetOf.j0 k a2 bt185.2 bt198.2 (bt198.2 != bt185.2) l0_0 l1_0 bt185.1 t190 t194 bt198.1) else (none)))))))))) = some r := H
 have A11 := Aside0.mk A110
 clear A110
 by_cases c12 : t178 < 0
 ·rw [if_pos c12] at H
  have c12b0 : decide (t178 < 0) = true := decide_eq_true c12
  clear c12
  obtain rfl := Option.some.inj H
  go_enter Try.func8, Try.ntmps8
  go_wp2_with (first | ((with_reducible refine gate_dst (N := 3) rfl ?_); refine box_event ?hg (N := 3) ?hd (cs := #[.slice A0_0 l0_0.length c0_0]) (t := 24) ?hr ?_; (case hd => rfl); (case hg => rfl); (case hr => first | (go_simp; done) | (go_simp; rfl)); intro gb175 hg w13 hbox hb; have n0_ := Aside0.mk (below_step (by repeat (first | (with_reducible first | exact HB.out | apply below_alloc | apply pw_below_drewN | apply below_drew1) | exact HB.out)) hb); have n1_ := Aside0.mk (hbox); have n2_ := Aside0.mk ((by rw [hg]; exact (below_size (by repeat (first | (with_reducible first | exact HB.out | apply below_alloc | apply pw_below_drewN | apply below_drew1) | exact HB.out))) : w.heap.size ≤ gb175)); have n3_ := Aside0.mk ((by rw [hg]; exact (below_size (by repeat (first | (with_reducible first | exact HB.out | apply below_alloc | apply pw_below_drewN | apply below_drew1) | exact HB.out))) : w.heap.size ≤ gb175)); clear HB; have HB := n0_; have BK175 := n1_; have GW175 := n2_; have GE175 := n3_; clear n0_ n1_ n2_ n3_; clear hb hbox hg) | ((with_reducible refine gate_dst (N := 4) rfl ?_); refine box_event ?hg (N := 4) ?hd (cs := #[.slice A1_0 l1_0.length c1_0]) (t := 24) ?hr ?_; (case hd => rfl); (case hg => rfl); (case hr => first | (go_simp; done) | (go_simp; rfl)); intro gb176 hg w14 hbox hb; have n0_ := Aside0.mk (blk_below (g := gb175) (o := .cells #[.slice A0_0 l0_0.length c0_0] 24 (0, 0)) (kb_ BK175.out) hb); have n1_ := Aside0.mk (below_step (by repeat (first | (with_reducible first | exact HB.out | apply below_alloc | apply pw_below_drewN | apply below_drew1 | refine below_set ?_ GE175.out) | exact HB.out)) hb); have n2_ := Aside0.mk (hbox); have n3_ := Aside0.mk ((by rw [hg]; exact (below_size (by repeat (first | (with_reducible first | exact HB.out | apply below_alloc | apply pw_below_drewN | apply below_drew1 | refine below_set ?_ GE175.out) | exact HB.out))) : w.heap.size ≤ gb176)); have n4_ := Aside0.mk ((by rw [hg]; exact (below_size (by repeat (first | (with_reducible first | exact HB.out | apply below_alloc | apply pw_below_drewN | apply below_drew1 | refine below_set ?_ GE175.out) | exact HB.out))) : w.heap.size ≤ gb176)); have n5_ := Aside0.mk ((by rw [hg]; exact Nat.ne_of_lt (blk_lt (g := gb175) (o := .cells #[.slice A0_0 l0_0.length c0_0] 24 (0, 0)) (kb_ BK175.out)) : gb175 ≠ gb176)); have n6_ := Aside0.mk ((by rw [hg]; exact Nat.ne_of_gt (blk_lt (g := gb175) (o := .cells #[.slice A0_0 l0_0.length c0_0] 24 (0, 0)) (kb_ BK175.out)) : gb176 ≠ gb175)); clear BK175; clear HB; have BK175 := n0_; have HB := n1_; have BK176 := n2_; have GW176 := n3_; have GE176 := n4_; have NB175_176 := n5_; have NB176_175 := n6_; clear n0_ n1_ n2_ n3_ n4_ n5_ n6_; clear hb hbox hg; have hnb15 := NB175_176.out; have hnc15 := NB176_175.out; have hcz16_0 : w14.cell? ⟨gb175, 0, none⟩ = some (.slice A0_0 l0_0.length c0_0) := (blk_cell BK175.out 0).trans rfl; have hfz16_0 := blk_frozen BK175.out 0) | ((with_reducible refine gate_callee (f := 12) rfl ?_); refine goesL_ (some 21) rfl rfl Try.func12 (by kernel_rfl) rfl #[.agg #[.slice A0_0 l0_0.length c0_0], .int .i64 1048576] rfl (by (try simp only [List.map_toArray, List.map_cons, List.map_nil]); first | done | rfl | (simp only [List.length_drop, List.length_take]; rfl)) ?_; (with_reducible refine (laws_szGroup.calls _ _ l0_0 1048576 t177 _ ?side1 ?side2 A4.out).mono ?_); (case side1 => repeat (first | exact (Kd.C_below HR0_0.out HB.out) | (with_reducible refine Kd.C_alloc ?_ _) | (with_reducible refine Kd.C_drewN ?_ _) | (with_reducible refine Kd.C_drew ?_))); (case side2 => exact HC0_0.out); rintro e w17 ⟨rfl, hb⟩; refine ⟨_, rfl, ?_⟩; have n0_ := Aside0.mk (blk_below (g := gb175) (o := .cells #[.slice A0_0 l0_0.length c0_0] 24 (0, 0)) (kb_ BK175.out) hb); have n1_ := Aside0.mk (blk_below (g := gb176) (o := .cells #[.slice A1_0 l1_0.length c1_0] 24 (0, 0)) (kb_ BK176.out) hb); have n2_ := Aside0.mk (below_step (by repeat (first | (with_reducible first | exact HB.out | apply below_alloc | apply pw_below_drewN | apply below_drew1 | refine below_set ?_ GE175.out | refine below_set ?_ GE176.out) | exact HB.out)) hb); clear BK175; clear BK176; clear HB; have BK175 := n0_; have BK176 := n1_; have HB := n2_; clear n0_ n1_ n2_; (try clear hb); (try clear hb2); (try clear hk); (try clear hi); have hcz18_0 : w17.cell? ⟨gb176, 0, none⟩ = some (.slice A1_0 l1_0.length c1_0) := (blk_cell BK176.out 0).trans rfl; have hfz18_0 := blk_frozen BK176.out 0) | ((with_reducible refine gate_callee (f := 12) rfl ?_); refine goesL_ (some 26) rfl rfl Try.func12 (by kernel_rfl) rfl #[.agg #[.slice A1_0 l1_0.length c1_0], .int .i64 t177] rfl (by (try simp only [List.map_toArray, List.map_cons, List.map_nil]); first | done | rfl | (simp only [List.length_drop, List.length_take]; rfl)) ?_; (with_reducible refine (laws_szGroup.calls _ _ l1_0 t177 t178 _ ?side1 ?side2 A11.out).mono ?_); (case side1 => repeat (first | exact (Kd.C_below HR1_0.out HB.out) | (with_reducible refine Kd.C_alloc ?_ _) | (with_reducible refine Kd.C_drewN ?_ _) | (with_reducible refine Kd.C_drew ?_))); (case side2 => exact HC1_0.out); rintro e w19 ⟨rfl, hb⟩; refine ⟨_, rfl, ?_⟩; have n0_ := Aside0.mk (blk_below (g := gb175) (o := .cells #[.slice A0_0 l0_0.length c0_0] 24 (0, 0)) (kb_ BK175.out) hb); have n1_ := Aside0.mk (blk_below (g := gb176) (o := .cells #[.slice A1_0 l1_0.length c1_0] 24 (0, 0)) (kb_ BK176.out) hb); have n2_ := Aside0.mk (below_step (by repeat (first | (with_reducible first | exact HB.out | apply below_alloc | apply pw_below_drewN | apply below_drew1 | refine below_set ?_ GE175.out | refine below_set ?_ GE176.out) | exact HB.out)) hb); clear BK175; clear BK176; clear HB; have BK175 := n0_; have BK176 := n1_; have HB := n2_; clear n0_ n1_ n2_; (try clear hb); (try clear hb2); (try clear hk); (try clear hi)))
  go_ret
  exact ⟨by first | rfl | (simp [errW_none, errW_some] <;> rfl) | (simp [*, errW_none, errW_some] <;> rfl), by repeat (first | (with_reducible first | exact HB.out | apply below_alloc | apply pw_below_drewN | apply below_drew1 | refine below_set ?_ GE175.out | refine below_set ?_ GE176.out) | exact HB.out)⟩
 rw [if_neg c12] at H
 have c12b0 : decide (t178 < 0) = false := decide_eq_false c12
 clear c12
 replace H := Option.bind_eq_some_iff.mp H
 obtain ⟨t179, A200, H⟩ := H
 replace H : ((laws_toGroup.f k l1_0).bind fun t182 => ((spec_MeetOf.f k t179 t182 a2).bind fun bt185 => ((laws_toGroup.f k l0_0).bind fun t190 => ((laws_toGroup.f k l1_0).bind fun t194 => ((impl_MeetOf.f k t190 t194 a2).bind fun bt198 => ((laws_eqGroup.f k bt198.1 bt185.1).bind fun t203 => (if t203 = true then (laws_FnExactMeetOf.j0 k a2 bt185.2 bt198.2 (bt198.2 != bt185.2) l0_0 l1_0 bt185.1 t190 t194 bt198.1) else (none)))))))) = some r := H
 have A20 := Aside0.mk A200
 clear A200
 replace H := Option.bind_eq_some_iff.mp H
 obtain ⟨t182, A210, H⟩ := H
 replace H : ((spec_MeetOf.f k t179 t182 a2).bind fun bt185 => ((laws_toGroup.f k l0_0).bind fun t190 => ((laws_toGroup.f k l1_0).bind fun t194 => ((impl_MeetOf.f k t190 t194 a2).bind fun bt198 => ((laws_eqGroup.f k bt198.1 bt185.1).bind fun t203 => (if t203 = true then (laws_FnExactMeetOf.j0 k a2 bt185.2 bt198.2 (bt198.2 != bt185.2) l0_0 l1_0 bt185.1 t190 t194 bt198.1) else (none))))))) = some r := H
 have A21 := Aside0.mk A210
 clear A210
 replace H := Option.bind_eq_some_iff.mp H
 obtain ⟨⟨t185, t188⟩, A220, H⟩ := H
 replace H : ((laws_toGroup.f k l0_0).bind fun t190 => ((laws_toGroup.f k l1_0).bind fun t194 => ((impl_MeetOf.f k t190 t194 a2).bind fun bt198 => ((laws_eqGroup.f k bt198.1 t185).bind fun t203 => (if t203 = true then (laws_FnExactMeetOf.j0 k a2 t188 bt198.2 (bt198.2 != t188) l0_0 l1_0 t185 t190 t194 bt198.1) else (none)))))) = some r := H
 have A22 := Aside0.mk A220
 clear A220
 replace H := Option.bind_eq_some_iff.mp H
 obtain ⟨t190, A230, H⟩ := H
 replace H : ((laws_toGroup.f k l1_0).bind fun t194 => ((impl_MeetOf.f k t190 t194 a2).bind fun bt198 => ((laws_eqGroup.f k bt198.1 t185).bind fun t203 => (if t203 = true then (laws_FnExactMeetOf.j0 k a2 t188 bt198.2 (bt198.2 != t188) l0_0 l1_0 t185 t190 t194 bt198.1) else (none))))) = some r := H
 have A23 := Aside0.mk A230
 clear A230
 replace H := Option.bind_eq_some_iff.mp H
 obtain ⟨t194, A240, H⟩ := H
 replace H : ((impl_MeetOf.f k t190 t194 a2).bind fun bt198 => ((laws_eqGroup.f k bt198.1 t185).bind fun t203 => (if t203 = true then (laws_FnExactMeetOf.j0 k a2 t188 bt198.2 (bt198.2 != t188) l0_0 l1_0 t185 t190 t194 bt198.1) else (none)))) = some r := H
 have A24 := Aside0.mk A240
 clear A240
 replace H := Option.bind_eq_some_iff.mp H
 obtain ⟨⟨t198, t201⟩, A250, H⟩ := H
 replace H : ((laws_eqGroup.f k t198 t185).bind fun t203 => (if t203 = true then (laws_FnExactMeetOf.j0 k a2 t188 t201 (t201 != t188) l0_0 l1_0 t185 t190 t194 t198) else (none))) = some r := H
 have A25 := Aside0.mk A250
 clear A250
 have HC26 := Aside0.mk H
 clear H
 go_enter Try.func8, Try.ntmps8
 try go_wp2_with (first | ((with_reducible refine gate_dst (N := 3) rfl ?_); refine box_event ?hg (N := 3) ?hd (cs := #[.slice A0_0 l0_0.length c0_0]) (t := 24) ?hr ?_; (case hd => rfl); (case hg => rfl); (case hr => first | (go_simp; done) | (go_simp; rfl)); intro gb175 hg w27 hbox hb; have n0_ := Aside0.mk (below_step (by repeat (first | (with_reducible first | exact HB.out | apply below_alloc | apply pw_below_drewN | apply below_drew1) | exact HB.out)) hb); have n1_ := Aside0.mk (hbox); have n2_ := Aside0.mk ((by rw [hg]; exact (below_size (by repeat (first | (with_reducible first | exact HB.out | apply below_alloc | apply pw_below_drewN | apply below_drew1) | exact HB.out))) : w.heap.size ≤ gb175)); have n3_ := Aside0.mk ((by rw [hg]; exact (below_size (by repeat (first | (with_reducible first | exact HB.out | apply below_alloc | apply pw_below_drewN | apply below_drew1) | exact HB.out))) : w.heap.size ≤ gb175)); clear HB; have HB := n0_; have BK175 := n1_; have GW175 := n2_; have GE175 := n3_; clear n0_ n1_ n2_ n3_; clear hb hbox hg) | ((with_reducible refine gate_dst (N := 4) rfl ?_); refine box_event ?hg (N := 4) ?hd (cs := #[.slice A1_0 l1_0.length c1_0]) (t := 24) ?hr ?_; (case hd => rfl); (case hg => rfl); (case hr => first | (go_simp; done) | (go_simp; rfl)); intro gb176 hg w28 hbox hb; have n0_ := Aside0.mk (blk_below (g := gb175) (o := .cells #[.slice A0_0 l0_0.length c0_0] 24 (0, 0)) (kb_ BK175.out) hb); have n1_ := Aside0.mk (below_step (by repeat (first | (with_reducible first | exact HB.out | apply below_alloc | apply pw_below_drewN | apply below_drew1 | refine below_set ?_ GE175.out) | exact HB.out)) hb); have n2_ := Aside0.mk (hbox); have n3_ := Aside0.mk ((by rw [hg]; exact (below_size (by repeat (first | (with_reducible first | exact HB.out | apply below_alloc | apply pw_below_drewN | apply below_drew1 | refine below_set ?_ GE175.out) | exact HB.out))) : w.heap.size ≤ gb176)); have n4_ := Aside0.mk ((by rw [hg]; exact (below_size (by repeat (first | (with_reducible first | exact HB.out | apply below_alloc | apply pw_below_drewN | apply below_drew1 | refine below_set ?_ GE175.out) | exact HB.out))) : w.heap.size ≤ gb176)); have n5_ := Aside0.mk ((by rw [hg]; exact Nat.ne_of_lt (blk_lt (g := gb175) (o := .cells #[.slice A0_0 l0_0.length c0_0] 24 (0, 0)) (kb_ BK175.out)) : gb175 ≠ gb176)); have n6_ := Aside0.mk ((by rw [hg]; exact Nat.ne_of_gt (blk_lt (g := gb175) (o := .cells #[.slice A0_0 l0_0.length c0_0] 24 (0, 0)) (kb_ BK175.out)) : gb176 ≠ gb175)); clear BK175; clear HB; have BK175 := n0_; have HB := n1_; have BK176 := n2_; have GW176 := n3_; have GE176 := n4_; have NB175_176 := n5_; have NB176_175 := n6_; clear n0_ n1_ n2_ n3_ n4_ n5_ n6_; clear hb hbox hg; have hnb29 := NB175_176.out; have hnc29 := NB176_175.out; have hcz30_0 : w28.cell? ⟨gb175, 0, none⟩ = some (.slice A0_0 l0_0.length c0_0) := (blk_cell BK175.out 0).trans rfl; have hfz30_0 := blk_frozen BK175.out 0) | ((with_reducible refine gate_callee (f := 12) rfl ?_); refine goesL_ (some 21) rfl rfl Try.func12 (by kernel_rfl) rfl #[.agg #[.slice A0_0 l0_0.length c0_0], .int .i64 1048576] rfl (by (try simp only [List.map_toArray, List.map_cons, List.map_nil]); first | done | rfl | (simp only [List.length_drop, List.length_take]; rfl)) ?_; (with_reducible refine (laws_szGroup.calls _ _ l0_0 1048576 t177 _ ?side1 ?side2 A4.out).mono ?_); (case side1 => repeat (first | exact (Kd.C_below HR0_0.out HB.out) | (with_reducible refine Kd.C_alloc ?_ _) | (with_reducible refine Kd.C_drewN ?_ _) | (with_reducible refine Kd.C_drew ?_))); (case side2 => exact HC0_0.out); rintro e w31 ⟨rfl, hb⟩; refine ⟨_, rfl, ?_⟩; have n0_ := Aside0.mk (blk_below (g := gb175) (o := .cells #[.slice A0_0 l0_0.length c0_0] 24 (0, 0)) (kb_ BK175.out) hb); have n1_ := Aside0.mk (blk_below (g := gb176) (o := .cells #[.slice A1_0 l1_0.length c1_0] 24 (0, 0)) (kb_ BK176.out) hb); have n2_ := Aside0.mk (below_step (by repeat (first | (with_reducible first | exact HB.out | apply below_alloc | apply pw_below_drewN | apply below_drew1 | refine below_set ?_ GE175.out | refine below_set ?_ GE176.out) | exact HB.out)) hb); clear BK175; clear BK176; clear HB; have BK175 := n0_; have BK176 := n1_; have HB := n2_; clear n0_ n1_ n2_; (try clear hb); (try clear hb2); (try clear hk); (try clear hi); have hcz32_0 : w31.cell? ⟨gb176, 0, none⟩ = some (.slice A1_0 l1_0.length c1_0) := (blk_cell BK176.out 0).trans rfl; have hfz32_0 := blk_frozen BK176.out 0) | ((with_reducible refine gate_callee (f := 12) rfl ?_); refine goesL_ (some 26) rfl rfl Try.func12 (by kernel_rfl) rfl #[.agg #[.slice A1_0 l1_0.length c1_0], .int .i64 t177] rfl (by (try simp only [List.map_toArray, List.map_cons, List.map_nil]); first | done | rfl | (simp only [List.length_drop, List.length_take]; rfl)) ?_; (with_reducible refine (laws_szGroup.calls _ _ l1_0 t177 t178 _ ?side1 ?side2 A11.out).mono ?_); (case side1 => repeat (first | exact (Kd.C_below HR1_0.out HB.out) | (with_reducible refine Kd.C_alloc ?_ _) | (with_reducible refine Kd.C_drewN ?_ _) | (with_reducible refine Kd.C_drew ?_))); (case side2 => exact HC1_0.out); rintro e w33 ⟨rfl, hb⟩; refine ⟨_, rfl, ?_⟩; have n0_ := Aside0.mk (blk_below (g := gb175) (o := .cells #[.slice A0_0 l0_0.length c0_0] 24 (0, 0)) (kb_ BK175.out) hb); have n1_ := Aside0.mk (blk_below (g := gb176) (o := .cells #[.slice A1_0 l1_0.length c1_0] 24 (0, 0)) (kb_ BK176.out) hb); have n2_ := Aside0.mk (below_step (by repeat (first | (with_reducible first | exact HB.out | apply below_alloc | apply pw_below_drewN | apply below_drew1 | refine below_set ?_ GE175.out | refine below_set ?_ GE176.out) | exact HB.out)) hb); clear BK175; clear BK176; clear HB; have BK175 := n0_; have BK176 := n1_; have HB := n2_; clear n0_ n1_ n2_; (try clear hb); (try clear hb2); (try clear hk); (try clear hi)))
 have n0_ := Aside0.mk (blk_drew BK175.out)
 have n1_ := Aside0.mk (blk_drew BK176.out)
 have n2_ := Aside0.mk (below_drew1 HB.out)
 clear BK175
 clear BK176
 clear HB
 have BK175 := n0_
 have BK176 := n1_
 have HB := n2_
 clear n0_ n1_ n2_
 refine start_ (n := 12) (S := fun w' => w'.cell? ⟨gb175, 0, none⟩ = some (.slice A0_0 l0_0.length c0_0) ∧ w'.cell? ⟨gb176, 0, none⟩ = some (.slice A1_0 l1_0.length c1_0)) (ds := []) #[false, false, false, false, false, false, false, false, false, false, false, false] (by kernel_rfl) rfl rfl ⟨(blk_cell BK175.out 0).trans rfl, (blk_cell BK176.out 0).trans rfl⟩ (fun hHeld => ?_); refine with_tabW laws_FnExactMeetOf.tab8 laws_FnExactMeetOf.bits8 (fun HT_ HW_ => ?_)
 generalize w33.drew = w34 at BK175 BK176 HB hHeld ⊢
 refine pure_ (i := 4) (N := some 34) (v := ?_) (a' := ?_) #[false, false, false, false, true, false, false, false, false, false, false, false] rfl rfl (any_of HT_.out (by kernel_rfl)) (fun _ _ _ h => h) (Or.inl ⟨by rfl, ?_⟩) ?_ ?_
 rotate_left
 ·intro w'
  go_simp
  with_reducible rfl
 rotate_left
 ·simp only [Act.put, List.setIfInBounds_toArray, List.set_cons_zero, List.set_cons_succ, i64_w, i32_w]
  rfl
 refine take_ (i := 0) (N := some 30) (v := ?_) (a' := ?_) #[true, false, false, false, true, false, false, false, false, false, false, false] rfl rfl (take_ofW HT_.out HW_.out (by kernel_rfl)) (fun _ _ _ h => h) (Or.inl ⟨by rfl, ?_⟩) hHeld ?_ ?_
 rotate_left
 ·rintro w' ⟨s0, s1⟩
  go_simp
  with_reducible rfl
 rotate_left
 ·simp only [Act.put, List.setIfInBounds_toArray, List.set_cons_zero, List.set_cons_succ, i64_w, i32_w]
  rfl
 refine take_ (i := 2) (N := some 32) (v := ?_) (a' := ?_) #[true, false, true, false, true, false, false, false, false, false, false, false] rfl rfl (take_ofW HT_.out HW_.out (by kernel_rfl)) (fun _ _ _ h => h) (Or.inl ⟨by rfl, ?_⟩) hHeld ?_ ?_
 rotate_left
 ·rintro w' ⟨s0, s1⟩
  go_simp
  with_reducible rfl
 rotate_left
 ·simp only [Act.put, List.setIfInBounds_toArray, List.set_cons_zero, List.set_cons_succ, i64_w, i32_w]
  rfl
 refine join_ (σ := Value × Value × Value × Nat) 2 #[true, true, true, true, true, true, true, true, true, true, false, false] (fun s_ => [(31, .agg #[s_.1]), (33, .agg #[s_.2.1]), (35, .tuple #[.agg #[s_.2.2.1], .bool t188]), (8, .pointer (some ⟨s_.2.2.2, 0, none⟩)), (29, .tuple #[.agg #[s_.2.2.1], .bool t188]), (36, .agg #[s_.2.2.1]), (37, .bool t188)]) (fun s_ w' => (w'.cell? ⟨gb175, 0, none⟩ = some (.slice A0_0 l0_0.length c0_0) ∧ w'.cell? ⟨gb176, 0, none⟩ = some (.slice A1_0 l1_0.length c1_0)) ∧ (Kd.R (Kd.int .i64) 3 w' w.heap.size (fun k_ => some k_ ≠ (s_.2.1 : Value).ownBlock ∧ some k_ ≠ (s_.2.2.1 : Value).ownBlock) s_.1 t179) ∧ (Kd.R (Kd.int .i64) 3 w' w.heap.size (fun k_ => some k_ ≠ (s_.1 : Value).ownBlock ∧ some k_ ≠ (s_.2.2.1 : Value).ownBlock) s_.2.1 t182) ∧ (Kd.R (Kd.int .i64) 3 w' w.heap.size (fun k_ => some k_ ≠ (s_.1 : Value).ownBlock ∧ some k_ ≠ (s_.2.1 : Value).ownBlock) s_.2.2.1 t185) ∧ (w'.heap[gb175]? = some (.cells #[.slice A0_0 l0_0.length c0_0] 24 (0, 0))) ∧ (w'.heap[gb176]? = some (.cells #[.slice A1_0 l1_0.length c1_0] 24 (0, 0))) ∧ (w'.heap[s_.2.2.2]? = some (.cells #[.slice none 0 0] 28 (0, 0))) ∧ (w.heap.size ≤ s_.2.2.2) ∧ (w.heap.size ≤ s_.2.2.2) ∧ (gb175 ≠ s_.2.2.2) ∧ (s_.2.2.2 ≠ gb175) ∧ (gb176 ≠ s_.2.2.2) ∧ (s_.2.2.2 ≠ gb176) ∧ (Below w.heap.size w w')) ?_ ?_
 rotate_left
 ·intro hCont
  refine two_ (i := 1) (j := 9) (Ni := some 31) (Nj := some 8) #[true, true, true, false, true, false, false, false, false, false, false, false] #[true, false, true, false, true, false, false, false, false, true, false, false] rfl rfl rfl rfl (two_of HT_.out (by kernel_rfl)) (by decide) (by decide) (fun K hK => ?_) (fun K hK => ?_)
  ·skip
   refine goes_ Try.func14 (by kernel_rfl) rfl #[.agg #[.slice A0_0 l0_0.length c0_0]] (by rfl) rfl rfl (by (try simp only [List.map_toArray, List.map_cons, List.map_nil]); first | done | rfl | (simp only [List.length_drop, List.length_take]; rfl)) ?_
   with_reducible refine (laws_toGroup.calls k _ _ l0_0 t179 _ ?side1 ?side2 A20.out).mono ?_
   (case side1 => repeat (first | exact (Kd.C_below HR0_0.out HB.out) | (with_reducible refine Kd.C_alloc ?_ _) | (with_reducible refine Kd.C_drewN ?_ _) | (with_reducible refine Kd.C_drew ?_)))
   (case side2 => exact HC0_0.out)
   rintro e w35 ⟨v180, rfl, ho0, hb⟩
   refine ⟨_, rfl, ?_⟩
   have n0_ := Aside0.mk (Kd.R_lower ho0 (below_size (by repeat (first | (with_reducible first | exact HB.out | apply below_alloc | apply pw_below_drewN | apply below_drew1 | refine below_set ?_ GE175.out | refine below_set ?_ GE176.out) | exact HB.out))))
   have n1_ := Aside0.mk (blk_below (g := gb175) (o := .cells #[.slice A0_0 l0_0.length c0_0] 24 (0, 0)) (kb_ BK175.out) hb)
   have n2_ := Aside0.mk (blk_below (g := gb176) (o := .cells #[.slice A1_0 l1_0.length c1_0] 24 (0, 0)) (kb_ BK176.out) hb)
   have n3_ := Aside0.mk (below_step (by repeat (first | (with_reducible first | exact HB.out | apply below_alloc | apply pw_below_drewN | apply below_drew1 | refine below_set ?_ GE175.out | refine below_set ?_ GE176.out) | exact HB.out)) hb)
   clear BK175
   clear BK176
   clear HB
   have HO181 := n0_
   have BK175 := n1_
   have BK176 := n2_
   have HB := n3_
   clear n0_ n1_ n2_ n3_
   (try clear hb)
   (try clear hb2)
   (try clear hk)
   (try clear hi)
   (try clear ho0)
   refine hK.out _ _ ⟨(blk_cell BK175.out 0).trans rfl, (blk_cell BK176.out 0).trans rfl⟩ (fun hHeld => ?_)
   clear hK K
   refine norm_ (a' := ?_) ?_ ?_
   rotate_left
   ·show Act.put _ (some 31) _ = _
    simp only [Act.put, List.setIfInBounds_toArray, List.set_cons_zero, List.set_cons_succ, i64_w, i32_w]
    rfl
   refine two_ (i := 3) (j := 9) (Ni := some 33) (Nj := some 8) #[true, true, true, true, true, false, false, false, false, false, false, false] #[true, true, true, false, true, false, false, false, false, true, false, false] rfl rfl rfl rfl (two_of HT_.out (by kernel_rfl)) (by decide) (by decide) (fun K hK => ?_) (fun K hK => ?_)
   ·skip
    refine goes_ Try.func14 (by kernel_rfl) rfl #[.agg #[.slice A1_0 l1_0.length c1_0]] (by rfl) rfl rfl (by (try simp only [List.map_toArray, List.map_cons, List.map_nil]); first | done | rfl | (simp only [List.length_drop, List.length_take]; rfl)) ?_
    with_reducible refine (laws_toGroup.calls k _ _ l1_0 t182 _ ?side1 ?side2 A21.out).mono ?_
    (case side1 => repeat (first | exact (Kd.C_below HR1_0.out HB.out) | (with_reducible refine Kd.C_alloc ?_ _) | (with_reducible refine Kd.C_drewN ?_ _) | (with_reducible refine Kd.C_drew ?_)))
    (case side2 => exact HC1_0.out)
    rintro e w36 ⟨v183, rfl, ho0, hb⟩
    refine ⟨_, rfl, ?_⟩
    have n0_ := Aside0.mk (Kd.R_elder' (kr_ HO181.out) (Kd.R_base ho0) hb)
    have n1_ := Aside0.mk (Kd.R_lower (Kd.R_new' ho0 (Kd.R_lt (kr_ HO181.out))) (below_size (by repeat (first | (with_reducible first | exact HB.out | apply below_alloc | apply pw_below_drewN | apply below_drew1 | refine below_set ?_ GE175.out | refine below_set ?_ GE176.out) | exact HB.out))))
    have n2_ := Aside0.mk (blk_below (g := gb175) (o := .cells #[.slice A0_0 l0_0.length c0_0] 24 (0, 0)) (kb_ BK175.out) hb)
    have n3_ := Aside0.mk (blk_below (g := gb176) (o := .cells #[.slice A1_0 l1_0.length c1_0] 24 (0, 0)) (kb_ BK176.out) hb)
    have n4_ := Aside0.mk (below_step (by repeat (first | (with_reducible first | exact HB.out | apply below_alloc | apply pw_below_drewN | apply below_drew1 | refine below_set ?_ GE175.out | refine below_set ?_ GE176.out) | exact HB.out)) hb)
    clear HO181
    clear BK175
    clear BK176
    clear HB
    have HO181 := n0_
    have HO184 := n1_
    have BK175 := n2_
    have BK176 := n3_
    have HB := n4_
    clear n0_ n1_ n2_ n3_ n4_
    (try clear hb)
    (try clear hb2)
    (try clear hk)
    (try clear hi)
    (try clear ho0)
    obtain ⟨Ao37, co37, eo37⟩ := Kd.R_slice HO181.out
    (first | subst eo37 | (injection eo37 with f1_ f2_ f3_; have f4_ := f1_.symm; have f5_ := f3_.symm; clear f1_ f2_ f3_; subst f4_; subst f5_))
    obtain ⟨Ao38, co38, eo38⟩ := Kd.R_slice HO184.out
    (first | subst eo38 | (injection eo38 with f1_ f2_ f3_; have f4_ := f1_.symm; have f5_ := f3_.symm; clear f1_ f2_ f3_; subst f4_; subst f5_))
    refine hK.out _ _ ⟨(blk_cell BK175.out 0).trans rfl, (blk_cell BK176.out 0).trans rfl⟩ (fun hHeld => ?_)
    clear hK K
    refine norm_ (a' := ?_) ?_ ?_
    rotate_left
    ·show Act.put _ (some 33) _ = _
     simp only [Act.put, List.setIfInBounds_toArray, List.set_cons_zero, List.set_cons_succ, i64_w, i32_w]
     rfl
    refine two_ (i := 5) (j := 9) (Ni := some 35) (Nj := some 8) #[true, true, true, true, true, true, false, false, false, false, false, false] #[true, true, true, true, true, false, false, false, false, true, false, false] rfl rfl rfl rfl (two_of HT_.out (by kernel_rfl)) (by decide) (by decide) (fun K hK => ?_) (fun K hK => ?_)
    ·skip
     refine goes_ Try.func31 (by kernel_rfl) rfl #[.agg #[.slice Ao37 t179.length co37], .agg #[.slice Ao38 t182.length co38], .int .i64 a2] (by rfl) rfl rfl (by (try simp only [List.map_toArray, List.map_cons, List.map_nil]); first | done | rfl | (simp only [List.length_drop, List.length_take]; rfl)) ?_
     with_reducible refine (spec_MeetOf.calls k _ _ t179 _ _ t182 a2 t185 t188 _ ?side1 ?side2 ?side3 ?side4 A22.out).mono ?_
     (case side1 => repeat (first | exact (Kd.R_reads' HO181.out).2.2 | (with_reducible refine Kd.C_alloc ?_ _) | (with_reducible refine Kd.C_drewN ?_ _) | (with_reducible refine Kd.C_drew ?_)))
     (case side2 => exact (Kd.R_reads' HO181.out).2.1)
     (case side3 => repeat (first | exact (Kd.R_reads' HO184.out).2.2 | (with_reducible refine Kd.C_alloc ?_ _) | (with_reducible refine Kd.C_drewN ?_ _) | (with_reducible refine Kd.C_drew ?_)))
     (case side4 => exact (Kd.R_reads' HO184.out).2.1)
     rintro e w39 ⟨v186, rfl, ho0, hb⟩
     refine ⟨_, rfl, ?_⟩
     have n0_ := Aside0.mk (Kd.R_elder' (kr_ HO181.out) (Kd.R_base ho0) hb)
     have n1_ := Aside0.mk (Kd.R_elder' (kr_ HO184.out) (Kd.R_base ho0) hb)
     have n2_ := Aside0.mk (Kd.R_lower (Kd.R_new' (Kd.R_new' ho0 (Kd.R_lt (kr_ HO181.out))) (Kd.R_lt (kr_ HO184.out))) (below_size (by repeat (first | (with_reducible first | exact HB.out | apply below_alloc | apply pw_below_drewN | apply below_drew1 | refine below_set ?_ GE175.out | refine below_set ?_ GE176.out) | exact HB.out))))
     have n3_ := Aside0.mk (blk_below (g := gb175) (o := .cells #[.slice A0_0 l0_0.length c0_0] 24 (0, 0)) (kb_ BK175.out) hb)
     have n4_ := Aside0.mk (blk_below (g := gb176) (o := .cells #[.slice A1_0 l1_0.length c1_0] 24 (0, 0)) (kb_ BK176.out) hb)
     have n5_ := Aside0.mk (below_step (by repeat (first | (with_reducible first | exact HB.out | apply below_alloc | apply pw_below_drewN | apply below_drew1 | refine below_set ?_ GE175.out | refine below_set ?_ GE176.out) | exact HB.out)) hb)
     clear HO181
     clear HO184
     clear BK175
     clear BK176
     clear HB
     have HO181 := n0_
     have HO184 := n1_
     have HO187 := n2_
     have BK175 := n3_
     have BK176 := n4_
     have HB := n5_
     clear n0_ n1_ n2_ n3_ n4_ n5_
     (try clear hb)
     (try clear hb2)
     (try clear hk)
     (try clear hi)
     (try clear ho0)
     refine hK.out _ _ ⟨(blk_cell BK175.out 0).trans rfl, (blk_cell BK176.out 0).trans rfl⟩ (fun hHeld => ?_)
     clear hK K
     refine norm_ (a' := ?_) ?_ ?_
     rotate_left
     ·show Act.put _ (some 35) _ = _
      simp only [Act.put, List.setIfInBounds_toArray, List.set_cons_zero, List.set_cons_succ, i64_w, i32_w]
      rfl
     refine pure_ (i := 6) (N := some 29) (v := ?_) (a' := ?_) #[true, true, true, true, true, true, true, false, false, false, false, false] rfl rfl (any_of HT_.out (by kernel_rfl)) (fun _ _ _ h => h) (Or.inl ⟨by rfl, ?_⟩) ?_ ?_
     rotate_left
     ·intro w'
      go_simp
      with_reducible rfl
     rotate_left
     ·simp only [Act.put, List.setIfInBounds_toArray, List.set_cons_zero, List.set_cons_succ, i64_w, i32_w]
      rfl
     refine pure_ (i := 7) (N := some 36) (v := ?_) (a' := ?_) #[true, true, true, true, true, true, true, true, false, false, false, false] rfl rfl (any_of HT_.out (by kernel_rfl)) (fun _ _ _ h => h) (Or.inl ⟨by rfl, ?_⟩) ?_ ?_
     rotate_left
     ·intro w'
      go_simp
      with_reducible rfl
     rotate_left
     ·simp only [Act.put, List.setIfInBounds_toArray, List.set_cons_zero, List.set_cons_succ, i64_w, i32_w]
      rfl
     refine pure_ (i := 8) (N := some 37) (v := ?_) (a' := ?_) #[true, true, true, true, true, true, true, true, true, false, false, false] rfl rfl (any_of HT_.out (by kernel_rfl)) (fun _ _ _ h => h) (Or.inl ⟨by rfl, ?_⟩) ?_ ?_
     rotate_left
     ·intro w'
      go_simp
      with_reducible rfl
     rotate_left
     ·simp only [Act.put, List.setIfInBounds_toArray, List.set_cons_zero, List.set_cons_succ, i64_w, i32_w]
      rfl
     refine one_ (i := 9) (N := some 8) #[true, true, true, true, true, true, true, true, true, true, false, false] rfl rfl (one_of HT_.out (by kernel_rfl)) (by decide) (fun K hK => ?_)
     refine box_step ?hg (N := 8) ?hd (cs := #[.slice none 0 0]) (t := 28) ?hr ?_; (case hd => rfl); (case hg => rfl); (case hr => first | (go_simp; done) | (go_simp; rfl))
     intro gb189 hg w40 hbox hb
     have n0_ := Aside0.mk (Kd.R_below (kr_ HO181.out) hb)
     have n1_ := Aside0.mk (Kd.R_below (kr_ HO184.out) hb)
     have n2_ := Aside0.mk (Kd.R_below (kr_ HO187.out) hb)
     have n3_ := Aside0.mk (blk_below (g := gb175) (o := .cells #[.slice A0_0 l0_0.length c0_0] 24 (0, 0)) (kb_ BK175.out) hb)
     have n4_ := Aside0.mk (blk_below (g := gb176) (o := .cells #[.slice A1_0 l1_0.length c1_0] 24 (0, 0)) (kb_ BK176.out) hb)
     have n5_ := Aside0.mk (below_step (by repeat (first | (with_reducible first | exact HB.out | apply below_alloc | apply pw_below_drewN | apply below_drew1 | refine below_set ?_ GE175.out | refine below_set ?_ GE176.out) | exact HB.out)) hb)
     have n6_ := Aside0.mk (hbox)
     have n7_ := Aside0.mk ((by rw [hg]; exact (below_size (by repeat (first | (with_reducible first | exact HB.out | apply below_alloc | apply pw_below_drewN | apply below_drew1 | refine below_set ?_ GE175.out | refine below_set ?_ GE176.out) | exact HB.out))) : w.heap.size ≤ gb189))
     have n8_ := Aside0.mk ((by rw [hg]; exact (below_size (by repeat (first | (with_reducible first | exact HB.out | apply below_alloc | apply pw_below_drewN | apply below_drew1 | refine below_set ?_ GE175.out | refine below_set ?_ GE176.out) | exact HB.out))) : w.heap.size ≤ gb189))
     have n9_ := Aside0.mk ((by rw [hg]; exact Nat.ne_of_lt (blk_lt (g := gb175) (o := .cells #[.slice A0_0 l0_0.length c0_0] 24 (0, 0)) (kb_ BK175.out)) : gb175 ≠ gb189))
     have n10_ := Aside0.mk ((by rw [hg]; exact Nat.ne_of_gt (blk_lt (g := gb175) (o := .cells #[.slice A0_0 l0_0.length c0_0] 24 (0, 0)) (kb_ BK175.out)) : gb189 ≠ gb175))
     have n11_ := Aside0.mk ((by rw [hg]; exact Nat.ne_of_lt (blk_lt (g := gb176) (o := .cells #[.slice A1_0 l1_0.length c1_0] 24 (0, 0)) (kb_ BK176.out)) : gb176 ≠ gb189))
     have n12_ := Aside0.mk ((by rw [hg]; exact Nat.ne_of_gt (blk_lt (g := gb176) (o := .cells #[.slice A1_0 l1_0.length c1_0] 24 (0, 0)) (kb_ BK176.out)) : gb189 ≠ gb176))
     clear HO181
     clear HO184
     clear HO187
     clear BK175
     clear BK176
     clear HB
     have HO181 := n0_
     have HO184 := n1_
     have HO187 := n2_
     have BK175 := n3_
     have BK176 := n4_
     have HB := n5_
     have BK189 := n6_
     have GW189 := n7_
     have GE189 := n8_
     have NB175_189 := n9_
     have NB189_175 := n10_
     have NB176_189 := n11_
     have NB189_176 := n12_
     clear n0_ n1_ n2_ n3_ n4_ n5_ n6_ n7_ n8_ n9_ n10_ n11_ n12_
     clear hb hbox hg
     refine hK.out _ _ ⟨(blk_cell BK175.out 0).trans rfl, (blk_cell BK176.out 0).trans rfl⟩ (fun hHeld => ?_)
     clear hK K
     refine norm_ (a' := ?_) ?_ ?_
     rotate_left
     ·show Act.put _ (some 8) _ = _
      simp only [Act.put, List.setIfInBounds_toArray, List.set_cons_zero, List.set_cons_succ, i64_w, i32_w]
      rfl
     exact norm_ (by simp only [putAll, Act.put, List.setIfInBounds_toArray, List.set_cons_zero, List.set_cons_succ]) (hCont (.slice Ao37 t179.length co37, .slice Ao38 t182.length co38, v186, gb189) _ ⟨hHeld, (kr_ (Kd.R_mono HO181.out (fun _ hk => ⟨hk.1.2, hk.2⟩))), (kr_ (Kd.R_mono HO184.out (fun _ hk => ⟨hk.1.2, hk.2⟩))), (kr_ (Kd.R_mono HO187.out (fun _ hk => ⟨hk.1.2, hk.2⟩))), (kb_ BK175.out), (kb_ BK176.out), (kb_ BK189.out), GW189.out, GE189.out, NB175_189.out, NB189_175.out, NB176_189.out, NB189_176.out, (by repeat (first | (with_reducible first | exact HB.out | apply below_alloc | apply pw_below_drewN | apply below_drew1 | refine below_set ?_ GE175.out | refine below_set ?_ GE176.out | refine below_set ?_ GE189.out) | exact HB.out))⟩)
    ·skip
     refine box_step ?hg (N := 8) ?hd (cs := #[.slice none 0 0]) (t := 28) ?hr ?_; (case hd => rfl); (case hg => rfl); (case hr => first | (go_simp; done) | (go_simp; rfl))
     intro gb189 hg w37 hbox hb
     have n0_ := Aside0.mk (Kd.R_below (kr_ HO181.out) hb)
     have n1_ := Aside0.mk (Kd.R_below (kr_ HO184.out) hb)
     have n2_ := Aside0.mk (blk_below (g := gb175) (o := .cells #[.slice A0_0 l0_0.length c0_0] 24 (0, 0)) (kb_ BK175.out) hb)
     have n3_ := Aside0.mk (blk_below (g := gb176) (o := .cells #[.slice A1_0 l1_0.length c1_0] 24 (0, 0)) (kb_ BK176.out) hb)
     have n4_ := Aside0.mk (below_step (by repeat (first | (with_reducible first | exact HB.out | apply below_alloc | apply pw_below_drewN | apply below_drew1 | refine below_set ?_ GE175.out | refine below_set ?_ GE176.out) | exact HB.out)) hb)
     have n5_ := Aside0.mk (hbox)
     have n6_ := Aside0.mk ((by rw [hg]; exact (below_size (by repeat (first | (with_reducible first | exact HB.out | apply below_alloc | apply pw_below_drewN | apply below_drew1 | refine below_set ?_ GE175.out | refine below_set ?_ GE176.out) | exact HB.out))) : w.heap.size ≤ gb189))
     have n7_ := Aside0.mk ((by rw [hg]; exact (below_size (by repeat (first | (with_reducible first | exact HB.out | apply below_alloc | apply pw_below_drewN | apply below_drew1 | refine below_set ?_ GE175.out | refine below_set ?_ GE176.out) | exact HB.out))) : w.heap.size ≤ gb189))
     have n8_ := Aside0.mk ((by rw [hg]; exact Nat.ne_of_lt (blk_lt (g := gb175) (o := .cells #[.slice A0_0 l0_0.length c0_0] 24 (0, 0)) (kb_ BK175.out)) : gb175 ≠ gb189))
     have n9_ := Aside0.mk ((by rw [hg]; exact Nat.ne_of_gt (blk_lt (g := gb175) (o := .cells #[.slice A0_0 l0_0.length c0_0] 24 (0, 0)) (kb_ BK175.out)) : gb189 ≠ gb175))
     have n10_ := Aside0.mk ((by rw [hg]; exact Nat.ne_of_lt (blk_lt (g := gb176) (o := .cells #[.slice A1_0 l1_0.length c1_0] 24 (0, 0)) (kb_ BK176.out)) : gb176 ≠ gb189))
     have n11_ := Aside0.mk ((by rw [hg]; exact Nat.ne_of_gt (blk_lt (g := gb176) (o := .cells #[.slice A1_0 l1_0.length c1_0] 24 (0, 0)) (kb_ BK176.out)) : gb189 ≠ gb176))
     clear HO181
     clear HO184
     clear BK175
     clear BK176
     clear HB
     have HO181 := n0_
     have HO184 := n1_
     have BK175 := n2_
     have BK176 := n3_
     have HB := n4_
     have BK189 := n5_
     have GW189 := n6_
     have GE189 := n7_
     have NB175_189 := n8_
     have NB189_175 := n9_
     have NB176_189 := n10_
     have NB189_176 := n11_
     clear n0_ n1_ n2_ n3_ n4_ n5_ n6_ n7_ n8_ n9_ n10_ n11_
     clear hb hbox hg
     obtain ⟨Ao38, co38, eo38⟩ := Kd.R_slice HO181.out
     (first | subst eo38 | (injection eo38 with f1_ f2_ f3_; have f4_ := f1_.symm; have f5_ := f3_.symm; clear f1_ f2_ f3_; subst f4_; subst f5_))
     obtain ⟨Ao39, co39, eo39⟩ := Kd.R_slice HO184.out
     (first | subst eo39 | (injection eo39 with f1_ f2_ f3_; have f4_ := f1_.symm; have f5_ := f3_.symm; clear f1_ f2_ f3_; subst f4_; subst f5_))
     refine hK.out _ _ ⟨(blk_cell BK175.out 0).trans rfl, (blk_cell BK176.out 0).trans rfl⟩ (fun hHeld => ?_)
     clear hK K
     refine norm_ (a' := ?_) ?_ ?_
     rotate_left
     ·show Act.put _ (some 8) _ = _
      simp only [Act.put, List.setIfInBounds_toArray, List.set_cons_zero, List.set_cons_succ, i64_w, i32_w]
      rfl
     refine one_ (i := 5) (N := some 35) #[true, true, true, true, true, true, false, false, false, true, false, false] rfl rfl (one_of HT_.out (by kernel_rfl)) (by decide) (fun K hK => ?_)
     refine goes_ Try.func31 (by kernel_rfl) rfl #[.agg #[.slice Ao38 t179.length co38], .agg #[.slice Ao39 t182.length co39], .int .i64 a2] (by rfl) rfl rfl (by (try simp only [List.map_toArray, List.map_cons, List.map_nil]); first | done | rfl | (simp only [List.length_drop, List.length_take]; rfl)) ?_
     with_reducible refine (spec_MeetOf.calls k _ _ t179 _ _ t182 a2 t185 t188 _ ?side1 ?side2 ?side3 ?side4 A22.out).mono ?_
     (case side1 => repeat (first | exact (Kd.R_reads' HO181.out).2.2 | (with_reducible refine Kd.C_alloc ?_ _) | (with_reducible refine Kd.C_drewN ?_ _) | (with_reducible refine Kd.C_drew ?_)))
     (case side2 => exact (Kd.R_reads' HO181.out).2.1)
     (case side3 => repeat (first | exact (Kd.R_reads' HO184.out).2.2 | (with_reducible refine Kd.C_alloc ?_ _) | (with_reducible refine Kd.C_drewN ?_ _) | (with_reducible refine Kd.C_drew ?_)))
     (case side4 => exact (Kd.R_reads' HO184.out).2.1)
     rintro e w40 ⟨v186, rfl, ho0, hb⟩
     refine ⟨_, rfl, ?_⟩
     have n0_ := Aside0.mk (Kd.R_elder' (kr_ HO181.out) (Kd.R_base ho0) hb)
     have n1_ := Aside0.mk (Kd.R_elder' (kr_ HO184.out) (Kd.R_base ho0) hb)
     have n2_ := Aside0.mk (Kd.R_lower (Kd.R_new' (Kd.R_new' ho0 (Kd.R_lt (kr_ HO181.out))) (Kd.R_lt (kr_ HO184.out))) (below_size (by repeat (first | (with_reducible first | exact HB.out | apply below_alloc | apply pw_below_drewN | apply below_drew1 | refine below_set ?_ GE175.out | refine below_set ?_ GE176.out | refine below_set ?_ GE189.out) | exact HB.out))))
     have n3_ := Aside0.mk (blk_below (g := gb175) (o := .cells #[.slice A0_0 l0_0.length c0_0] 24 (0, 0)) (kb_ BK175.out) hb)
     have n4_ := Aside0.mk (blk_below (g := gb176) (o := .cells #[.slice A1_0 l1_0.length c1_0] 24 (0, 0)) (kb_ BK176.out) hb)
     have n5_ := Aside0.mk (blk_below (g := gb189) (o := .cells #[.slice none 0 0] 28 (0, 0)) (kb_ BK189.out) hb)
     have n6_ := Aside0.mk (below_step (by repeat (first | (with_reducible first | exact HB.out | apply below_alloc | apply pw_below_drewN | apply below_drew1 | refine below_set ?_ GE175.out | refine below_set ?_ GE176.out | refine below_set ?_ GE189.out) | exact HB.out)) hb)
     clear HO181
     clear HO184
     clear BK175
     clear BK176
     clear BK189
     clear HB
     have HO181 := n0_
     have HO184 := n1_
     have HO187 := n2_
     have BK175 := n3_
     have BK176 := n4_
     have BK189 := n5_
     have HB := n6_
     clear n0_ n1_ n2_ n3_ n4_ n5_ n6_
     (try clear hb)
     (try clear hb2)
     (try clear hk)
     (try clear hi)
     (try clear ho0)
     refine hK.out _ _ ⟨(blk_cell BK175.out 0).trans rfl, (blk_cell BK176.out 0).trans rfl⟩ (fun hHeld => ?_)
     clear hK K
     refine norm_ (a' := ?_) ?_ ?_
     rotate_left
     ·show Act.put _ (some 35) _ = _
      simp only [Act.put, List.setIfInBounds_toArray, List.set_cons_zero, List.set_cons_succ, i64_w, i32_w]
      rfl
     refine pure_ (i := 6) (N := some 29) (v := ?_) (a' := ?_) #[true, true, true, true, true, true, true, false, false, true, false, false] rfl rfl (any_of HT_.out (by kernel_rfl)) (fun _ _ _ h => h) (Or.inl ⟨by rfl, ?_⟩) ?_ ?_
     rotate_left
     ·intro w'
      go_simp
      with_reducible rfl
     rotate_left
     ·simp only [Act.put, List.setIfInBounds_toArray, List.set_cons_zero, List.set_cons_succ, i64_w, i32_w]
      rfl
     refine pure_ (i := 7) (N := some 36) (v := ?_) (a' := ?_) #[true, true, true, true, true, true, true, true, false, true, false, false] rfl rfl (any_of HT_.out (by kernel_rfl)) (fun _ _ _ h => h) (Or.inl ⟨by rfl, ?_⟩) ?_ ?_
     rotate_left
     ·intro w'
      go_simp
      with_reducible rfl
     rotate_left
     ·simp only [Act.put, List.setIfInBounds_toArray, List.set_cons_zero, List.set_cons_succ, i64_w, i32_w]
      rfl
     refine pure_ (i := 8) (N := some 37) (v := ?_) (a' := ?_) #[true, true, true, true, true, true, true, true, true, true, false, false] rfl rfl (any_of HT_.out (by kernel_rfl)) (fun _ _ _ h => h) (Or.inl ⟨by rfl, ?_⟩) ?_ ?_
     rotate_left
     ·intro w'
      go_simp
      with_reducible rfl
     rotate_left
     ·simp only [Act.put, List.setIfInBounds_toArray, List.set_cons_zero, List.set_cons_succ, i64_w, i32_w]
      rfl
     exact norm_ (by simp only [putAll, Act.put, List.setIfInBounds_toArray, List.set_cons_zero, List.set_cons_succ]) (hCont (.slice Ao38 t179.length co38, .slice Ao39 t182.length co39, v186, gb189) _ ⟨hHeld, (kr_ (Kd.R_mono HO181.out (fun _ hk => ⟨hk.1.2, hk.2⟩))), (kr_ (Kd.R_mono HO184.out (fun _ hk => ⟨hk.1.2, hk.2⟩))), (kr_ (Kd.R_mono HO187.out (fun _ hk => ⟨hk.1.2, hk.2⟩))), (kb_ BK175.out), (kb_ BK176.out), (kb_ BK189.out), GW189.out, GE189.out, NB175_189.out, NB189_175.out, NB176_189.out, NB189_176.out, (by repeat (first | (with_reducible first | exact HB.out | apply below_alloc | apply pw_below_drewN | apply below_drew1 | refine below_set ?_ GE175.out | refine below_set ?_ GE176.out | refine below_set ?_ GE189.out) | exact HB.out))⟩)
   ·skip
    refine box_step ?hg (N := 8) ?hd (cs := #[.slice none 0 0]) (t := 28) ?hr ?_; (case hd => rfl); (case hg => rfl); (case hr => first | (go_simp; done) | (go_simp; rfl))
    intro gb189 hg w36 hbox hb
    have n0_ := Aside0.mk (Kd.R_below (kr_ HO181.out) hb)
    have n1_ := Aside0.mk (blk_below (g := gb175) (o := .cells #[.slice A0_0 l0_0.length c0_0] 24 (0, 0)) (kb_ BK175.out) hb)
    have n2_ := Aside0.mk (blk_below (g := gb176) (o := .cells #[.slice A1_0 l1_0.length c1_0] 24 (0, 0)) (kb_ BK176.out) hb)
    have n3_ := Aside0.mk (below_step (by repeat (first | (with_reducible first | exact HB.out | apply below_alloc | apply pw_below_drewN | apply below_drew1 | refine below_set ?_ GE175.out | refine below_set ?_ GE176.out) | exact HB.out)) hb)
    have n4_ := Aside0.mk (hbox)
    have n5_ := Aside0.mk ((by rw [hg]; exact (below_size (by repeat (first | (with_reducible first | exact HB.out | apply below_alloc | apply pw_below_drewN | apply below_drew1 | refine below_set ?_ GE175.out | refine below_set ?_ GE176.out) | exact HB.out))) : w.heap.size ≤ gb189))
    have n6_ := Aside0.mk ((by rw [hg]; exact (below_size (by repeat (first | (with_reducible first | exact HB.out | apply below_alloc | apply pw_below_drewN | apply below_drew1 | refine below_set ?_ GE175.out | refine below_set ?_ GE176.out) | exact HB.out))) : w.heap.size ≤ gb189))
    have n7_ := Aside0.mk ((by rw [hg]; exact Nat.ne_of_lt (blk_lt (g := gb175) (o := .cells #[.slice A0_0 l0_0.length c0_0] 24 (0, 0)) (kb_ BK175.out)) : gb175 ≠ gb189))
    have n8_ := Aside0.mk ((by rw [hg]; exact Nat.ne_of_gt (blk_lt (g := gb175) (o := .cells #[.slice A0_0 l0_0.length c0_0] 24 (0, 0)) (kb_ BK175.out)) : gb189 ≠ gb175))
    have n9_ := Aside0.mk ((by rw [hg]; exact Nat.ne_of_lt (blk_lt (g := gb176) (o := .cells #[.slice A1_0 l1_0.length c1_0] 24 (0, 0)) (kb_ BK176.out)) : gb176 ≠ gb189))
    have n10_ := Aside0.mk ((by rw [hg]; exact Nat.ne_of_gt (blk_lt (g := gb176) (o := .cells #[.slice A1_0 l1_0.length c1_0] 24 (0, 0)) (kb_ BK176.out)) : gb189 ≠ gb176))
    clear HO181
    clear BK175
    clear BK176
    clear HB
    have HO181 := n0_
    have BK175 := n1_
    have BK176 := n2_
    have HB := n3_
    have BK189 := n4_
    have GW189 := n5_
    have GE189 := n6_
    have NB175_189 := n7_
    have NB189_175 := n8_
    have NB176_189 := n9_
    have NB189_176 := n10_
    clear n0_ n1_ n2_ n3_ n4_ n5_ n6_ n7_ n8_ n9_ n10_
    clear hb hbox hg
    refine hK.out _ _ ⟨(blk_cell BK175.out 0).trans rfl, (blk_cell BK176.out 0).trans rfl⟩ (fun hHeld => ?_)
    clear hK K
    refine norm_ (a' := ?_) ?_ ?_
    rotate_left
    ·show Act.put _ (some 8) _ = _
     simp only [Act.put, List.setIfInBounds_toArray, List.set_cons_zero, List.set_cons_succ, i64_w, i32_w]
     rfl
    refine one_ (i := 3) (N := some 33) #[true, true, true, true, true, false, false, false, false, true, false, false] rfl rfl (one_of HT_.out (by kernel_rfl)) (by decide) (fun K hK => ?_)
    refine goes_ Try.func14 (by kernel_rfl) rfl #[.agg #[.slice A1_0 l1_0.length c1_0]] (by rfl) rfl rfl (by (try simp only [List.map_toArray, List.map_cons, List.map_nil]); first | done | rfl | (simp only [List.length_drop, List.length_take]; rfl)) ?_
    with_reducible refine (laws_toGroup.calls k _ _ l1_0 t182 _ ?side1 ?side2 A21.out).mono ?_
    (case side1 => repeat (first | exact (Kd.C_below HR1_0.out HB.out) | (with_reducible refine Kd.C_alloc ?_ _) | (with_reducible refine Kd.C_drewN ?_ _) | (with_reducible refine Kd.C_drew ?_)))
    (case side2 => exact HC1_0.out)
    rintro e w37 ⟨v183, rfl, ho0, hb⟩
    refine ⟨_, rfl, ?_⟩
    have n0_ := Aside0.mk (Kd.R_elder' (kr_ HO181.out) (Kd.R_base ho0) hb)
    have n1_ := Aside0.mk (Kd.R_lower (Kd.R_new' ho0 (Kd.R_lt (kr_ HO181.out))) (below_size (by repeat (first | (with_reducible first | exact HB.out | apply below_alloc | apply pw_below_drewN | apply below_drew1 | refine below_set ?_ GE175.out | refine below_set ?_ GE176.out | refine below_set ?_ GE189.out) | exact HB.out))))
    have n2_ := Aside0.mk (blk_below (g := gb175) (o := .cells #[.slice A0_0 l0_0.length c0_0] 24 (0, 0)) (kb_ BK175.out) hb)
    have n3_ := Aside0.mk (blk_below (g := gb176) (o := .cells #[.slice A1_0 l1_0.length c1_0] 24 (0, 0)) (kb_ BK176.out) hb)
    have n4_ := Aside0.mk (blk_below (g := gb189) (o := .cells #[.slice none 0 0] 28 (0, 0)) (kb_ BK189.out) hb)
    have n5_ := Aside0.mk (below_step (by repeat (first | (with_reducible first | exact HB.out | apply below_alloc | apply pw_below_drewN | apply below_drew1 | refine below_set ?_ GE175.out | refine below_set ?_ GE176.out | refine below_set ?_ GE189.out) | exact HB.out)) hb)
    clear HO181
    clear BK175
    clear BK176
    clear BK189
    clear HB
    have HO181 := n0_
    have HO184 := n1_
    have BK175 := n2_
    have BK176 := n3_
    have BK189 := n4_
    have HB := n5_
    clear n0_ n1_ n2_ n3_ n4_ n5_
    (try clear hb)
    (try clear hb2)
    (try clear hk)
    (try clear hi)
    (try clear ho0)
    obtain ⟨Ao38, co38, eo38⟩ := Kd.R_slice HO181.out
    (first | subst eo38 | (injection eo38 with f1_ f2_ f3_; have f4_ := f1_.symm; have f5_ := f3_.symm; clear f1_ f2_ f3_; subst f4_; subst f5_))
    obtain ⟨Ao39, co39, eo39⟩ := Kd.R_slice HO184.out
    (first | subst eo39 | (injection eo39 with f1_ f2_ f3_; have f4_ := f1_.symm; have f5_ := f3_.symm; clear f1_ f2_ f3_; subst f4_; subst f5_))
    refine hK.out _ _ ⟨(blk_cell BK175.out 0).trans rfl, (blk_cell BK176.out 0).trans rfl⟩ (fun hHeld => ?_)
    clear hK K
    refine norm_ (a' := ?_) ?_ ?_
    rotate_left
    ·show Act.put _ (some 33) _ = _
     simp only [Act.put, List.setIfInBounds_toArray, List.set_cons_zero, List.set_cons_succ, i64_w, i32_w]
     rfl
    refine one_ (i := 5) (N := some 35) #[true, true, true, true, true, true, false, false, false, true, false, false] rfl rfl (one_of HT_.out (by kernel_rfl)) (by decide) (fun K hK => ?_)
    refine goes_ Try.func31 (by kernel_rfl) rfl #[.agg #[.slice Ao38 t179.length co38], .agg #[.slice Ao39 t182.length co39], .int .i64 a2] (by rfl) rfl rfl (by (try simp only [List.map_toArray, List.map_cons, List.map_nil]); first | done | rfl | (simp only [List.length_drop, List.length_take]; rfl)) ?_
    with_reducible refine (spec_MeetOf.calls k _ _ t179 _ _ t182 a2 t185 t188 _ ?side1 ?side2 ?side3 ?side4 A22.out).mono ?_
    (case side1 => repeat (first | exact (Kd.R_reads' HO181.out).2.2 | (with_reducible refine Kd.C_alloc ?_ _) | (with_reducible refine Kd.C_drewN ?_ _) | (with_reducible refine Kd.C_drew ?_)))
    (case side2 => exact (Kd.R_reads' HO181.out).2.1)
    (case side3 => repeat (first | exact (Kd.R_reads' HO184.out).2.2 | (with_reducible refine Kd.C_alloc ?_ _) | (with_reducible refine Kd.C_drewN ?_ _) | (with_reducible refine Kd.C_drew ?_)))
    (case side4 => exact (Kd.R_reads' HO184.out).2.1)
    rintro e w40 ⟨v186, rfl, ho0, hb⟩
    refine ⟨_, rfl, ?_⟩
    have n0_ := Aside0.mk (Kd.R_elder' (kr_ HO181.out) (Kd.R_base ho0) hb)
    have n1_ := Aside0.mk (Kd.R_elder' (kr_ HO184.out) (Kd.R_base ho0) hb)
    have n2_ := Aside0.mk (Kd.R_lower (Kd.R_new' (Kd.R_new' ho0 (Kd.R_lt (kr_ HO181.out))) (Kd.R_lt (kr_ HO184.out))) (below_size (by repeat (first | (with_reducible first | exact HB.out | apply below_alloc | apply pw_below_drewN | apply below_drew1 | refine below_set ?_ GE175.out | refine below_set ?_ GE176.out | refine below_set ?_ GE189.out) | exact HB.out))))
    have n3_ := Aside0.mk (blk_below (g := gb175) (o := .cells #[.slice A0_0 l0_0.length c0_0] 24 (0, 0)) (kb_ BK175.out) hb)
    have n4_ := Aside0.mk (blk_below (g := gb176) (o := .cells #[.slice A1_0 l1_0.length c1_0] 24 (0, 0)) (kb_ BK176.out) hb)
    have n5_ := Aside0.mk (blk_below (g := gb189) (o := .cells #[.slice none 0 0] 28 (0, 0)) (kb_ BK189.out) hb)
    have n6_ := Aside0.mk (below_step (by repeat (first | (with_reducible first | exact HB.out | apply below_alloc | apply pw_below_drewN | apply below_drew1 | refine below_set ?_ GE175.out | refine below_set ?_ GE176.out | refine below_set ?_ GE189.out) | exact HB.out)) hb)
    clear HO181
    clear HO184
    clear BK175
    clear BK176
    clear BK189
    clear HB
    have HO181 := n0_
    have HO184 := n1_
    have HO187 := n2_
    have BK175 := n3_
    have BK176 := n4_
    have BK189 := n5_
    have HB := n6_
    clear n0_ n1_ n2_ n3_ n4_ n5_ n6_
    (try clear hb)
    (try clear hb2)
    (try clear hk)
    (try clear hi)
    (try clear ho0)
    refine hK.out _ _ ⟨(blk_cell BK175.out 0).trans rfl, (blk_cell BK176.out 0).trans rfl⟩ (fun hHeld => ?_)
    clear hK K
    refine norm_ (a' := ?_) ?_ ?_
    rotate_left
    ·show Act.put _ (some 35) _ = _
     simp only [Act.put, List.setIfInBounds_toArray, List.set_cons_zero, List.set_cons_succ, i64_w, i32_w]
     rfl
    refine pure_ (i := 6) (N := some 29) (v := ?_) (a' := ?_) #[true, true, true, true, true, true, true, false, false, true, false, false] rfl rfl (any_of HT_.out (by kernel_rfl)) (fun _ _ _ h => h) (Or.inl ⟨by rfl, ?_⟩) ?_ ?_
    rotate_left
    ·intro w'
     go_simp
     with_reducible rfl
    rotate_left
    ·simp only [Act.put, List.setIfInBounds_toArray, List.set_cons_zero, List.set_cons_succ, i64_w, i32_w]
     rfl
    refine pure_ (i := 7) (N := some 36) (v := ?_) (a' := ?_) #[true, true, true, true, true, true, true, true, false, true, false, false] rfl rfl (any_of HT_.out (by kernel_rfl)) (fun _ _ _ h => h) (Or.inl ⟨by rfl, ?_⟩) ?_ ?_
    rotate_left
    ·intro w'
     go_simp
     with_reducible rfl
    rotate_left
    ·simp only [Act.put, List.setIfInBounds_toArray, List.set_cons_zero, List.set_cons_succ, i64_w, i32_w]
     rfl
    refine pure_ (i := 8) (N := some 37) (v := ?_) (a' := ?_) #[true, true, true, true, true, true, true, true, true, true, false, false] rfl rfl (any_of HT_.out (by kernel_rfl)) (fun _ _ _ h => h) (Or.inl ⟨by rfl, ?_⟩) ?_ ?_
    rotate_left
    ·intro w'
     go_simp
     with_reducible rfl
    rotate_left
    ·simp only [Act.put, List.setIfInBounds_toArray, List.set_cons_zero, List.set_cons_succ, i64_w, i32_w]
     rfl
    exact norm_ (by simp only [putAll, Act.put, List.setIfInBounds_toArray, List.set_cons_zero, List.set_cons_succ]) (hCont (.slice Ao38 t179.length co38, .slice Ao39 t182.length co39, v186, gb189) _ ⟨hHeld, (kr_ (Kd.R_mono HO181.out (fun _ hk => ⟨hk.1.2, hk.2⟩))), (kr_ (Kd.R_mono HO184.out (fun _ hk => ⟨hk.1.2, hk.2⟩))), (kr_ (Kd.R_mono HO187.out (fun _ hk => ⟨hk.1.2, hk.2⟩))), (kb_ BK175.out), (kb_ BK176.out), (kb_ BK189.out), GW189.out, GE189.out, NB175_189.out, NB189_175.out, NB176_189.out, NB189_176.out, (by repeat (first | (with_reducible first | exact HB.out | apply below_alloc | apply pw_below_drewN | apply below_drew1 | refine below_set ?_ GE175.out | refine below_set ?_ GE176.out | refine below_set ?_ GE189.out) | exact HB.out))⟩)
  ·skip
   refine box_step ?hg (N := 8) ?hd (cs := #[.slice none 0 0]) (t := 28) ?hr ?_; (case hd => rfl); (case hg => rfl); (case hr => first | (go_simp; done) | (go_simp; rfl))
   intro gb189 hg w35 hbox hb
   have n0_ := Aside0.mk (blk_below (g := gb175) (o := .cells #[.slice A0_0 l0_0.length c0_0] 24 (0, 0)) (kb_ BK175.out) hb)
   have n1_ := Aside0.mk (blk_below (g := gb176) (o := .cells #[.slice A1_0 l1_0.length c1_0] 24 (0, 0)) (kb_ BK176.out) hb)
   have n2_ := Aside0.mk (below_step (by repeat (first | (with_reducible first | exact HB.out | apply below_alloc | apply pw_below_drewN | apply below_drew1 | refine below_set ?_ GE175.out | refine below_set ?_ GE176.out) | exact HB.out)) hb)
   have n3_ := Aside0.mk (hbox)
   have n4_ := Aside0.mk ((by rw [hg]; exact (below_size (by repeat (first | (with_reducible first | exact HB.out | apply below_alloc | apply pw_below_drewN | apply below_drew1 | refine below_set ?_ GE175.out | refine below_set ?_ GE176.out) | exact HB.out))) : w.heap.size ≤ gb189))
   have n5_ := Aside0.mk ((by rw [hg]; exact (below_size (by repeat (first | (with_reducible first | exact HB.out | apply below_alloc | apply pw_below_drewN | apply below_drew1 | refine below_set ?_ GE175.out | refine below_set ?_ GE176.out) | exact HB.out))) : w.heap.size ≤ gb189))
   have n6_ := Aside0.mk ((by rw [hg]; exact Nat.ne_of_lt (blk_lt (g := gb175) (o := .cells #[.slice A0_0 l0_0.length c0_0] 24 (0, 0)) (kb_ BK175.out)) : gb175 ≠ gb189))
   have n7_ := Aside0.mk ((by rw [hg]; exact Nat.ne_of_gt (blk_lt (g := gb175) (o := .cells #[.slice A0_0 l0_0.length c0_0] 24 (0, 0)) (kb_ BK175.out)) : gb189 ≠ gb175))
   have n8_ := Aside0.mk ((by rw [hg]; exact Nat.ne_of_lt (blk_lt (g := gb176) (o := .cells #[.slice A1_0 l1_0.length c1_0] 24 (0, 0)) (kb_ BK176.out)) : gb176 ≠ gb189))
   have n9_ := Aside0.mk ((by rw [hg]; exact Nat.ne_of_gt (blk_lt (g := gb176) (o := .cells #[.slice A1_0 l1_0.length c1_0] 24 (0, 0)) (kb_ BK176.out)) : gb189 ≠ gb176))
   clear BK175
   clear BK176
   clear HB
   have BK175 := n0_
   have BK176 := n1_
   have HB := n2_
   have BK189 := n3_
   have GW189 := n4_
   have GE189 := n5_
   have NB175_189 := n6_
   have NB189_175 := n7_
   have NB176_189 := n8_
   have NB189_176 := n9_
   clear n0_ n1_ n2_ n3_ n4_ n5_ n6_ n7_ n8_ n9_
   clear hb hbox hg
   refine hK.out _ _ ⟨(blk_cell BK175.out 0).trans rfl, (blk_cell BK176.out 0).trans rfl⟩ (fun hHeld => ?_)
   clear hK K
   refine norm_ (a' := ?_) ?_ ?_
   rotate_left
   ·show Act.put _ (some 8) _ = _
    simp only [Act.put, List.setIfInBounds_toArray, List.set_cons_zero, List.set_cons_succ, i64_w, i32_w]
    rfl
   refine one_ (i := 1) (N := some 31) #[true, true, true, false, true, false, false, false, false, true, false, false] rfl rfl (one_of HT_.out (by kernel_rfl)) (by decide) (fun K hK => ?_)
   refine goes_ Try.func14 (by kernel_rfl) rfl #[.agg #[.slice A0_0 l0_0.length c0_0]] (by rfl) rfl rfl (by (try simp only [List.map_toArray, List.map_cons, List.map_nil]); first | done | rfl | (simp only [List.length_drop, List.length_take]; rfl)) ?_
   with_reducible refine (laws_toGroup.calls k _ _ l0_0 t179 _ ?side1 ?side2 A20.out).mono ?_
   (case side1 => repeat (first | exact (Kd.C_below HR0_0.out HB.out) | (with_reducible refine Kd.C_alloc ?_ _) | (with_reducible refine Kd.C_drewN ?_ _) | (with_reducible refine Kd.C_drew ?_)))
   (case side2 => exact HC0_0.out)
   rintro e w36 ⟨v180, rfl, ho0, hb⟩
   refine ⟨_, rfl, ?_⟩
   have n0_ := Aside0.mk (Kd.R_lower ho0 (below_size (by repeat (first | (with_reducible first | exact HB.out | apply below_alloc | apply pw_below_drewN | apply below_drew1 | refine below_set ?_ GE175.out | refine below_set ?_ GE176.out | refine below_set ?_ GE189.out) | exact HB.out))))
   have n1_ := Aside0.mk (blk_below (g := gb175) (o := .cells #[.slice A0_0 l0_0.length c0_0] 24 (0, 0)) (kb_ BK175.out) hb)
   have n2_ := Aside0.mk (blk_below (g := gb176) (o := .cells #[.slice A1_0 l1_0.length c1_0] 24 (0, 0)) (kb_ BK176.out) hb)
   have n3_ := Aside0.mk (blk_below (g := gb189) (o := .cells #[.slice none 0 0] 28 (0, 0)) (kb_ BK189.out) hb)
   have n4_ := Aside0.mk (below_step (by repeat (first | (with_reducible first | exact HB.out | apply below_alloc | apply pw_below_drewN | apply below_drew1 | refine below_set ?_ GE175.out | refine below_set ?_ GE176.out | refine below_set ?_ GE189.out) | exact HB.out)) hb)
   clear BK175
   clear BK176
   clear BK189
   clear HB
   have HO181 := n0_
   have BK175 := n1_
   have BK176 := n2_
   have BK189 := n3_
   have HB := n4_
   clear n0_ n1_ n2_ n3_ n4_
   (try clear hb)
   (try clear hb2)
   (try clear hk)
   (try clear hi)
   (try clear ho0)
   refine hK.out _ _ ⟨(blk_cell BK175.out 0).trans rfl, (blk_cell BK176.out 0).trans rfl⟩ (fun hHeld => ?_)
   clear hK K
   refine norm_ (a' := ?_) ?_ ?_
   rotate_left
   ·show Act.put _ (some 31) _ = _
    simp only [Act.put, List.setIfInBounds_toArray, List.set_cons_zero, List.set_cons_succ, i64_w, i32_w]
    rfl
   refine one_ (i := 3) (N := some 33) #[true, true, true, true, true, false, false, false, false, true, false, false] rfl rfl (one_of HT_.out (by kernel_rfl)) (by decide) (fun K hK => ?_)
   refine goes_ Try.func14 (by kernel_rfl) rfl #[.agg #[.slice A1_0 l1_0.length c1_0]] (by rfl) rfl rfl (by (try simp only [List.map_toArray, List.map_cons, List.map_nil]); first | done | rfl | (simp only [List.length_drop, List.length_take]; rfl)) ?_
   with_reducible refine (laws_toGroup.calls k _ _ l1_0 t182 _ ?side1 ?side2 A21.out).mono ?_
   (case side1 => repeat (first | exact (Kd.C_below HR1_0.out HB.out) | (with_reducible refine Kd.C_alloc ?_ _) | (with_reducible refine Kd.C_drewN ?_ _) | (with_reducible refine Kd.C_drew ?_)))
   (case side2 => exact HC1_0.out)
   rintro e w37 ⟨v183, rfl, ho0, hb⟩
   refine ⟨_, rfl, ?_⟩
   have n0_ := Aside0.mk (Kd.R_elder' (kr_ HO181.out) (Kd.R_base ho0) hb)
   have n1_ := Aside0.mk (Kd.R_lower (Kd.R_new' ho0 (Kd.R_lt (kr_ HO181.out))) (below_size (by repeat (first | (with_reducible first | exact HB.out | apply below_alloc | apply pw_below_drewN | apply below_drew1 | refine below_set ?_ GE175.out | refine below_set ?_ GE176.out | refine below_set ?_ GE189.out) | exact HB.out))))
   have n2_ := Aside0.mk (blk_below (g := gb175) (o := .cells #[.slice A0_0 l0_0.length c0_0] 24 (0, 0)) (kb_ BK175.out) hb)
   have n3_ := Aside0.mk (blk_below (g := gb176) (o := .cells #[.slice A1_0 l1_0.length c1_0] 24 (0, 0)) (kb_ BK176.out) hb)
   have n4_ := Aside0.mk (blk_below (g := gb189) (o := .cells #[.slice none 0 0] 28 (0, 0)) (kb_ BK189.out) hb)
   have n5_ := Aside0.mk (below_step (by repeat (first | (with_reducible first | exact HB.out | apply below_alloc | apply pw_below_drewN | apply below_drew1 | refine below_set ?_ GE175.out | refine below_set ?_ GE176.out | refine below_set ?_ GE189.out) | exact HB.out)) hb)
   clear HO181
   clear BK175
   clear BK176
   clear BK189
   clear HB
   have HO181 := n0_
   have HO184 := n1_
   have BK175 := n2_
   have BK176 := n3_
   have BK189 := n4_
   have HB := n5_
   clear n0_ n1_ n2_ n3_ n4_ n5_
   (try clear hb)
   (try clear hb2)
   (try clear hk)
   (try clear hi)
   (try clear ho0)
   obtain ⟨Ao38, co38, eo38⟩ := Kd.R_slice HO181.out
   (first | subst eo38 | (injection eo38 with f1_ f2_ f3_; have f4_ := f1_.symm; have f5_ := f3_.symm; clear f1_ f2_ f3_; subst f4_; subst f5_))
   obtain ⟨Ao39, co39, eo39⟩ := Kd.R_slice HO184.out
   (first | subst eo39 | (injection eo39 with f1_ f2_ f3_; have f4_ := f1_.symm; have f5_ := f3_.symm; clear f1_ f2_ f3_; subst f4_; subst f5_))
   refine hK.out _ _ ⟨(blk_cell BK175.out 0).trans rfl, (blk_cell BK176.out 0).trans rfl⟩ (fun hHeld => ?_)
   clear hK K
   refine norm_ (a' := ?_) ?_ ?_
   rotate_left
   ·show Act.put _ (some 33) _ = _
    simp only [Act.put, List.setIfInBounds_toArray, List.set_cons_zero, List.set_cons_succ, i64_w, i32_w]
    rfl
   refine one_ (i := 5) (N := some 35) #[true, true, true, true, true, true, false, false, false, true, false, false] rfl rfl (one_of HT_.out (by kernel_rfl)) (by decide) (fun K hK => ?_)
   refine goes_ Try.func31 (by kernel_rfl) rfl #[.agg #[.slice Ao38 t179.length co38], .agg #[.slice Ao39 t182.length co39], .int .i64 a2] (by rfl) rfl rfl (by (try simp only [List.map_toArray, List.map_cons, List.map_nil]); first | done | rfl | (simp only [List.length_drop, List.length_take]; rfl)) ?_
   with_reducible refine (spec_MeetOf.calls k _ _ t179 _ _ t182 a2 t185 t188 _ ?side1 ?side2 ?side3 ?side4 A22.out).mono ?_
   (case side1 => repeat (first | exact (Kd.R_reads' HO181.out).2.2 | (with_reducible refine Kd.C_alloc ?_ _) | (with_reducible refine Kd.C_drewN ?_ _) | (with_reducible refine Kd.C_drew ?_)))
   (case side2 => exact (Kd.R_reads' HO181.out).2.1)
   (case side3 => repeat (first | exact (Kd.R_reads' HO184.out).2.2 | (with_reducible refine Kd.C_alloc ?_ _) | (with_reducible refine Kd.C_drewN ?_ _) | (with_reducible refine Kd.C_drew ?_)))
   (case side4 => exact (Kd.R_reads' HO184.out).2.1)
   rintro e w40 ⟨v186, rfl, ho0, hb⟩
   refine ⟨_, rfl, ?_⟩
   have n0_ := Aside0.mk (Kd.R_elder' (kr_ HO181.out) (Kd.R_base ho0) hb)
   have n1_ := Aside0.mk (Kd.R_elder' (kr_ HO184.out) (Kd.R_base ho0) hb)
   have n2_ := Aside0.mk (Kd.R_lower (Kd.R_new' (Kd.R_new' ho0 (Kd.R_lt (kr_ HO181.out))) (Kd.R_lt (kr_ HO184.out))) (below_size (by repeat (first | (with_reducible first | exact HB.out | apply below_alloc | apply pw_below_drewN | apply below_drew1 | refine below_set ?_ GE175.out | refine below_set ?_ GE176.out | refine below_set ?_ GE189.out) | exact HB.out))))
   have n3_ := Aside0.mk (blk_below (g := gb175) (o := .cells #[.slice A0_0 l0_0.length c0_0] 24 (0, 0)) (kb_ BK175.out) hb)
   have n4_ := Aside0.mk (blk_below (g := gb176) (o := .cells #[.slice A1_0 l1_0.length c1_0] 24 (0, 0)) (kb_ BK176.out) hb)
   have n5_ := Aside0.mk (blk_below (g := gb189) (o := .cells #[.slice none 0 0] 28 (0, 0)) (kb_ BK189.out) hb)
   have n6_ := Aside0.mk (below_step (by repeat (first | (with_reducible first | exact HB.out | apply below_alloc | apply pw_below_drewN | apply below_drew1 | refine below_set ?_ GE175.out | refine below_set ?_ GE176.out | refine below_set ?_ GE189.out) | exact HB.out)) hb)
   clear HO181
   clear HO184
   clear BK175
   clear BK176
   clear BK189
   clear HB
   have HO181 := n0_
   have HO184 := n1_
   have HO187 := n2_
   have BK175 := n3_
   have BK176 := n4_
   have BK189 := n5_
   have HB := n6_
   clear n0_ n1_ n2_ n3_ n4_ n5_ n6_
   (try clear hb)
   (try clear hb2)
   (try clear hk)
   (try clear hi)
   (try clear ho0)
   refine hK.out _ _ ⟨(blk_cell BK175.out 0).trans rfl, (blk_cell BK176.out 0).trans rfl⟩ (fun hHeld => ?_)
   clear hK K
   refine norm_ (a' := ?_) ?_ ?_
   rotate_left
   ·show Act.put _ (some 35) _ = _
    simp only [Act.put, List.setIfInBounds_toArray, List.set_cons_zero, List.set_cons_succ, i64_w, i32_w]
    rfl
   refine pure_ (i := 6) (N := some 29) (v := ?_) (a' := ?_) #[true, true, true, true, true, true, true, false, false, true, false, false] rfl rfl (any_of HT_.out (by kernel_rfl)) (fun _ _ _ h => h) (Or.inl ⟨by rfl, ?_⟩) ?_ ?_
   rotate_left
   ·intro w'
    go_simp
    with_reducible rfl
   rotate_left
   ·simp only [Act.put, List.setIfInBounds_toArray, List.set_cons_zero, List.set_cons_succ, i64_w, i32_w]
    rfl
   refine pure_ (i := 7) (N := some 36) (v := ?_) (a' := ?_) #[true, true, true, true, true, true, true, true, false, true, false, false] rfl rfl (any_of HT_.out (by kernel_rfl)) (fun _ _ _ h => h) (Or.inl ⟨by rfl, ?_⟩) ?_ ?_
   rotate_left
   ·intro w'
    go_simp
    with_reducible rfl
   rotate_left
   ·simp only [Act.put, List.setIfInBounds_toArray, List.set_cons_zero, List.set_cons_succ, i64_w, i32_w]
    rfl
   refine pure_ (i := 8) (N := some 37) (v := ?_) (a' := ?_) #[true, true, true, true, true, true, true, true, true, true, false, false] rfl rfl (any_of HT_.out (by kernel_rfl)) (fun _ _ _ h => h) (Or.inl ⟨by rfl, ?_⟩) ?_ ?_
   rotate_left
   ·intro w'
    go_simp
    with_reducible rfl
   rotate_left
   ·simp only [Act.put, List.setIfInBounds_toArray, List.set_cons_zero, List.set_cons_succ, i64_w, i32_w]
    rfl
   exact norm_ (by simp only [putAll, Act.put, List.setIfInBounds_toArray, List.set_cons_zero, List.set_cons_succ]) (hCont (.slice Ao38 t179.length co38, .slice Ao39 t182.length co39, v186, gb189) _ ⟨hHeld, (kr_ (Kd.R_mono HO181.out (fun _ hk => ⟨hk.1.2, hk.2⟩))), (kr_ (Kd.R_mono HO184.out (fun _ hk => ⟨hk.1.2, hk.2⟩))), (kr_ (Kd.R_mono HO187.out (fun _ hk => ⟨hk.1.2, hk.2⟩))), (kb_ BK175.out), (kb_ BK176.out), (kb_ BK189.out), GW189.out, GE189.out, NB175_189.out, NB189_175.out, NB176_189.out, NB189_176.out, (by repeat (first | (with_reducible first | exact HB.out | apply below_alloc | apply pw_below_drewN | apply below_drew1 | refine below_set ?_ GE175.out | refine below_set ?_ GE176.out | refine below_set ?_ GE189.out) | exact HB.out))⟩)
 rintro ⟨v180, v183, v186, gb189⟩ w41 ⟨hS_, h0_, h1_, h2_, h3_, h4_, h5_, h6_, h7_, h8_, h9_, h10_, h11_, h12_⟩
 have n0_ : Aside0 (Kd.R (Kd.int .i64) 3 w41 w.heap.size (fun k_ => some k_ ≠ (v183 : Value).ownBlock ∧ some k_ ≠ (v186 : Value).ownBlock) v180 t179) := ⟨h0_⟩
 have n1_ : Aside0 (Kd.R (Kd.int .i64) 3 w41 w.heap.size (fun k_ => some k_ ≠ (v180 : Value).ownBlock ∧ some k_ ≠ (v186 : Value).ownBlock) v183 t182) := ⟨h1_⟩
 have n2_ : Aside0 (Kd.R (Kd.int .i64) 3 w41 w.heap.size (fun k_ => some k_ ≠ (v180 : Value).ownBlock ∧ some k_ ≠ (v183 : Value).ownBlock) v186 t185) := ⟨h2_⟩
 have n3_ : Aside0 (w41.heap[gb175]? = some (.cells #[.slice A0_0 l0_0.length c0_0] 24 (0, 0))) := ⟨h3_⟩
 have n4_ : Aside0 (w41.heap[gb176]? = some (.cells #[.slice A1_0 l1_0.length c1_0] 24 (0, 0))) := ⟨h4_⟩
 have n5_ : Aside0 (w41.heap[gb189]? = some (.cells #[.slice none 0 0] 28 (0, 0))) := ⟨h5_⟩
 have n6_ : Aside0 (w.heap.size ≤ gb189) := ⟨h6_⟩
 have n7_ : Aside0 (w.heap.size ≤ gb189) := ⟨h7_⟩
 have n8_ : Aside0 (gb175 ≠ gb189) := ⟨h8_⟩
 have n9_ : Aside0 (gb189 ≠ gb175) := ⟨h9_⟩
 have n10_ : Aside0 (gb176 ≠ gb189) := ⟨h10_⟩
 have n11_ : Aside0 (gb189 ≠ gb176) := ⟨h11_⟩
 have n12_ : Aside0 (Below w.heap.size w w41) := ⟨h12_⟩
 clear BK175
 clear BK176
 clear HB
 clear h0_ h1_ h2_ h3_ h4_ h5_ h6_ h7_ h8_ h9_ h10_ h11_ h12_
 have HO181 := n0_
 have HO184 := n1_
 have HO187 := n2_
 have BK175 := n3_
 have BK176 := n4_
 have BK189 := n5_
 have GW189 := n6_
 have GE189 := n7_
 have NB175_189 := n8_
 have NB189_175 := n9_
 have NB176_189 := n10_
 have NB189_176 := n11_
 have HB := n12_
 clear n0_ n1_ n2_ n3_ n4_ n5_ n6_ n7_ n8_ n9_ n10_ n11_ n12_
 have hHeld : w41.cell? ⟨gb175, 0, none⟩ = some (.slice A0_0 l0_0.length c0_0) ∧ w41.cell? ⟨gb176, 0, none⟩ = some (.slice A1_0 l1_0.length c1_0) := hS_
 obtain ⟨Ao42, co42, eo42⟩ := Kd.R_slice HO187.out
 (first | subst eo42 | (injection eo42 with f1_ f2_ f3_; have f4_ := f1_.symm; have f5_ := f3_.symm; clear f1_ f2_ f3_; subst f4_; subst f5_))
 refine norm_ (a' := ?_) ?_ ?_
 rotate_left
 ·simp only [putAll, Act.put, List.setIfInBounds_toArray, List.set_cons_zero, List.set_cons_succ]
  rfl
 refine one_ (i := 10) (N := none) #[true, true, true, true, true, true, true, true, true, true, true, false] rfl rfl (one_of HT_.out (by kernel_rfl)) (by decide) (fun K hK => ?_)
 have hs43 : w41.cell? ⟨gb189, 0, none⟩ = some (.slice none 0 0) := (blk_cell BK189.out 0).trans rfl
 have hfs43 := blk_frozen BK189.out 0
 have hns43_0 := NB175_189.out
 have hns43_1 := NB176_189.out
 have hms43_0 := NB189_175.out
 have hms43_1 := NB189_176.out
 refine skip_ (w1 := ?_) (by rfl) rfl ?_ ?_
 rotate_left
 ·go_simp
  rfl
 refine hK.out _ _ ⟨((cell_far (p := ⟨gb189, _, none⟩) NB175_189.out _).trans (hHeld.1)), ((cell_far (p := ⟨gb189, _, none⟩) NB176_189.out _).trans (hHeld.2))⟩ (fun hHeld => ?_)
 clear hK K
 refine pure_ (i := 11) (N := some 9) (v := ?_) (a' := ?_) #[true, true, true, true, true, true, true, true, true, true, true, true] rfl rfl (any_of HT_.out (by kernel_rfl)) (fun _ _ _ h => h) (Or.inl ⟨by rfl, ?_⟩) ?_ ?_
 rotate_left
 ·intro w'
  go_simp
  with_reducible rfl
 rotate_left
 ·simp only [Act.put, List.setIfInBounds_toArray, List.set_cons_zero, List.set_cons_succ, i64_w, i32_w]
  rfl
 refine done_ (done_of HT_.out (by kernel_rfl)) ?_
 have hnb44 := NB175_189.out
 have hnc44 := NB189_175.out
 have hcz45_0 : w41.cell? ⟨gb175, 0, none⟩ = some (.slice A0_0 l0_0.length c0_0) := (blk_cell BK175.out 0).trans rfl
 have hfz45_0 := blk_frozen BK175.out 0
 go_upto_region 12 with (first | ((with_reducible refine gate_callee (f := 14) rfl ?_); refine goesL_ (some 39) rfl rfl Try.func14 (by kernel_rfl) rfl #[.agg #[.slice A0_0 l0_0.length c0_0]] rfl (by (try simp only [List.map_toArray, List.map_cons, List.map_nil]); first | done | rfl | (simp only [List.length_drop, List.length_take]; rfl)) ?_; (with_reducible refine (laws_toGroup.calls k _ _ l0_0 t190 _ ?side1 ?side2 A23.out).mono ?_); (case side1 => exact Kd.C_below HR0_0.out (by repeat (first | (with_reducible first | exact HB.out | apply below_alloc | apply pw_below_drewN | apply below_drew1 | refine below_set ?_ GE175.out | refine below_set ?_ GE176.out | refine below_set ?_ GE189.out) | exact HB.out))); (case side2 => exact HC0_0.out); rintro e w46 ⟨v191, rfl, ho0, hb⟩; refine ⟨_, rfl, ?_⟩; have n0_ := Aside0.mk (Kd.R_elder' (kr_ ((Kd.R_mono (Kd.R_far (p := ⟨gb189, 0, none⟩) (Kd.R_types HO181.out BK189.out (by decide)) (fun _ hk => hk.2) (.slice Ao42 t185.length co42)) (fun _ h_ => h_.1)))) (Kd.R_base ho0) hb); have n1_ := Aside0.mk (Kd.R_elder' (kr_ ((Kd.R_mono (Kd.R_far (p := ⟨gb189, 0, none⟩) (Kd.R_types HO184.out BK189.out (by decide)) (fun _ hk => hk.2) (.slice Ao42 t185.length co42)) (fun _ h_ => h_.1)))) (Kd.R_base ho0) hb); have n2_ := Aside0.mk (Kd.R_elder' (kr_ ((Kd.R_mono (Kd.R_far (p := ⟨gb189, 0, none⟩) (Kd.R_types HO187.out BK189.out (by decide)) (fun _ hk => hk.2) (.slice Ao42 t185.length co42)) (fun _ h_ => h_.1)))) (Kd.R_base ho0) hb); have n3_ := Aside0.mk (Kd.R_lower (Kd.R_new' (Kd.R_new' (Kd.R_new' ho0 (Kd.R_lt (kr_ ((Kd.R_mono (Kd.R_far (p := ⟨gb189, 0, none⟩) (Kd.R_types HO181.out BK189.out (by decide)) (fun _ hk => hk.2) (.slice Ao42 t185.length co42)) (fun _ h_ => h_.1)))))) (Kd.R_lt (kr_ ((Kd.R_mono (Kd.R_far (p := ⟨gb189, 0, none⟩) (Kd.R_types HO184.out BK189.out (by decide)) (fun _ hk => hk.2) (.slice Ao42 t185.length co42)) (fun _ h_ => h_.1)))))) (Kd.R_lt (kr_ ((Kd.R_mono (Kd.R_far (p := ⟨gb189, 0, none⟩) (Kd.R_types HO187.out BK189.out (by decide)) (fun _ hk => hk.2) (.slice Ao42 t185.length co42)) (fun _ h_ => h_.1)))))) (below_size (by repeat (first | (with_reducible first | exact HB.out | apply below_alloc | apply pw_below_drewN | apply below_drew1 | refine below_set ?_ GE175.out | refine below_set ?_ GE176.out | refine below_set ?_ GE189.out) | exact HB.out)))); have n4_ := Aside0.mk (blk_below (g := gb175) (o := .cells #[.slice A0_0 l0_0.length c0_0] 24 (0, 0)) (by (with_reducible repeat (first | refine blk_drewN ?_ _ | refine blk_drew ?_ | refine blk_alloc ?_ _)); refine blk_far ?_ NB175_189.out _; exact kb_ BK175.out) hb); have n5_ := Aside0.mk (blk_below (g := gb176) (o := .cells #[.slice A1_0 l1_0.length c1_0] 24 (0, 0)) (by (with_reducible repeat (first | refine blk_drewN ?_ _ | refine blk_drew ?_ | refine blk_alloc ?_ _)); refine blk_far ?_ NB176_189.out _; exact kb_ BK176.out) hb); have n6_ := Aside0.mk (blk_below (g := gb189) (o := .cells #[.slice Ao42 t185.length co42] 28 (0, 0)) (by (with_reducible repeat (first | refine blk_drewN ?_ _ | refine blk_drew ?_ | refine blk_alloc ?_ _)); refine blk_put (cs := #[.slice none 0 0]) ?_ 0 _ rfl; exact kb_ BK189.out) hb); have n7_ := Aside0.mk (below_step (by repeat (first | (with_reducible first | exact HB.out | apply below_alloc | apply pw_below_drewN | apply below_drew1 | refine below_set ?_ GE175.out | refine below_set ?_ GE176.out | refine below_set ?_ GE189.out) | exact HB.out)) hb); clear HO181; clear HO184; clear HO187; clear BK175; clear BK176; clear BK189; clear HB; have HO181 := n0_; have HO184 := n1_; have HO187 := n2_; have HO192 := n3_; have BK175 := n4_; have BK176 := n5_; have BK189 := n6_; have HB := n7_; clear n0_ n1_ n2_ n3_ n4_ n5_ n6_ n7_; (try clear hb); (try clear hb2); (try clear hk); (try clear hi); (try clear ho0)) | ((with_reducible refine gate_dst (N := 10) rfl ?_); refine box_event ?hg (N := 10) ?hd (cs := #[.slice none 0 0]) (t := 28) ?hr ?_; (case hd => rfl); (case hg => rfl); (case hr => first | (go_simp; done) | (go_simp; rfl)); intro gb193 hg w47 hbox hb; have n0_ := Aside0.mk (Kd.R_below (kr_ HO181.out) hb); have n1_ := Aside0.mk (Kd.R_below (kr_ HO184.out) hb); have n2_ := Aside0.mk (Kd.R_below (kr_ HO187.out) hb); have n3_ := Aside0.mk (Kd.R_below (kr_ HO192.out) hb); have n4_ := Aside0.mk (blk_below (g := gb175) (o := .cells #[.slice A0_0 l0_0.length c0_0] 24 (0, 0)) (kb_ BK175.out) hb); have n5_ := Aside0.mk (blk_below (g := gb176) (o := .cells #[.slice A1_0 l1_0.length c1_0] 24 (0, 0)) (kb_ BK176.out) hb); have n6_ := Aside0.mk (blk_below (g := gb189) (o := .cells #[.slice Ao42 t185.length co42] 28 (0, 0)) (kb_ BK189.out) hb); have n7_ := Aside0.mk (below_step (by repeat (first | (with_reducible first | exact HB.out | apply below_alloc | apply pw_below_drewN | apply below_drew1 | refine below_set ?_ GE175.out | refine below_set ?_ GE176.out | refine below_set ?_ GE189.out) | exact HB.out)) hb); have n8_ := Aside0.mk (hbox); have n9_ := Aside0.mk ((by rw [hg]; exact (below_size (by repeat (first | (with_reducible first | exact HB.out | apply below_alloc | apply pw_below_drewN | apply below_drew1 | refine below_set ?_ GE175.out | refine below_set ?_ GE176.out | refine below_set ?_ GE189.out) | exact HB.out))) : w.heap.size ≤ gb193)); have n10_ := Aside0.mk ((by rw [hg]; exact (below_size (by repeat (first | (with_reducible first | exact HB.out | apply below_alloc | apply pw_below_drewN | apply below_drew1 | refine below_set ?_ GE175.out | refine below_set ?_ GE176.out | refine below_set ?_ GE189.out) | exact HB.out))) : w.heap.size ≤ gb193)); have n11_ := Aside0.mk ((by rw [hg]; exact Nat.ne_of_lt (blk_lt (g := gb175) (o := .cells #[.slice A0_0 l0_0.length c0_0] 24 (0, 0)) (kb_ BK175.out)) : gb175 ≠ gb193)); have n12_ := Aside0.mk ((by rw [hg]; exact Nat.ne_of_gt (blk_lt (g := gb175) (o := .cells #[.slice A0_0 l0_0.length c0_0] 24 (0, 0)) (kb_ BK175.out)) : gb193 ≠ gb175)); have n13_ := Aside0.mk ((by rw [hg]; exact Nat.ne_of_lt (blk_lt (g := gb176) (o := .cells #[.slice A1_0 l1_0.length c1_0] 24 (0, 0)) (kb_ BK176.out)) : gb176 ≠ gb193)); have n14_ := Aside0.mk ((by rw [hg]; exact Nat.ne_of_gt (blk_lt (g := gb176) (o := .cells #[.slice A1_0 l1_0.length c1_0] 24 (0, 0)) (kb_ BK176.out)) : gb193 ≠ gb176)); have n15_ := Aside0.mk ((by rw [hg]; exact Nat.ne_of_lt (blk_lt (g := gb189) (o := .cells #[.slice Ao42 t185.length co42] 28 (0, 0)) (kb_ BK189.out)) : gb189 ≠ gb193)); have n16_ := Aside0.mk ((by rw [hg]; exact Nat.ne_of_gt (blk_lt (g := gb189) (o := .cells #[.slice Ao42 t185.length co42] 28 (0, 0)) (kb_ BK189.out)) : gb193 ≠ gb189)); clear HO181; clear HO184; clear HO187; clear HO192; clear BK175; clear BK176; clear BK189; clear HB; have HO181 := n0_; have HO184 := n1_; have HO187 := n2_; have HO192 := n3_; have BK175 := n4_; have BK176 := n5_; have BK189 := n6_; have HB := n7_; have BK193 := n8_; have GW193 := n9_; have GE193 := n10_; have NB175_193 := n11_; have NB193_175 := n12_; have NB176_193 := n13_; have NB193_176 := n14_; have NB189_193 := n15_; have NB193_189 := n16_; clear n0_ n1_ n2_ n3_ n4_ n5_ n6_ n7_ n8_ n9_ n10_ n11_ n12_ n13_ n14_ n15_ n16_; clear hb hbox hg; obtain ⟨Ao48, co48, eo48⟩ := Kd.R_slice HO192.out; subst eo48; have hnb49 := NB193_175.out; have hnc49 := NB175_193.out; have hnb50 := NB193_176.out; have hnc50 := NB176_193.out; have hnb51 := NB193_189.out; have hnc51 := NB189_193.out; have hcz52_0 : w47.cell? ⟨gb193, 0, none⟩ = some (.slice none 0 0) := (blk_cell BK193.out 0).trans rfl; have hfz52_0 := blk_frozen BK193.out 0; have hnb53 := NB176_189.out; have hnc53 := NB189_176.out; have hcz54_0 : w47.cell? ⟨gb176, 0, none⟩ = some (.slice A1_0 l1_0.length c1_0) := (blk_cell BK176.out 0).trans rfl; have hfz54_0 := blk_frozen BK176.out 0) | ((with_reducible refine gate_callee (f := 14) rfl ?_); refine goesL_ (some 41) rfl rfl Try.func14 (by kernel_rfl) rfl #[.agg #[.slice A1_0 l1_0.length c1_0]] rfl (by (try simp only [List.map_toArray, List.map_cons, List.map_nil]); first | done | rfl | (simp only [List.length_drop, List.length_take]; rfl)) ?_; (with_reducible refine (laws_toGroup.calls k _ _ l1_0 t194 _ ?side1 ?side2 A24.out).mono ?_); (case side1 => exact Kd.C_below HR1_0.out (by repeat (first | (with_reducible first | exact HB.out | apply below_alloc | apply pw_below_drewN | apply below_drew1 | refine below_set ?_ GE175.out | refine below_set ?_ GE176.out | refine below_set ?_ GE189.out | refine below_set ?_ GE193.out) | exact HB.out))); (case side2 => exact HC1_0.out); rintro e w55 ⟨v195, rfl, ho0, hb⟩; refine ⟨_, rfl, ?_⟩; have n0_ := Aside0.mk (Kd.R_elder' (kr_ ((Kd.R_mono (Kd.R_far (p := ⟨gb193, 0, none⟩) (Kd.R_types HO181.out BK193.out (by decide)) (fun _ hk => hk.2) (.slice Ao48 t190.length co48)) (fun _ h_ => h_.1)))) (Kd.R_base ho0) hb); have n1_ := Aside0.mk (Kd.R_elder' (kr_ ((Kd.R_mono (Kd.R_far (p := ⟨gb193, 0, none⟩) (Kd.R_types HO184.out BK193.out (by decide)) (fun _ hk => hk.2) (.slice Ao48 t190.length co48)) (fun _ h_ => h_.1)))) (Kd.R_base ho0) hb); have n2_ := Aside0.mk (Kd.R_elder' (kr_ ((Kd.R_mono (Kd.R_far (p := ⟨gb193, 0, none⟩) (Kd.R_types HO187.out BK193.out (by decide)) (fun _ hk => hk.2) (.slice Ao48 t190.length co48)) (fun _ h_ => h_.1)))) (Kd.R_base ho0) hb); have n3_ := Aside0.mk (Kd.R_elder' (kr_ ((Kd.R_mono (Kd.R_far (p := ⟨gb193, 0, none⟩) (Kd.R_types HO192.out BK193.out (by decide)) (fun _ hk => hk.2) (.slice Ao48 t190.length co48)) (fun _ h_ => h_.1)))) (Kd.R_base ho0) hb); have n4_ := Aside0.mk (Kd.R_lower (Kd.R_new' (Kd.R_new' (Kd.R_new' (Kd.R_new' ho0 (Kd.R_lt (kr_ ((Kd.R_mono (Kd.R_far (p := ⟨gb193, 0, none⟩) (Kd.R_types HO181.out BK193.out (by decide)) (fun _ hk => hk.2) (.slice Ao48 t190.length co48)) (fun _ h_ => h_.1)))))) (Kd.R_lt (kr_ ((Kd.R_mono (Kd.R_far (p := ⟨gb193, 0, none⟩) (Kd.R_types HO184.out BK193.out (by decide)) (fun _ hk => hk.2) (.slice Ao48 t190.length co48)) (fun _ h_ => h_.1)))))) (Kd.R_lt (kr_ ((Kd.R_mono (Kd.R_far (p := ⟨gb193, 0, none⟩) (Kd.R_types HO187.out BK193.out (by decide)) (fun _ hk => hk.2) (.slice Ao48 t190.length co48)) (fun _ h_ => h_.1)))))) (Kd.R_lt (kr_ ((Kd.R_mono (Kd.R_far (p := ⟨gb193, 0, none⟩) (Kd.R_types HO192.out BK193.out (by decide)) (fun _ hk => hk.2) (.slice Ao48 t190.length co48)) (fun _ h_ => h_.1)))))) (below_size (by repeat (first | (with_reducible first | exact HB.out | apply below_alloc | apply pw_below_drewN | apply below_drew1 | refine below_set ?_ GE175.out | refine below_set ?_ GE176.out | refine below_set ?_ GE189.out | refine below_set ?_ GE193.out) | exact HB.out)))); have n5_ := Aside0.mk (blk_below (g := gb175) (o := .cells #[.slice A0_0 l0_0.length c0_0] 24 (0, 0)) (by (with_reducible repeat (first | refine blk_drewN ?_ _ | refine blk_drew ?_ | refine blk_alloc ?_ _)); refine blk_far ?_ NB175_193.out _; exact kb_ BK175.out) hb); have n6_ := Aside0.mk (blk_below (g := gb176) (o := .cells #[.slice A1_0 l1_0.length c1_0] 24 (0, 0)) (by (with_reducible repeat (first | refine blk_drewN ?_ _ | refine blk_drew ?_ | refine blk_alloc ?_ _)); refine blk_far ?_ NB176_193.out _; exact kb_ BK176.out) hb); have n7_ := Aside0.mk (blk_below (g := gb189) (o := .cells #[.slice Ao42 t185.length co42] 28 (0, 0)) (by (with_reducible repeat (first | refine blk_drewN ?_ _ | refine blk_drew ?_ | refine blk_alloc ?_ _)); refine blk_far ?_ NB189_193.out _; exact kb_ BK189.out) hb); have n8_ := Aside0.mk (blk_below (g := gb193) (o := .cells #[.slice Ao48 t190.length co48] 28 (0, 0)) (by (with_reducible repeat (first | refine blk_drewN ?_ _ | refine blk_drew ?_ | refine blk_alloc ?_ _)); refine blk_put (cs := #[.slice none 0 0]) ?_ 0 _ rfl; exact kb_ BK193.out) hb); have n9_ := Aside0.mk (below_step (by repeat (first | (with_reducible first | exact HB.out | apply below_alloc | apply pw_below_drewN | apply below_drew1 | refine below_set ?_ GE175.out | refine below_set ?_ GE176.out | refine below_set ?_ GE189.out | refine below_set ?_ GE193.out) | exact HB.out)) hb); clear HO181; clear HO184; clear HO187; clear HO192; clear BK175; clear BK176; clear BK189; clear BK193; clear HB; have HO181 := n0_; have HO184 := n1_; have HO187 := n2_; have HO192 := n3_; have HO196 := n4_; have BK175 := n5_; have BK176 := n6_; have BK189 := n7_; have BK193 := n8_; have HB := n9_; clear n0_ n1_ n2_ n3_ n4_ n5_ n6_ n7_ n8_ n9_; (try clear hb); (try clear hb2); (try clear hk); (try clear hi); (try clear ho0)) | ((with_reducible refine gate_dst (N := 11) rfl ?_); refine box_event ?hg (N := 11) ?hd (cs := #[.slice none 0 0]) (t := 28) ?hr ?_; (case hd => rfl); (case hg => rfl); (case hr => first | (go_simp; done) | (go_simp; rfl)); intro gb197 hg w56 hbox hb; have n0_ := Aside0.mk (Kd.R_below (kr_ HO181.out) hb); have n1_ := Aside0.mk (Kd.R_below (kr_ HO184.out) hb); have n2_ := Aside0.mk (Kd.R_below (kr_ HO187.out) hb); have n3_ := Aside0.mk (Kd.R_below (kr_ HO192.out) hb); have n4_ := Aside0.mk (Kd.R_below (kr_ HO196.out) hb); have n5_ := Aside0.mk (blk_below (g := gb175) (o := .cells #[.slice A0_0 l0_0.length c0_0] 24 (0, 0)) (kb_ BK175.out) hb); have n6_ := Aside0.mk (blk_below (g := gb176) (o := .cells #[.slice A1_0 l1_0.length c1_0] 24 (0, 0)) (kb_ BK176.out) hb); have n7_ := Aside0.mk (blk_below (g := gb189) (o := .cells #[.slice Ao42 t185.length co42] 28 (0, 0)) (kb_ BK189.out) hb); have n8_ := Aside0.mk (blk_below (g := gb193) (o := .cells #[.slice Ao48 t190.length co48] 28 (0, 0)) (kb_ BK193.out) hb); have n9_ := Aside0.mk (below_step (by repeat (first | (with_reducible first | exact HB.out | apply below_alloc | apply pw_below_drewN | apply below_drew1 | refine below_set ?_ GE175.out | refine below_set ?_ GE176.out | refine below_set ?_ GE189.out | refine below_set ?_ GE193.out) | exact HB.out)) hb); have n10_ := Aside0.mk (hbox); have n11_ := Aside0.mk ((by rw [hg]; exact (below_size (by repeat (first | (with_reducible first | exact HB.out | apply below_alloc | apply pw_below_drewN | apply below_drew1 | refine below_set ?_ GE175.out | refine below_set ?_ GE176.out | refine below_set ?_ GE189.out | refine below_set ?_ GE193.out) | exact HB.out))) : w.heap.size ≤ gb197)); have n12_ := Aside0.mk ((by rw [hg]; exact (below_size (by repeat (first | (with_reducible first | exact HB.out | apply below_alloc | apply pw_below_drewN | apply below_drew1 | refine below_set ?_ GE175.out | refine below_set ?_ GE176.out | refine below_set ?_ GE189.out | refine below_set ?_ GE193.out) | exact HB.out))) : w.heap.size ≤ gb197)); have n13_ := Aside0.mk ((by rw [hg]; exact Nat.ne_of_lt (blk_lt (g := gb175) (o := .cells #[.slice A0_0 l0_0.length c0_0] 24 (0, 0)) (kb_ BK175.out)) : gb175 ≠ gb197)); have n14_ := Aside0.mk ((by rw [hg]; exact Nat.ne_of_gt (blk_lt (g := gb175) (o := .cells #[.slice A0_0 l0_0.length c0_0] 24 (0, 0)) (kb_ BK175.out)) : gb197 ≠ gb175)); have n15_ := Aside0.mk ((by rw [hg]; exact Nat.ne_of_lt (blk_lt (g := gb176) (o := .cells #[.slice A1_0 l1_0.length c1_0] 24 (0, 0)) (kb_ BK176.out)) : gb176 ≠ gb197)); have n16_ := Aside0.mk ((by rw [hg]; exact Nat.ne_of_gt (blk_lt (g := gb176) (o := .cells #[.slice A1_0 l1_0.length c1_0] 24 (0, 0)) (kb_ BK176.out)) : gb197 ≠ gb176)); have n17_ := Aside0.mk ((by rw [hg]; exact Nat.ne_of_lt (blk_lt (g := gb189) (o := .cells #[.slice Ao42 t185.length co42] 28 (0, 0)) (kb_ BK189.out)) : gb189 ≠ gb197)); have n18_ := Aside0.mk ((by rw [hg]; exact Nat.ne_of_gt (blk_lt (g := gb189) (o := .cells #[.slice Ao42 t185.length co42] 28 (0, 0)) (kb_ BK189.out)) : gb197 ≠ gb189)); have n19_ := Aside0.mk ((by rw [hg]; exact Nat.ne_of_lt (blk_lt (g := gb193) (o := .cells #[.slice Ao48 t190.length co48] 28 (0, 0)) (kb_ BK193.out)) : gb193 ≠ gb197)); have n20_ := Aside0.mk ((by rw [hg]; exact Nat.ne_of_gt (blk_lt (g := gb193) (o := .cells #[.slice Ao48 t190.length co48] 28 (0, 0)) (kb_ BK193.out)) : gb197 ≠ gb193)); clear HO181; clear HO184; clear HO187; clear HO192; clear HO196; clear BK175; clear BK176; clear BK189; clear BK193; clear HB; have HO181 := n0_; have HO184 := n1_; have HO187 := n2_; have HO192 := n3_; have HO196 := n4_; have BK175 := n5_; have BK176 := n6_; have BK189 := n7_; have BK193 := n8_; have HB := n9_; have BK197 := n10_; have GW197 := n11_; have GE197 := n12_; have NB175_197 := n13_; have NB197_175 := n14_; have NB176_197 := n15_; have NB197_176 := n16_; have NB189_197 := n17_; have NB197_189 := n18_; have NB193_197 := n19_; have NB197_193 := n20_; clear n0_ n1_ n2_ n3_ n4_ n5_ n6_ n7_ n8_ n9_ n10_ n11_ n12_ n13_ n14_ n15_ n16_ n17_ n18_ n19_ n20_; clear hb hbox hg; obtain ⟨Ao57, co57, eo57⟩ := Kd.R_slice HO196.out; subst eo57; have hnb58 := NB197_175.out; have hnc58 := NB175_197.out; have hnb59 := NB197_176.out; have hnc59 := NB176_197.out; have hnb60 := NB197_189.out; have hnc60 := NB189_197.out; have hnb61 := NB197_193.out; have hnc61 := NB193_197.out; have hcz62_0 : w56.cell? ⟨gb197, 0, none⟩ = some (.slice none 0 0) := (blk_cell BK197.out 0).trans rfl; have hfz62_0 := blk_frozen BK197.out 0; have hcz63_0 : w56.cell? ⟨gb193, 0, none⟩ = some (.slice Ao48 t190.length co48) := (blk_cell BK193.out 0).trans rfl; have hfz63_0 := blk_frozen BK193.out 0) | ((with_reducible refine gate_callee (f := 30) rfl ?_); refine goesL_ (some 46) rfl rfl Try.func30 (by kernel_rfl) rfl #[.agg #[.slice Ao48 t190.length co48], .agg #[.slice Ao57 t194.length co57], .int .i64 a2] rfl (by (try simp only [List.map_toArray, List.map_cons, List.map_nil]); first | done | rfl | (simp only [List.length_drop, List.length_take]; rfl)) ?_; (with_reducible refine (impl_MeetOf.calls k _ _ t190 _ _ t194 a2 t198 t201 _ ?side1 ?side2 ?side3 ?side4 A25.out).mono ?_); (case side1 => refine (Kd.R_reads' (e := 3) (base := w.heap.size) (ok := fun k_ => ((((True ∧ some k_ ≠ (v180 : Value).ownBlock) ∧ some k_ ≠ (v183 : Value).ownBlock) ∧ some k_ ≠ (.slice Ao42 t185.length co42 : Value).ownBlock) ∧ some k_ ≠ (.slice Ao57 t194.length co57 : Value).ownBlock)) (n := t190.length) (c := co48) ?_).2.2; exact (kr_ ((Kd.R_mono (Kd.R_far (p := ⟨gb197, 0, none⟩) (Kd.R_types HO192.out BK197.out (by decide)) (fun _ hk => hk.2) (.slice Ao57 t194.length co57)) (fun _ h_ => h_.1))))); (case side2 => exact (Kd.R_reads' HO192.out).2.1); (case side3 => refine (Kd.R_reads' (e := 3) (base := w.heap.size) (ok := fun k_ => ((((True ∧ some k_ ≠ (v180 : Value).ownBlock) ∧ some k_ ≠ (v183 : Value).ownBlock) ∧ some k_ ≠ (.slice Ao42 t185.length co42 : Value).ownBlock) ∧ some k_ ≠ (.slice Ao48 t190.length co48 : Value).ownBlock)) (n := t194.length) (c := co57) ?_).2.2; exact (kr_ ((Kd.R_mono (Kd.R_far (p := ⟨gb197, 0, none⟩) (Kd.R_types HO196.out BK197.out (by decide)) (fun _ hk => hk.2) (.slice Ao57 t194.length co57)) (fun _ h_ => h_.1))))); (case side4 => exact (Kd.R_reads' HO196.out).2.1); rintro e w64 ⟨v199, rfl, ho0, hb⟩; refine ⟨_, rfl, ?_⟩; have n0_ := Aside0.mk (Kd.R_elder' (kr_ ((Kd.R_mono (Kd.R_far (p := ⟨gb197, 0, none⟩) (Kd.R_types HO181.out BK197.out (by decide)) (fun _ hk => hk.2) (.slice Ao57 t194.length co57)) (fun _ h_ => h_.1)))) (Kd.R_base ho0) hb); have n1_ := Aside0.mk (Kd.R_elder' (kr_ ((Kd.R_mono (Kd.R_far (p := ⟨gb197, 0, none⟩) (Kd.R_types HO184.out BK197.out (by decide)) (fun _ hk => hk.2) (.slice Ao57 t194.length co57)) (fun _ h_ => h_.1)))) (Kd.R_base ho0) hb); have n2_ := Aside0.mk (Kd.R_elder' (kr_ ((Kd.R_mono (Kd.R_far (p := ⟨gb197, 0, none⟩) (Kd.R_types HO187.out BK197.out (by decide)) (fun _ hk => hk.2) (.slice Ao57 t194.length co57)) (fun _ h_ => h_.1)))) (Kd.R_base ho0) hb); have n3_ := Aside0.mk (Kd.R_elder' (kr_ ((Kd.R_mono (Kd.R_far (p := ⟨gb197, 0, none⟩) (Kd.R_types HO192.out BK197.out (by decide)) (fun _ hk => hk.2) (.slice Ao57 t194.length co57)) (fun _ h_ => h_.1)))) (Kd.R_base ho0) hb); have n4_ := Aside0.mk (Kd.R_elder' (kr_ ((Kd.R_mono (Kd.R_far (p := ⟨gb197, 0, none⟩) (Kd.R_types HO196.out BK197.out (by decide)) (fun _ hk => hk.2) (.slice Ao57 t194.length co57)) (fun _ h_ => h_.1)))) (Kd.R_base ho0) hb); have n5_ := Aside0.mk (Kd.R_lower (Kd.R_new' (Kd.R_new' (Kd.R_new' (Kd.R_new' (Kd.R_new' ho0 (Kd.R_lt (kr_ ((Kd.R_mono (Kd.R_far (p := ⟨gb197, 0, none⟩) (Kd.R_types HO181.out BK197.out (by decide)) (fun _ hk => hk.2) (.slice Ao57 t194.length co57)) (fun _ h_ => h_.1)))))) (Kd.R_lt (kr_ ((Kd.R_mono (Kd.R_far (p := ⟨gb197, 0, none⟩) (Kd.R_types HO184.out BK197.out (by decide)) (fun _ hk => hk.2) (.slice Ao57 t194.length co57)) (fun _ h_ => h_.1)))))) (Kd.R_lt (kr_ ((Kd.R_mono (Kd.R_far (p := ⟨gb197, 0, none⟩) (Kd.R_types HO187.out BK197.out (by decide)) (fun _ hk => hk.2) (.slice Ao57 t194.length co57)) (fun _ h_ => h_.1)))))) (Kd.R_lt (kr_ ((Kd.R_mono (Kd.R_far (p := ⟨gb197, 0, none⟩) (Kd.R_types HO192.out BK197.out (by decide)) (fun _ hk => hk.2) (.slice Ao57 t194.length co57)) (fun _ h_ => h_.1)))))) (Kd.R_lt (kr_ ((Kd.R_mono (Kd.R_far (p := ⟨gb197, 0, none⟩) (Kd.R_types HO196.out BK197.out (by decide)) (fun _ hk => hk.2) (.slice Ao57 t194.length co57)) (fun _ h_ => h_.1)))))) (below_size (by repeat (first | (with_reducible first | exact HB.out | apply below_alloc | apply pw_below_drewN | apply below_drew1 | refine below_set ?_ GE175.out | refine below_set ?_ GE176.out | refine below_set ?_ GE189.out | refine below_set ?_ GE193.out | refine below_set ?_ GE197.out) | exact HB.out)))); have n6_ := Aside0.mk (blk_below (g := gb175) (o := .cells #[.slice A0_0 l0_0.length c0_0] 24 (0, 0)) (by (with_reducible repeat (first | refine blk_drewN ?_ _ | refine blk_drew ?_ | refine blk_alloc ?_ _)); refine blk_far ?_ NB175_197.out _; exact kb_ BK175.out) hb); have n7_ := Aside0.mk (blk_below (g := gb176) (o := .cells #[.slice A1_0 l1_0.length c1_0] 24 (0, 0)) (by (with_reducible repeat (first | refine blk_drewN ?_ _ | refine blk_drew ?_ | refine blk_alloc ?_ _)); refine blk_far ?_ NB176_197.out _; exact kb_ BK176.out) hb); have n8_ := Aside0.mk (blk_below (g := gb189) (o := .cells #[.slice Ao42 t185.length co42] 28 (0, 0)) (by (with_reducible repeat (first | refine blk_drewN ?_ _ | refine blk_drew ?_ | refine blk_alloc ?_ _)); refine blk_far ?_ NB189_197.out _; exact kb_ BK189.out) hb); have n9_ := Aside0.mk (blk_below (g := gb193) (o := .cells #[.slice Ao48 t190.length co48] 28 (0, 0)) (by (with_reducible repeat (first | refine blk_drewN ?_ _ | refine blk_drew ?_ | refine blk_alloc ?_ _)); refine blk_far ?_ NB193_197.out _; exact kb_ BK193.out) hb); have n10_ := Aside0.mk (blk_below (g := gb197) (o := .cells #[.slice Ao57 t194.length co57] 28 (0, 0)) (by (with_reducible repeat (first | refine blk_drewN ?_ _ | refine blk_drew ?_ | refine blk_alloc ?_ _)); refine blk_put (cs := #[.slice none 0 0]) ?_ 0 _ rfl; exact kb_ BK197.out) hb); have n11_ := Aside0.mk (below_step (by repeat (first | (with_reducible first | exact HB.out | apply below_alloc | apply pw_below_drewN | apply below_drew1 | refine below_set ?_ GE175.out | refine below_set ?_ GE176.out | refine below_set ?_ GE189.out | refine below_set ?_ GE193.out | refine below_set ?_ GE197.out) | exact HB.out)) hb); clear HO181; clear HO184; clear HO187; clear HO192; clear HO196; clear BK175; clear BK176; clear BK189; clear BK193; clear BK197; clear HB; have HO181 := n0_; have HO184 := n1_; have HO187 := n2_; have HO192 := n3_; have HO196 := n4_; have HO200 := n5_; have BK175 := n6_; have BK176 := n7_; have BK189 := n8_; have BK193 := n9_; have BK197 := n10_; have HB := n11_; clear n0_ n1_ n2_ n3_ n4_ n5_ n6_ n7_ n8_ n9_ n10_ n11_; (try clear hb); (try clear hb2); (try clear hk); (try clear hi); (try clear ho0)) | ((with_reducible refine gate_dst (N := 12) rfl ?_); refine box_event ?hg (N := 12) ?hd (cs := #[.slice none 0 0]) (t := 28) ?hr ?_; (case hd => rfl); (case hg => rfl); (case hr => first | (go_simp; done) | (go_simp; rfl)); intro gb202 hg w65 hbox hb; have n0_ := Aside0.mk (Kd.R_below (kr_ HO181.out) hb); have n1_ := Aside0.mk (Kd.R_below (kr_ HO184.out) hb); have n2_ := Aside0.mk (Kd.R_below (kr_ HO187.out) hb); have n3_ := Aside0.mk (Kd.R_below (kr_ HO192.out) hb); have n4_ := Aside0.mk (Kd.R_below (kr_ HO196.out) hb); have n5_ := Aside0.mk (Kd.R_below (kr_ HO200.out) hb); have n6_ := Aside0.mk (blk_below (g := gb175) (o := .cells #[.slice A0_0 l0_0.length c0_0] 24 (0, 0)) (kb_ BK175.out) hb); have n7_ := Aside0.mk (blk_below (g := gb176) (o := .cells #[.slice A1_0 l1_0.length c1_0] 24 (0, 0)) (kb_ BK176.out) hb); have n8_ := Aside0.mk (blk_below (g := gb189) (o := .cells #[.slice Ao42 t185.length co42] 28 (0, 0)) (kb_ BK189.out) hb); have n9_ := Aside0.mk (blk_below (g := gb193) (o := .cells #[.slice Ao48 t190.length co48] 28 (0, 0)) (kb_ BK193.out) hb); have n10_ := Aside0.mk (blk_below (g := gb197) (o := .cells #[.slice Ao57 t194.length co57] 28 (0, 0)) (kb_ BK197.out) hb); have n11_ := Aside0.mk (below_step (by repeat (first | (with_reducible first | exact HB.out | apply below_alloc | apply pw_below_drewN | apply below_drew1 | refine below_set ?_ GE175.out | refine below_set ?_ GE176.out | refine below_set ?_ GE189.out | refine below_set ?_ GE193.out | refine below_set ?_ GE197.out) | exact HB.out)) hb); have n12_ := Aside0.mk (hbox); have n13_ := Aside0.mk ((by rw [hg]; exact (below_size (by repeat (first | (with_reducible first | exact HB.out | apply below_alloc | apply pw_below_drewN | apply below_drew1 | refine below_set ?_ GE175.out | refine below_set ?_ GE176.out | refine below_set ?_ GE189.out | refine below_set ?_ GE193.out | refine below_set ?_ GE197.out) | exact HB.out))) : w.heap.size ≤ gb202)); have n14_ := Aside0.mk ((by rw [hg]; exact (below_size (by repeat (first | (with_reducible first | exact HB.out | apply below_alloc | apply pw_below_drewN | apply below_drew1 | refine below_set ?_ GE175.out | refine below_set ?_ GE176.out | refine below_set ?_ GE189.out | refine below_set ?_ GE193.out | refine below_set ?_ GE197.out) | exact HB.out))) : w.heap.size ≤ gb202)); have n15_ := Aside0.mk ((by rw [hg]; exact Nat.ne_of_lt (blk_lt (g := gb175) (o := .cells #[.slice A0_0 l0_0.length c0_0] 24 (0, 0)) (kb_ BK175.out)) : gb175 ≠ gb202)); have n16_ := Aside0.mk ((by rw [hg]; exact Nat.ne_of_gt (blk_lt (g := gb175) (o := .cells #[.slice A0_0 l0_0.length c0_0] 24 (0, 0)) (kb_ BK175.out)) : gb202 ≠ gb175)); have n17_ := Aside0.mk ((by rw [hg]; exact Nat.ne_of_lt (blk_lt (g := gb176) (o := .cells #[.slice A1_0 l1_0.length c1_0] 24 (0, 0)) (kb_ BK176.out)) : gb176 ≠ gb202)); have n18_ := Aside0.mk ((by rw [hg]; exact Nat.ne_of_gt (blk_lt (g := gb176) (o := .cells #[.slice A1_0 l1_0.length c1_0] 24 (0, 0)) (kb_ BK176.out)) : gb202 ≠ gb176)); have n19_ := Aside0.mk ((by rw [hg]; exact Nat.ne_of_lt (blk_lt (g := gb189) (o := .cells #[.slice Ao42 t185.length co42] 28 (0, 0)) (kb_ BK189.out)) : gb189 ≠ gb202)); have n20_ := Aside0.mk ((by rw [hg]; exact Nat.ne_of_gt (blk_lt (g := gb189) (o := .cells #[.slice Ao42 t185.length co42] 28 (0, 0)) (kb_ BK189.out)) : gb202 ≠ gb189)); have n21_ := Aside0.mk ((by rw [hg]; exact Nat.ne_of_lt (blk_lt (g := gb193) (o := .cells #[.slice Ao48 t190.length co48] 28 (0, 0)) (kb_ BK193.out)) : gb193 ≠ gb202)); have n22_ := Aside0.mk ((by rw [hg]; exact Nat.ne_of_gt (blk_lt (g := gb193) (o := .cells #[.slice Ao48 t190.length co48] 28 (0, 0)) (kb_ BK193.out)) : gb202 ≠ gb193)); have n23_ := Aside0.mk ((by rw [hg]; exact Nat.ne_of_lt (blk_lt (g := gb197) (o := .cells #[.slice Ao57 t194.length co57] 28 (0, 0)) (kb_ BK197.out)) : gb197 ≠ gb202)); have n24_ := Aside0.mk ((by rw [hg]; exact Nat.ne_of_gt (blk_lt (g := gb197) (o := .cells #[.slice Ao57 t194.length co57] 28 (0, 0)) (kb_ BK197.out)) : gb202 ≠ gb197)); clear HO181; clear HO184; clear HO187; clear HO192; clear HO196; clear HO200; clear BK175; clear BK176; clear BK189; clear BK193; clear BK197; clear HB; have HO181 := n0_; have HO184 := n1_; have HO187 := n2_; have HO192 := n3_; have HO196 := n4_; have HO200 := n5_; have BK175 := n6_; have BK176 := n7_; have BK189 := n8_; have BK193 := n9_; have BK197 := n10_; have HB := n11_; have BK202 := n12_; have GW202 := n13_; have GE202 := n14_; have NB175_202 := n15_; have NB202_175 := n16_; have NB176_202 := n17_; have NB202_176 := n18_; have NB189_202 := n19_; have NB202_189 := n20_; have NB193_202 := n21_; have NB202_193 := n22_; have NB197_202 := n23_; have NB202_197 := n24_; clear n0_ n1_ n2_ n3_ n4_ n5_ n6_ n7_ n8_ n9_ n10_ n11_ n12_ n13_ n14_ n15_ n16_ n17_ n18_ n19_ n20_ n21_ n22_ n23_ n24_; clear hb hbox hg; obtain ⟨Ao66, co66, eo66⟩ := Kd.R_slice HO200.out; subst eo66; have hnb67 := NB202_175.out; have hnc67 := NB175_202.out; have hnb68 := NB202_176.out; have hnc68 := NB176_202.out; have hnb69 := NB202_189.out; have hnc69 := NB189_202.out; have hnb70 := NB202_193.out; have hnc70 := NB193_202.out; have hnb71 := NB202_197.out; have hnc71 := NB197_202.out; have hcz72_0 : w65.cell? ⟨gb202, 0, none⟩ = some (.slice none 0 0) := (blk_cell BK202.out 0).trans rfl; have hfz72_0 := blk_frozen BK202.out 0))
 (try simp only [Act.put, List.setIfInBounds_toArray, List.set_cons_zero, List.set_cons_succ])
 go_cut [57] (fun v57 wc => ∃ (kq : Nat) (x57_25 : Bool), v57 = .bool x57_25 ∧ Aside0 (laws_FnExactMeetOf.j0 kq a2 t188 t201 x57_25 l0_0 l1_0 t185 t190 t194 t198 = some r) ∧ Aside0 (kq ≤ k) ∧ Aside0 (Kd.R (Kd.int .i64) 3 wc w.heap.size (fun k_ => some k_ ≠ ((.slice Ao48 t190.length co48) : Value).ownBlock ∧ some k_ ≠ ((.slice Ao57 t194.length co57) : Value).ownBlock ∧ some k_ ≠ ((.slice Ao66 t198.length co66) : Value).ownBlock) (.slice Ao42 t185.length co42) t185) ∧ Aside0 (Kd.R (Kd.int .i64) 3 wc w.heap.size (fun k_ => some k_ ≠ ((.slice Ao42 t185.length co42) : Value).ownBlock ∧ some k_ ≠ ((.slice Ao57 t194.length co57) : Value).ownBlock ∧ some k_ ≠ ((.slice Ao66 t198.length co66) : Value).ownBlock) (.slice Ao48 t190.length co48) t190) ∧ Aside0 (Kd.R (Kd.int .i64) 3 wc w.heap.size (fun k_ => some k_ ≠ ((.slice Ao42 t185.length co42) : Value).ownBlock ∧ some k_ ≠ ((.slice Ao48 t190.length co48) : Value).ownBlock ∧ some k_ ≠ ((.slice Ao66 t198.length co66) : Value).ownBlock) (.slice Ao57 t194.length co57) t194) ∧ Aside0 (Kd.R (Kd.int .i64) 3 wc w.heap.size (fun k_ => some k_ ≠ ((.slice Ao42 t185.length co42) : Value).ownBlock ∧ some k_ ≠ ((.slice Ao48 t190.length co48) : Value).ownBlock ∧ some k_ ≠ ((.slice Ao57 t194.length co57) : Value).ownBlock) (.slice Ao66 t198.length co66) t198) ∧ Aside0 (wc.heap[gb175]? = some (.cells #[(.slice A0_0 l0_0.length c0_0)] 24 (0, 0))) ∧ Aside0 (wc.heap[gb176]? = some (.cells #[(.slice A1_0 l1_0.length c1_0)] 24 (0, 0))) ∧ Aside0 (wc.heap[gb189]? = some (.cells #[(.slice Ao42 t185.length co42)] 28 (0, 0))) ∧ Aside0 (wc.heap[gb193]? = some (.cells #[(.slice Ao48 t190.length co48)] 28 (0, 0))) ∧ Aside0 (wc.heap[gb197]? = some (.cells #[(.slice Ao57 t194.length co57)] 28 (0, 0))) ∧ Aside0 (wc.heap[gb202]? = some (.cells #[(.slice Ao66 t198.length co66)] 28 (0, 0))) ∧ Aside0 (Below w.heap.size w wc))
 case first =>
  have H := HC26.out
  clear HC26
  replace H := Option.bind_eq_some_iff.mp H
  obtain ⟨t203, A730, H⟩ := H
  replace H : (if t203 = true then (laws_FnExactMeetOf.j0 k a2 t188 t201 (t201 != t188) l0_0 l1_0 t185 t190 t194 t198) else (none)) = some r := H
  have A73 := Aside0.mk A730
  clear A730
  by_cases c74 : t203 = true
  rotate_left
  ·replace c74 := Bool.eq_false_iff.mpr c74
   subst c74
   have H1 : (none) = some r := by rw [if_neg (show ¬ (false = true) by decide)] at H; exact H
   clear H
   have H := H1
   clear H1
   exact absurd H (by simp)
  subst c74
  have H1 : (laws_FnExactMeetOf.j0 k a2 t188 t201 (t201 != t188) l0_0 l1_0 t185 t190 t194 t198) = some r := by rw [if_pos rfl] at H; exact H
  clear H
  have H := H1
  clear H1
  have H' := Aside0.mk H
  clear H
  have hnb75 := NB202_175.out
  have hnc75 := NB175_202.out
  have hnb76 := NB202_176.out
  have hnc76 := NB176_202.out
  have hnb77 := NB202_189.out
  have hnc77 := NB189_202.out
  have hnb78 := NB202_193.out
  have hnc78 := NB193_202.out
  have hnb79 := NB202_197.out
  have hnc79 := NB197_202.out
  have hcz80_0 : w65.cell? ⟨gb202, 0, none⟩ = some (.slice none 0 0) := (blk_cell BK202.out 0).trans rfl
  have hfz80_0 := blk_frozen BK202.out 0
  have hnb81 := NB189_175.out
  have hnc81 := NB175_189.out
  have hnb82 := NB189_176.out
  have hnc82 := NB176_189.out
  have hnb83 := NB189_193.out
  have hnc83 := NB193_189.out
  have hnb84 := NB189_197.out
  have hnc84 := NB197_189.out
  have hcz85_0 : w65.cell? ⟨gb189, 0, none⟩ = some (.slice Ao42 t185.length co42) := (blk_cell BK189.out 0).trans rfl
  have hfz85_0 := blk_frozen BK189.out 0
  go_wp2_with (first | ((with_reducible refine gate_callee (f := 16) rfl ?_); refine goesL_ (some 51) rfl rfl Try.func16 (by kernel_rfl) rfl #[.agg #[.slice Ao66 t198.length co66], .agg #[.slice Ao42 t185.length co42]] rfl (by (try simp only [List.map_toArray, List.map_cons, List.map_nil]); first | done | rfl | (simp only [List.length_drop, List.length_take]; rfl)) ?_; (with_reducible refine (laws_eqGroup.calls k _ _ t198 _ _ t185 true _ ?side1 ?side2 ?side3 ?side4 A73.out).mono ?_); (case side1 => refine (Kd.R_reads' (e := 3) (base := w.heap.size) (ok := fun k_ => (((((True ∧ some k_ ≠ (v180 : Value).ownBlock) ∧ some k_ ≠ (v183 : Value).ownBlock) ∧ some k_ ≠ (.slice Ao42 t185.length co42 : Value).ownBlock) ∧ some k_ ≠ (.slice Ao48 t190.length co48 : Value).ownBlock) ∧ some k_ ≠ (.slice Ao57 t194.length co57 : Value).ownBlock)) (n := t198.length) (c := co66) ?_).2.2; exact (kr_ ((Kd.R_mono (Kd.R_far (p := ⟨gb202, 0, none⟩) (Kd.R_types HO200.out BK202.out (by decide)) (fun _ hk => hk.2) (.slice Ao66 t198.length co66)) (fun _ h_ => h_.1))))); (case side2 => exact (Kd.R_reads' HO200.out).2.1); (case side3 => refine (Kd.R_reads' (e := 3) (base := w.heap.size) (ok := fun k_ => ((((some k_ ≠ (v180 : Value).ownBlock ∧ some k_ ≠ (v183 : Value).ownBlock) ∧ some k_ ≠ (.slice Ao48 t190.length co48 : Value).ownBlock) ∧ some k_ ≠ (.slice Ao57 t194.length co57 : Value).ownBlock) ∧ some k_ ≠ (.slice Ao66 t198.length co66 : Value).ownBlock)) (n := t185.length) (c := co42) ?_).2.2; exact (kr_ ((Kd.R_mono (Kd.R_far (p := ⟨gb202, 0, none⟩) (Kd.R_types HO187.out BK202.out (by decide)) (fun _ hk => hk.2) (.slice Ao66 t198.length co66)) (fun _ h_ => h_.1))))); (case side4 => exact (Kd.R_reads' HO187.out).2.1); rintro e w86 ⟨rfl, hb⟩; refine ⟨_, rfl, ?_⟩; have n0_ := Aside0.mk (Kd.R_below (kr_ ((Kd.R_mono (Kd.R_far (p := ⟨gb202, 0, none⟩) (Kd.R_types HO181.out BK202.out (by decide)) (fun _ hk => hk.2) (.slice Ao66 t198.length co66)) (fun _ h_ => h_.1)))) hb); have n1_ := Aside0.mk (Kd.R_below (kr_ ((Kd.R_mono (Kd.R_far (p := ⟨gb202, 0, none⟩) (Kd.R_types HO184.out BK202.out (by decide)) (fun _ hk => hk.2) (.slice Ao66 t198.length co66)) (fun _ h_ => h_.1)))) hb); have n2_ := Aside0.mk (Kd.R_below (kr_ ((Kd.R_mono (Kd.R_far (p := ⟨gb202, 0, none⟩) (Kd.R_types HO187.out BK202.out (by decide)) (fun _ hk => hk.2) (.slice Ao66 t198.length co66)) (fun _ h_ => h_.1)))) hb); have n3_ := Aside0.mk (Kd.R_below (kr_ ((Kd.R_mono (Kd.R_far (p := ⟨gb202, 0, none⟩) (Kd.R_types HO192.out BK202.out (by decide)) (fun _ hk => hk.2) (.slice Ao66 t198.length co66)) (fun _ h_ => h_.1)))) hb); have n4_ := Aside0.mk (Kd.R_below (kr_ ((Kd.R_mono (Kd.R_far (p := ⟨gb202, 0, none⟩) (Kd.R_types HO196.out BK202.out (by decide)) (fun _ hk => hk.2) (.slice Ao66 t198.length co66)) (fun _ h_ => h_.1)))) hb); have n5_ := Aside0.mk (Kd.R_below (kr_ ((Kd.R_mono (Kd.R_far (p := ⟨gb202, 0, none⟩) (Kd.R_types HO200.out BK202.out (by decide)) (fun _ hk => hk.2) (.slice Ao66 t198.length co66)) (fun _ h_ => h_.1)))) hb); have n6_ := Aside0.mk (blk_below (g := gb175) (o := .cells #[.slice A0_0 l0_0.length c0_0] 24 (0, 0)) (by (with_reducible repeat (first | refine blk_drewN ?_ _ | refine blk_drew ?_ | refine blk_alloc ?_ _)); refine blk_far ?_ NB175_202.out _; exact kb_ BK175.out) hb); have n7_ := Aside0.mk (blk_below (g := gb176) (o := .cells #[.slice A1_0 l1_0.length c1_0] 24 (0, 0)) (by (with_reducible repeat (first | refine blk_drewN ?_ _ | refine blk_drew ?_ | refine blk_alloc ?_ _)); refine blk_far ?_ NB176_202.out _; exact kb_ BK176.out) hb); have n8_ := Aside0.mk (blk_below (g := gb189) (o := .cells #[.slice Ao42 t185.length co42] 28 (0, 0)) (by (with_reducible repeat (first | refine blk_drewN ?_ _ | refine blk_drew ?_ | refine blk_alloc ?_ _)); refine blk_far ?_ NB189_202.out _; exact kb_ BK189.out) hb); have n9_ := Aside0.mk (blk_below (g := gb193) (o := .cells #[.slice Ao48 t190.length co48] 28 (0, 0)) (by (with_reducible repeat (first | refine blk_drewN ?_ _ | refine blk_drew ?_ | refine blk_alloc ?_ _)); refine blk_far ?_ NB193_202.out _; exact kb_ BK193.out) hb); have n10_ := Aside0.mk (blk_below (g := gb197) (o := .cells #[.slice Ao57 t194.length co57] 28 (0, 0)) (by (with_reducible repeat (first | refine blk_drewN ?_ _ | refine blk_drew ?_ | refine blk_alloc ?_ _)); refine blk_far ?_ NB197_202.out _; exact kb_ BK197.out) hb); have n11_ := Aside0.mk (blk_below (g := gb202) (o := .cells #[.slice Ao66 t198.length co66] 28 (0, 0)) (by (with_reducible repeat (first | refine blk_drewN ?_ _ | refine blk_drew ?_ | refine blk_alloc ?_ _)); refine blk_put (cs := #[.slice none 0 0]) ?_ 0 _ rfl; exact kb_ BK202.out) hb); have n12_ := Aside0.mk (below_step (by repeat (first | (with_reducible first | exact HB.out | apply below_alloc | apply pw_below_drewN | apply below_drew1 | refine below_set ?_ GE175.out | refine below_set ?_ GE176.out | refine below_set ?_ GE189.out | refine below_set ?_ GE193.out | refine below_set ?_ GE197.out | refine below_set ?_ GE202.out) | exact HB.out)) hb); clear HO181; clear HO184; clear HO187; clear HO192; clear HO196; clear HO200; clear BK175; clear BK176; clear BK189; clear BK193; clear BK197; clear BK202; clear HB; have HO181 := n0_; have HO184 := n1_; have HO187 := n2_; have HO192 := n3_; have HO196 := n4_; have HO200 := n5_; have BK175 := n6_; have BK176 := n7_; have BK189 := n8_; have BK193 := n9_; have BK197 := n10_; have BK202 := n11_; have HB := n12_; clear n0_ n1_ n2_ n3_ n4_ n5_ n6_ n7_ n8_ n9_ n10_ n11_ n12_; (try clear hb); (try clear hb2); (try clear hk); (try clear hi)))
  go_meet
  case rel => exact ⟨_, ((t201 != t188)), (by first | rfl | (simp; done) | (simp [*]; done)), H', ⟨by first | omega | exact Nat.le_refl _⟩, ⟨by exact kr_ (Kd.R_mono HO187.out (fun _ hk => ⟨hk.1.1.2, ⟨hk.1.2, hk.2⟩⟩))⟩, ⟨by exact kr_ (Kd.R_mono HO192.out (fun _ hk => ⟨hk.1.1.2, ⟨hk.1.2, hk.2⟩⟩))⟩, ⟨by exact kr_ (Kd.R_mono HO196.out (fun _ hk => ⟨hk.1.1.2, ⟨hk.1.2, hk.2⟩⟩))⟩, ⟨by exact kr_ (Kd.R_mono HO200.out (fun _ hk => ⟨hk.1.1.2, ⟨hk.1.2, hk.2⟩⟩))⟩, ⟨by exact kb_ BK175.out⟩, ⟨by exact kb_ BK176.out⟩, ⟨by exact kb_ BK189.out⟩, ⟨by exact kb_ BK193.out⟩, ⟨by exact kb_ BK197.out⟩, ⟨by exact kb_ BK202.out⟩, ⟨by repeat (first | (with_reducible first | exact HB.out | apply below_alloc | apply pw_below_drewN | apply below_drew1 | refine below_set ?_ GE175.out | refine below_set ?_ GE176.out | refine below_set ?_ GE189.out | refine below_set ?_ GE193.out | refine below_set ?_ GE197.out | refine below_set ?_ GE202.out) | exact HB.out)⟩⟩
 clear HC26
 try clear c1
 try clear p2
 try clear c3
 try clear c4
 try clear c5
 try clear c6
 try clear c7
 try clear c8
 try clear c14
 try clear c16
 try clear c30
 try clear c31
 try clear c44
 try clear c49
 try clear c50
 try clear c51
 try clear c53
 try clear c58
 try clear c59
 try clear c60
 try clear c61
 try clear c67
 try clear c68
 try clear c69
 try clear c70
 try clear c71
 try clear c74
 try clear c75
 try clear c76
 try clear c77
 try clear c78
 try clear c79
 try clear c81
 try clear c82
 try clear c83
 try clear c84
 try clear hcz45_0
 try clear hcz52_0
 try clear hcz54_0
 try clear hcz62_0
 try clear hcz63_0
 try clear hcz72_0
 try clear hcz80_0
 try clear hcz85_0
 try clear hfz45_0
 try clear hfz52_0
 try clear hfz54_0
 try clear hfz62_0
 try clear hfz63_0
 try clear hfz72_0
 try clear hfz80_0
 try clear hfz85_0
 obtain ⟨kq, x57_25, rfl, HA, HJ25, HO_190000, HO_194000, HO_198000, HO_203000, BK175, BK176, BK189, BK193, BK197, BK202, HB⟩ := hcut
 cases kq with
 | zero => exact absurd HA.out (by simp [laws_FnExactMeetOf.j0])
 | succ kj25 => ?_
 have H := HA.out
 clear HA
 simp only [laws_FnExactMeetOf.j0] at H
 by_cases c87 : x57_25 = true
 ·subst c87
  have H1 : (none) = some r := by rw [if_pos rfl] at H; exact H
  clear H
  have H := H1
  clear H1
  exact absurd H (by simp)
 replace c87 := Bool.eq_false_iff.mpr c87
 subst c87
 have H1 : ((laws_toGroup.f kj25 l0_0).bind fun t204 => ((laws_eqGroup.f kj25 t190 t204).bind fun t207 => (if t207 = true then ((laws_toGroup.f kj25 l1_0).bind fun t208 => ((laws_eqGroup.f kj25 t194 t208).bind fun t211 => (if t211 = true then ((laws_markGroup.f kj25 t190 1).bind fun bt212 => ((laws_markGroup.f kj25 t194 bt212.1).bind fun bt214 => (if bt214.1 < 0 then (none) else ((laws_eqGroup.f kj25 t198 t185).bind fun t216 => (if t216 = true then (laws_FnExactMeetOf.j1 kj25 a2 t188 (t201 != t188) l0_0 l1_0 t185 t198) else (none)))))) else (none)))) else (none)))) = some r := by rw [if_neg (show ¬ (false = true) by decide)] at H; exact H
 clear H
 have H := H1
 clear H1
 replace H := Option.bind_eq_some_iff.mp H
 obtain ⟨t204, A880, H⟩ := H
 replace H : ((laws_eqGroup.f kj25 t190 t204).bind fun t207 => (if t207 = true then ((laws_toGroup.f kj25 l1_0).bind fun t208 => ((laws_eqGroup.f kj25 t194 t208).bind fun t211 => (if t211 = true then ((laws_markGroup.f kj25 t190 1).bind fun bt212 => ((laws_markGroup.f kj25 t194 bt212.1).bind fun bt214 => (if bt214.1 < 0 then (none) else ((laws_eqGroup.f kj25 t198 t185).bind fun t216 => (if t216 = true then (laws_FnExactMeetOf.j1 kj25 a2 t188 (t201 != t188) l0_0 l1_0 t185 t198) else (none)))))) else (none)))) else (none))) = some r := H
 have A88 := Aside0.mk A880
 clear A880
 replace H := Option.bind_eq_some_iff.mp H
 obtain ⟨t207, A890, H⟩ := H
 replace H : (if t207 = true then ((laws_toGroup.f kj25 l1_0).bind fun t208 => ((laws_eqGroup.f kj25 t194 t208).bind fun t211 => (if t211 = true then ((laws_markGroup.f kj25 t190 1).bind fun bt212 => ((laws_markGroup.f kj25 t194 bt212.1).bind fun bt214 => (if bt214.1 < 0 then (none) else ((laws_eqGroup.f kj25 t198 t185).bind fun t216 => (if t216 = true then (laws_FnExactMeetOf.j1 kj25 a2 t188 (t201 != t188) l0_0 l1_0 t185 t198) else (none)))))) else (none)))) else (none)) = some r := H
 have A89 := Aside0.mk A890
 clear A890
 by_cases c90 : t207 = true
 rotate_left
 ·replace c90 := Bool.eq_false_iff.mpr c90
  subst c90
  have H1 : (none) = some r := by rw [if_neg (show ¬ (false = true) by decide)] at H; exact H
  clear H
  have H := H1
  clear H1
  exact absurd H (by simp)
 subst c90
 have H1 : ((laws_toGroup.f kj25 l1_0).bind fun t208 => ((laws_eqGroup.f kj25 t194 t208).bind fun t211 => (if t211 = true then ((laws_markGroup.f kj25 t190 1).bind fun bt212 => ((laws_markGroup.f kj25 t194 bt212.1).bind fun bt214 => (if bt214.1 < 0 then (none) else ((laws_eqGroup.f kj25 t198 t185).bind fun t216 => (if t216 = true then (laws_FnExactMeetOf.j1 kj25 a2 t188 (t201 != t188) l0_0 l1_0 t185 t198) else (none)))))) else (none)))) = some r := by rw [if_pos rfl] at H; exact H
 clear H
 have H := H1
 clear H1
 replace H := Option.bind_eq_some_iff.mp H
 obtain ⟨t208, A910, H⟩ := H
 replace H : ((laws_eqGroup.f kj25 t194 t208).bind fun t211 => (if t211 = true then ((laws_markGroup.f kj25 t190 1).bind fun bt212 => ((laws_markGroup.f kj25 t194 bt212.1).bind fun bt214 => (if bt214.1 < 0 then (none) else ((laws_eqGroup.f kj25 t198 t185).bind fun t216 => (if t216 = true then (laws_FnExactMeetOf.j1 kj25 a2 t188 (t201 != t188) l0_0 l1_0 t185 t198) else (none)))))) else (none))) = some r := H
 have A91 := Aside0.mk A910
 clear A910
 replace H := Option.bind_eq_some_iff.mp H
 obtain ⟨t211, A920, H⟩ := H
 replace H : (if t211 = true then ((laws_markGroup.f kj25 t190 1).bind fun bt212 => ((laws_markGroup.f kj25 t194 bt212.1).bind fun bt214 => (if bt214.1 < 0 then (none) else ((laws_eqGroup.f kj25 t198 t185).bind fun t216 => (if t216 = true then (laws_FnExactMeetOf.j1 kj25 a2 t188 (t201 != t188) l0_0 l1_0 t185 t198) else (none)))))) else (none)) = some r := H
 have A92 := Aside0.mk A920
 clear A920
 by_cases c93 : t211 = true
 rotate_left
 ·replace c93 := Bool.eq_false_iff.mpr c93
  subst c93
  have H1 : (none) = some r := by rw [if_neg (show ¬ (false = true) by decide)] at H; exact H
  clear H
  have H := H1
  clear H1
  exact absurd H (by simp)
 subst c93
 have H1 : ((laws_markGroup.f kj25 t190 1).bind fun bt212 => ((laws_markGroup.f kj25 t194 bt212.1).bind fun bt214 => (if bt214.1 < 0 then (none) else ((laws_eqGroup.f kj25 t198 t185).bind fun t216 => (if t216 = true then (laws_FnExactMeetOf.j1 kj25 a2 t188 (t201 != t188) l0_0 l1_0 t185 t198) else (none)))))) = some r := by rw [if_pos rfl] at H; exact H
 clear H
 have H := H1
 clear H1
 replace H := Option.bind_eq_some_iff.mp H
 obtain ⟨⟨t212, t213⟩, A940, H⟩ := H
 replace H : ((laws_markGroup.f kj25 t194 t212).bind fun bt214 => (if bt214.1 < 0 then (none) else ((laws_eqGroup.f kj25 t198 t185).bind fun t216 => (if t216 = true then (laws_FnExactMeetOf.j1 kj25 a2 t188 (t201 != t188) l0_0 l1_0 t185 t198) else (none))))) = some r := H
 have A94 := Aside0.mk A940
 clear A940
 replace H := Option.bind_eq_some_iff.mp H
 obtain ⟨⟨t214, t215⟩, A950, H⟩ := H
 replace H : (if t214 < 0 then (none) else ((laws_eqGroup.f kj25 t198 t185).bind fun t216 => (if t216 = true then (laws_FnExactMeetOf.j1 kj25 a2 t188 (t201 != t188) l0_0 l1_0 t185 t198) else (none)))) = some r := H
 have A95 := Aside0.mk A950
 clear A950
 have HC96 := Aside0.mk H
 clear H
 try go_wp2
 have n0_ := Aside0.mk (Kd.R_drew HO_190000.out)
 have n1_ := Aside0.mk (Kd.R_drew HO_194000.out)
 have n2_ := Aside0.mk (Kd.R_drew HO_198000.out)
 have n3_ := Aside0.mk (Kd.R_drew HO_203000.out)
 have n4_ := Aside0.mk (blk_drew BK175.out)
 have n5_ := Aside0.mk (blk_drew BK176.out)
 have n6_ := Aside0.mk (blk_drew BK189.out)
 have n7_ := Aside0.mk (blk_drew BK193.out)
 have n8_ := Aside0.mk (blk_drew BK197.out)
 have n9_ := Aside0.mk (blk_drew BK202.out)
 have n10_ := Aside0.mk (below_drew1 HB.out)
 clear HO_190000
 clear HO_194000
 clear HO_198000
 clear HO_203000
 clear BK175
 clear BK176
 clear BK189
 clear BK193
 clear BK197
 clear BK202
 clear HB
 have HO_190000 := n0_
 have HO_194000 := n1_
 have HO_198000 := n2_
 have HO_203000 := n3_
 have BK175 := n4_
 have BK176 := n5_
 have BK189 := n6_
 have BK193 := n7_
 have BK197 := n8_
 have BK202 := n9_
 have HB := n10_
 clear n0_ n1_ n2_ n3_ n4_ n5_ n6_ n7_ n8_ n9_ n10_
 refine start_ (n := 5) (S := fun w' => w'.cell? ⟨gb193, 0, none⟩ = some (.slice Ao48 t190.length co48) ∧ w'.cell? ⟨gb175, 0, none⟩ = some (.slice A0_0 l0_0.length c0_0)) (ds := []) #[false, false, false, false, false] (by kernel_rfl) rfl rfl ⟨(blk_cell BK193.out 0).trans rfl, (blk_cell BK175.out 0).trans rfl⟩ (fun hHeld => ?_)
 generalize wc.drew = w97 at HO_190000 HO_194000 HO_198000 HO_203000 BK175 BK176 BK189 BK193 BK197 BK202 HB hHeld ⊢
 refine take_ (i := 0) (N := some 58) (v := ?_) (a' := ?_) #[true, false, false, false, false] rfl rfl (by kernel_rfl) (fun _ _ _ h => h) (Or.inl ⟨by rfl, ?_⟩) hHeld ?_ ?_
 rotate_left
 ·rintro w' ⟨s0, s1⟩
  go_simp
  with_reducible rfl
 rotate_left
 ·simp only [Act.put, List.setIfInBounds_toArray, List.set_cons_zero, List.set_cons_succ, i64_w, i32_w]
  rfl
 refine take_ (i := 1) (N := some 59) (v := ?_) (a' := ?_) #[true, true, false, false, false] rfl rfl (by kernel_rfl) (fun _ _ _ h => h) (Or.inl ⟨by rfl, ?_⟩) hHeld ?_ ?_
 rotate_left
 ·rintro w' ⟨s0, s1⟩
  go_simp
  with_reducible rfl
 rotate_left
 ·simp only [Act.put, List.setIfInBounds_toArray, List.set_cons_zero, List.set_cons_succ, i64_w, i32_w]
  rfl
 refine one_ (i := 2) (N := some 60) #[true, true, true, false, false] rfl rfl (by kernel_rfl) (by decide) (fun K hK => ?_)
 refine goes_ Try.func14 (by kernel_rfl) rfl #[.agg #[.slice A0_0 l0_0.length c0_0]] (by rfl) rfl rfl (by (try simp only [List.map_toArray, List.map_cons, List.map_nil]); first | done | rfl | (simp only [List.length_drop, List.length_take]; rfl)) ?_
 with_reducible refine (laws_toGroup.calls kj25 _ _ l0_0 t204 _ ?side1 ?side2 A88.out).mono ?_
 (case side1 => repeat (first | exact (Kd.C_below HR0_0.out HB.out) | (with_reducible refine Kd.C_alloc ?_ _) | (with_reducible refine Kd.C_drewN ?_ _) | (with_reducible refine Kd.C_drew ?_)))
 (case side2 => exact HC0_0.out)
 rintro e w98 ⟨v205, rfl, ho0, hb⟩
 refine ⟨_, rfl, ?_⟩
 have n0_ := Aside0.mk (Kd.R_elder' (kr_ HO_190000.out) (Kd.R_base ho0) hb)
 have n1_ := Aside0.mk (Kd.R_elder' (kr_ HO_194000.out) (Kd.R_base ho0) hb)
 have n2_ := Aside0.mk (Kd.R_elder' (kr_ HO_198000.out) (Kd.R_base ho0) hb)
 have n3_ := Aside0.mk (Kd.R_elder' (kr_ HO_203000.out) (Kd.R_base ho0) hb)
 have n4_ := Aside0.mk (Kd.R_lower (Kd.R_new' (Kd.R_new' (Kd.R_new' (Kd.R_new' ho0 (Kd.R_lt (kr_ HO_190000.out))) (Kd.R_lt (kr_ HO_194000.out))) (Kd.R_lt (kr_ HO_198000.out))) (Kd.R_lt (kr_ HO_203000.out))) (below_size (by repeat (first | (with_reducible first | exact HB.out | apply below_alloc | apply pw_below_drewN | apply below_drew1 | refine below_set ?_ GE175.out | refine below_set ?_ GE176.out | refine below_set ?_ GE189.out | refine below_set ?_ GE193.out | refine below_set ?_ GE197.out | refine below_set ?_ GE202.out) | exact HB.out))))
 have n5_ := Aside0.mk (blk_below (g := gb175) (o := .cells #[.slice A0_0 l0_0.length c0_0] 24 (0, 0)) (kb_ BK175.out) hb)
 have n6_ := Aside0.mk (blk_below (g := gb176) (o := .cells #[.slice A1_0 l1_0.length c1_0] 24 (0, 0)) (kb_ BK176.out) hb)
 have n7_ := Aside0.mk (blk_below (g := gb189) (o := .cells #[.slice Ao42 t185.length co42] 28 (0, 0)) (kb_ BK189.out) hb)
 have n8_ := Aside0.mk (blk_below (g := gb193) (o := .cells #[.slice Ao48 t190.length co48] 28 (0, 0)) (kb_ BK193.out) hb)
 have n9_ := Aside0.mk (blk_below (g := gb197) (o := .cells #[.slice Ao57 t194.length co57] 28 (0, 0)) (kb_ BK197.out) hb)
 have n10_ := Aside0.mk (blk_below (g := gb202) (o := .cells #[.slice Ao66 t198.length co66] 28 (0, 0)) (kb_ BK202.out) hb)
 have n11_ := Aside0.mk (below_step (by repeat (first | (with_reducible first | exact HB.out | apply below_alloc | apply pw_below_drewN | apply below_drew1 | refine below_set ?_ GE175.out | refine below_set ?_ GE176.out | refine below_set ?_ GE189.out | refine below_set ?_ GE193.out | refine below_set ?_ GE197.out | refine below_set ?_ GE202.out) | exact HB.out)) hb)
 clear HO_190000
 clear HO_194000
 clear HO_198000
 clear HO_203000
 clear BK175
 clear BK176
 clear BK189
 clear BK193
 clear BK197
 clear BK202
 clear HB
 have HO_190000 := n0_
 have HO_194000 := n1_
 have HO_198000 := n2_
 have HO_203000 := n3_
 have HO206 := n4_
 have BK175 := n5_
 have BK176 := n6_
 have BK189 := n7_
 have BK193 := n8_
 have BK197 := n9_
 have BK202 := n10_
 have HB := n11_
 clear n0_ n1_ n2_ n3_ n4_ n5_ n6_ n7_ n8_ n9_ n10_ n11_
 (try clear hb)
 (try clear hb2)
 (try clear hk)
 (try clear hi)
 (try clear ho0)
 obtain ⟨Ao99, co99, eo99⟩ := Kd.R_slice HO206.out
 (first | subst eo99 | (injection eo99 with f1_ f2_ f3_; have f4_ := f1_.symm; have f5_ := f3_.symm; clear f1_ f2_ f3_; subst f4_; subst f5_))
 refine hK.out _ _ ⟨(blk_cell BK193.out 0).trans rfl, (blk_cell BK175.out 0).trans rfl⟩ (fun hHeld => ?_)
 clear hK K
 refine norm_ (a' := ?_) ?_ ?_
 rotate_left
 ·show Act.put _ (some 60) _ = _
  simp only [Act.put, List.setIfInBounds_toArray, List.set_cons_zero, List.set_cons_succ, i64_w, i32_w]
  rfl
 refine one_ (i := 3) (N := some 61) #[true, true, true, true, false] rfl rfl (by kernel_rfl) (by decide) (fun K hK => ?_)
 refine goes_ Try.func16 (by kernel_rfl) rfl #[.agg #[.slice Ao48 t190.length co48], .agg #[.slice Ao99 t204.length co99]] (by rfl) rfl rfl (by (try simp only [List.map_toArray, List.map_cons, List.map_nil]); first | done | rfl | (simp only [List.length_drop, List.length_take]; rfl)) ?_
 with_reducible refine (laws_eqGroup.calls kj25 _ _ t190 _ _ t204 true _ ?side1 ?side2 ?side3 ?side4 A89.out).mono ?_
 (case side1 => repeat (first | exact (Kd.R_reads' HO_194000.out).2.2 | (with_reducible refine Kd.C_alloc ?_ _) | (with_reducible refine Kd.C_drewN ?_ _) | (with_reducible refine Kd.C_drew ?_)))
 (case side2 => exact (Kd.R_reads' HO_194000.out).2.1)
 (case side3 => repeat (first | exact (Kd.R_reads' HO206.out).2.2 | (with_reducible refine Kd.C_alloc ?_ _) | (with_reducible refine Kd.C_drewN ?_ _) | (with_reducible refine Kd.C_drew ?_)))
 (case side4 => exact (Kd.R_reads' HO206.out).2.1)
 rintro e w100 ⟨rfl, hb⟩
 refine ⟨_, rfl, ?_⟩
 have n0_ := Aside0.mk (Kd.R_below (kr_ HO_190000.out) hb)
 have n1_ := Aside0.mk (Kd.R_below (kr_ HO_194000.out) hb)
 have n2_ := Aside0.mk (Kd.R_below (kr_ HO_198000.out) hb)
 have n3_ := Aside0.mk (Kd.R_below (kr_ HO_203000.out) hb)
 have n4_ := Aside0.mk (Kd.R_below (kr_ HO206.out) hb)
 have n5_ := Aside0.mk (blk_below (g := gb175) (o := .cells #[.slice A0_0 l0_0.length c0_0] 24 (0, 0)) (kb_ BK175.out) hb)
 have n6_ := Aside0.mk (blk_below (g := gb176) (o := .cells #[.slice A1_0 l1_0.length c1_0] 24 (0, 0)) (kb_ BK176.out) hb)
 have n7_ := Aside0.mk (blk_below (g := gb189) (o := .cells #[.slice Ao42 t185.length co42] 28 (0, 0)) (kb_ BK189.out) hb)
 have n8_ := Aside0.mk (blk_below (g := gb193) (o := .cells #[.slice Ao48 t190.length co48] 28 (0, 0)) (kb_ BK193.out) hb)
 have n9_ := Aside0.mk (blk_below (g := gb197) (o := .cells #[.slice Ao57 t194.length co57] 28 (0, 0)) (kb_ BK197.out) hb)
 have n10_ := Aside0.mk (blk_below (g := gb202) (o := .cells #[.slice Ao66 t198.length co66] 28 (0, 0)) (kb_ BK202.out) hb)
 have n11_ := Aside0.mk (below_step (by repeat (first | (with_reducible first | exact HB.out | apply below_alloc | apply pw_below_drewN | apply below_drew1 | refine below_set ?_ GE175.out | refine below_set ?_ GE176.out | refine below_set ?_ GE189.out | refine below_set ?_ GE193.out | refine below_set ?_ GE197.out | refine below_set ?_ GE202.out) | exact HB.out)) hb)
 clear HO_190000
 clear HO_194000
 clear HO_198000
 clear HO_203000
 clear HO206
 clear BK175
 clear BK176
 clear BK189
 clear BK193
 clear BK197
 clear BK202
 clear HB
 have HO_190000 := n0_
 have HO_194000 := n1_
 have HO_198000 := n2_
 have HO_203000 := n3_
 have HO206 := n4_
 have BK175 := n5_
 have BK176 := n6_
 have BK189 := n7_
 have BK193 := n8_
 have BK197 := n9_
 have BK202 := n10_
 have HB := n11_
 clear n0_ n1_ n2_ n3_ n4_ n5_ n6_ n7_ n8_ n9_ n10_ n11_
 (try clear hb)
 (try clear hb2)
 (try clear hk)
 (try clear hi)
 refine hK.out _ _ ⟨(blk_cell BK193.out 0).trans rfl, (blk_cell BK175.out 0).trans rfl⟩ (fun hHeld => ?_)
 clear hK K
 refine norm_ (a' := ?_) ?_ ?_
 rotate_left
 ·show Act.put _ (some 61) _ = _
  simp only [Act.put, List.setIfInBounds_toArray, List.set_cons_zero, List.set_cons_succ, i64_w, i32_w]
  rfl
 refine pure_ (i := 4) (N := some 62) (v := ?_) (a' := ?_) #[true, true, true, true, true] rfl rfl (by kernel_rfl) (fun _ _ _ h => h) (Or.inl ⟨by rfl, ?_⟩) ?_ ?_
 rotate_left
 ·intro w'
  go_simp
  with_reducible rfl
 rotate_left
 ·simp only [Act.put, List.setIfInBounds_toArray, List.set_cons_zero, List.set_cons_succ, i64_w, i32_w]
  rfl
 refine done_ (by kernel_rfl) ?_
 try go_wp2
 have n0_ := Aside0.mk (Kd.R_drew HO_190000.out)
 have n1_ := Aside0.mk (Kd.R_drew HO_194000.out)
 have n2_ := Aside0.mk (Kd.R_drew HO_198000.out)
 have n3_ := Aside0.mk (Kd.R_drew HO_203000.out)
 have n4_ := Aside0.mk (Kd.R_drew HO206.out)
 have n5_ := Aside0.mk (blk_drew BK175.out)
 have n6_ := Aside0.mk (blk_drew BK176.out)
 have n7_ := Aside0.mk (blk_drew BK189.out)
 have n8_ := Aside0.mk (blk_drew BK193.out)
 have n9_ := Aside0.mk (blk_drew BK197.out)
 have n10_ := Aside0.mk (blk_drew BK202.out)
 have n11_ := Aside0.mk (below_drew1 HB.out)
 clear HO_190000
 clear HO_194000
 clear HO_198000
 clear HO_203000
 clear HO206
 clear BK175
 clear BK176
 clear BK189
 clear BK193
 clear BK197
 clear BK202
 clear HB
 have HO_190000 := n0_
 have HO_194000 := n1_
 have HO_198000 := n2_
 have HO_203000 := n3_
 have HO206 := n4_
 have BK175 := n5_
 have BK176 := n6_
 have BK189 := n7_
 have BK193 := n8_
 have BK197 := n9_
 have BK202 := n10_
 have HB := n11_
 clear n0_ n1_ n2_ n3_ n4_ n5_ n6_ n7_ n8_ n9_ n10_ n11_
 refine start_ (n := 5) (S := fun w' => w'.cell? ⟨gb197, 0, none⟩ = some (.slice Ao57 t194.length co57) ∧ w'.cell? ⟨gb176, 0, none⟩ = some (.slice A1_0 l1_0.length c1_0)) (ds := []) #[false, false, false, false, false] (by kernel_rfl) rfl rfl ⟨(blk_cell BK197.out 0).trans rfl, (blk_cell BK176.out 0).trans rfl⟩ (fun hHeld => ?_)
 generalize w100.drew = w101 at HO_190000 HO_194000 HO_198000 HO_203000 HO206 BK175 BK176 BK189 BK193 BK197 BK202 HB hHeld ⊢
 refine take_ (i := 0) (N := some 63) (v := ?_) (a' := ?_) #[true, false, false, false, false] rfl rfl (by kernel_rfl) (fun _ _ _ h => h) (Or.inl ⟨by rfl, ?_⟩) hHeld ?_ ?_
 rotate_left
 ·rintro w' ⟨s0, s1⟩
  go_simp
  with_reducible rfl
 rotate_left
 ·simp only [Act.put, List.setIfInBounds_toArray, List.set_cons_zero, List.set_cons_succ, i64_w, i32_w]
  rfl
 refine take_ (i := 1) (N := some 64) (v := ?_) (a' := ?_) #[true, true, false, false, false] rfl rfl (by kernel_rfl) (fun _ _ _ h => h) (Or.inl ⟨by rfl, ?_⟩) hHeld ?_ ?_
 rotate_left
 ·rintro w' ⟨s0, s1⟩
  go_simp
  with_reducible rfl
 rotate_left
 ·simp only [Act.put, List.setIfInBounds_toArray, List.set_cons_zero, List.set_cons_succ, i64_w, i32_w]
  rfl
 refine one_ (i := 2) (N := some 65) #[true, true, true, false, false] rfl rfl (by kernel_rfl) (by decide) (fun K hK => ?_)
 refine goes_ Try.func14 (by kernel_rfl) rfl #[.agg #[.slice A1_0 l1_0.length c1_0]] (by rfl) rfl rfl (by (try simp only [List.map_toArray, List.map_cons, List.map_nil]); first | done | rfl | (simp only [List.length_drop, List.length_take]; rfl)) ?_
 with_reducible refine (laws_toGroup.calls kj25 _ _ l1_0 t208 _ ?side1 ?side2 A91.out).mono ?_
 (case side1 => repeat (first | exact (Kd.C_below HR1_0.out HB.out) | (with_reducible refine Kd.C_alloc ?_ _) | (with_reducible refine Kd.C_drewN ?_ _) | (with_reducible refine Kd.C_drew ?_)))
 (case side2 => exact HC1_0.out)
 rintro e w102 ⟨v209, rfl, ho0, hb⟩
 refine ⟨_, rfl, ?_⟩
 have n0_ := Aside0.mk (Kd.R_elder' (kr_ HO_190000.out) (Kd.R_base ho0) hb)
 have n1_ := Aside0.mk (Kd.R_elder' (kr_ HO_194000.out) (Kd.R_base ho0) hb)
 have n2_ := Aside0.mk (Kd.R_elder' (kr_ HO_198000.out) (Kd.R_base ho0) hb)
 have n3_ := Aside0.mk (Kd.R_elder' (kr_ HO_203000.out) (Kd.R_base ho0) hb)
 have n4_ := Aside0.mk (Kd.R_elder' (kr_ HO206.out) (Kd.R_base ho0) hb)
 have n5_ := Aside0.mk (Kd.R_lower (Kd.R_new' (Kd.R_new' (Kd.R_new' (Kd.R_new' (Kd.R_new' ho0 (Kd.R_lt (kr_ HO_190000.out))) (Kd.R_lt (kr_ HO_194000.out))) (Kd.R_lt (kr_ HO_198000.out))) (Kd.R_lt (kr_ HO_203000.out))) (Kd.R_lt (kr_ HO206.out))) (below_size (by repeat (first | (with_reducible first | exact HB.out | apply below_alloc | apply pw_below_drewN | apply below_drew1 | refine below_set ?_ GE175.out | refine below_set ?_ GE176.out | refine below_set ?_ GE189.out | refine below_set ?_ GE193.out | refine below_set ?_ GE197.out | refine below_set ?_ GE202.out) | exact HB.out))))
 have n6_ := Aside0.mk (blk_below (g := gb175) (o := .cells #[.slice A0_0 l0_0.length c0_0] 24 (0, 0)) (kb_ BK175.out) hb)
 have n7_ := Aside0.mk (blk_below (g := gb176) (o := .cells #[.slice A1_0 l1_0.length c1_0] 24 (0, 0)) (kb_ BK176.out) hb)
 have n8_ := Aside0.mk (blk_below (g := gb189) (o := .cells #[.slice Ao42 t185.length co42] 28 (0, 0)) (kb_ BK189.out) hb)
 have n9_ := Aside0.mk (blk_below (g := gb193) (o := .cells #[.slice Ao48 t190.length co48] 28 (0, 0)) (kb_ BK193.out) hb)
 have n10_ := Aside0.mk (blk_below (g := gb197) (o := .cells #[.slice Ao57 t194.length co57] 28 (0, 0)) (kb_ BK197.out) hb)
 have n11_ := Aside0.mk (blk_below (g := gb202) (o := .cells #[.slice Ao66 t198.length co66] 28 (0, 0)) (kb_ BK202.out) hb)
 have n12_ := Aside0.mk (below_step (by repeat (first | (with_reducible first | exact HB.out | apply below_alloc | apply pw_below_drewN | apply below_drew1 | refine below_set ?_ GE175.out | refine below_set ?_ GE176.out | refine below_set ?_ GE189.out | refine below_set ?_ GE193.out | refine below_set ?_ GE197.out | refine below_set ?_ GE202.out) | exact HB.out)) hb)
 clear HO_190000
 clear HO_194000
 clear HO_198000
 clear HO_203000
 clear HO206
 clear BK175
 clear BK176
 clear BK189
 clear BK193
 clear BK197
 clear BK202
 clear HB
 have HO_190000 := n0_
 have HO_194000 := n1_
 have HO_198000 := n2_
 have HO_203000 := n3_
 have HO206 := n4_
 have HO210 := n5_
 have BK175 := n6_
 have BK176 := n7_
 have BK189 := n8_
 have BK193 := n9_
 have BK197 := n10_
 have BK202 := n11_
 have HB := n12_
 clear n0_ n1_ n2_ n3_ n4_ n5_ n6_ n7_ n8_ n9_ n10_ n11_ n12_
 (try clear hb)
 (try clear hb2)
 (try clear hk)
 (try clear hi)
 (try clear ho0)
 obtain ⟨Ao103, co103, eo103⟩ := Kd.R_slice HO210.out
 (first | subst eo103 | (injection eo103 with f1_ f2_ f3_; have f4_ := f1_.symm; have f5_ := f3_.symm; clear f1_ f2_ f3_; subst f4_; subst f5_))
 refine hK.out _ _ ⟨(blk_cell BK197.out 0).trans rfl, (blk_cell BK176.out 0).trans rfl⟩ (fun hHeld => ?_)
 clear hK K
 refine norm_ (a' := ?_) ?_ ?_
 rotate_left
 ·show Act.put _ (some 65) _ = _
  simp only [Act.put, List.setIfInBounds_toArray, List.set_cons_zero, List.set_cons_succ, i64_w, i32_w]
  rfl
 refine one_ (i := 3) (N := some 66) #[true, true, true, true, false] rfl rfl (by kernel_rfl) (by decide) (fun K hK => ?_)
 refine goes_ Try.func16 (by kernel_rfl) rfl #[.agg #[.slice Ao57 t194.length co57], .agg #[.slice Ao103 t208.length co103]] (by rfl) rfl rfl (by (try simp only [List.map_toArray, List.map_cons, List.map_nil]); first | done | rfl | (simp only [List.length_drop, List.length_take]; rfl)) ?_
 with_reducible refine (laws_eqGroup.calls kj25 _ _ t194 _ _ t208 true _ ?side1 ?side2 ?side3 ?side4 A92.out).mono ?_
 (case side1 => repeat (first | exact (Kd.R_reads' HO_198000.out).2.2 | (with_reducible refine Kd.C_alloc ?_ _) | (with_reducible refine Kd.C_drewN ?_ _) | (with_reducible refine Kd.C_drew ?_)))
 (case side2 => exact (Kd.R_reads' HO_198000.out).2.1)
 (case side3 => repeat (first | exact (Kd.R_reads' HO210.out).2.2 | (with_reducible refine Kd.C_alloc ?_ _) | (with_reducible refine Kd.C_drewN ?_ _) | (with_reducible refine Kd.C_drew ?_)))
 (case side4 => exact (Kd.R_reads' HO210.out).2.1)
 rintro e w104 ⟨rfl, hb⟩
 refine ⟨_, rfl, ?_⟩
 have n0_ := Aside0.mk (Kd.R_below (kr_ HO_190000.out) hb)
 have n1_ := Aside0.mk (Kd.R_below (kr_ HO_194000.out) hb)
 have n2_ := Aside0.mk (Kd.R_below (kr_ HO_198000.out) hb)
 have n3_ := Aside0.mk (Kd.R_below (kr_ HO_203000.out) hb)
 have n4_ := Aside0.mk (Kd.R_below (kr_ HO206.out) hb)
 have n5_ := Aside0.mk (Kd.R_below (kr_ HO210.out) hb)
 have n6_ := Aside0.mk (blk_below (g := gb175) (o := .cells #[.slice A0_0 l0_0.length c0_0] 24 (0, 0)) (kb_ BK175.out) hb)
 have n7_ := Aside0.mk (blk_below (g := gb176) (o := .cells #[.slice A1_0 l1_0.length c1_0] 24 (0, 0)) (kb_ BK176.out) hb)
 have n8_ := Aside0.mk (blk_below (g := gb189) (o := .cells #[.slice Ao42 t185.length co42] 28 (0, 0)) (kb_ BK189.out) hb)
 have n9_ := Aside0.mk (blk_below (g := gb193) (o := .cells #[.slice Ao48 t190.length co48] 28 (0, 0)) (kb_ BK193.out) hb)
 have n10_ := Aside0.mk (blk_below (g := gb197) (o := .cells #[.slice Ao57 t194.length co57] 28 (0, 0)) (kb_ BK197.out) hb)
 have n11_ := Aside0.mk (blk_below (g := gb202) (o := .cells #[.slice Ao66 t198.length co66] 28 (0, 0)) (kb_ BK202.out) hb)
 have n12_ := Aside0.mk (below_step (by repeat (first | (with_reducible first | exact HB.out | apply below_alloc | apply pw_below_drewN | apply below_drew1 | refine below_set ?_ GE175.out | refine below_set ?_ GE176.out | refine below_set ?_ GE189.out | refine below_set ?_ GE193.out | refine below_set ?_ GE197.out | refine below_set ?_ GE202.out) | exact HB.out)) hb)
 clear HO_190000
 clear HO_194000
 clear HO_198000
 clear HO_203000
 clear HO206
 clear HO210
 clear BK175
 clear BK176
 clear BK189
 clear BK193
 clear BK197
 clear BK202
 clear HB
 have HO_190000 := n0_
 have HO_194000 := n1_
 have HO_198000 := n2_
 have HO_203000 := n3_
 have HO206 := n4_
 have HO210 := n5_
 have BK175 := n6_
 have BK176 := n7_
 have BK189 := n8_
 have BK193 := n9_
 have BK197 := n10_
 have BK202 := n11_
 have HB := n12_
 clear n0_ n1_ n2_ n3_ n4_ n5_ n6_ n7_ n8_ n9_ n10_ n11_ n12_
 (try clear hb)
 (try clear hb2)
 (try clear hk)
 (try clear hi)
 refine hK.out _ _ ⟨(blk_cell BK197.out 0).trans rfl, (blk_cell BK176.out 0).trans rfl⟩ (fun hHeld => ?_)
 clear hK K
 refine norm_ (a' := ?_) ?_ ?_
 rotate_left
 ·show Act.put _ (some 66) _ = _
  simp only [Act.put, List.setIfInBounds_toArray, List.set_cons_zero, List.set_cons_succ, i64_w, i32_w]
  rfl
 refine pure_ (i := 4) (N := some 67) (v := ?_) (a' := ?_) #[true, true, true, true, true] rfl rfl (by kernel_rfl) (fun _ _ _ h => h) (Or.inl ⟨by rfl, ?_⟩) ?_ ?_
 rotate_left
 ·intro w'
  go_simp
  with_reducible rfl
 rotate_left
 ·simp only [Act.put, List.setIfInBounds_toArray, List.set_cons_zero, List.set_cons_succ, i64_w, i32_w]
  rfl
 refine done_ (by kernel_rfl) ?_
 have hnb105 := NB193_175.out
 have hnc105 := NB175_193.out
 have hnb106 := NB193_176.out
 have hnc106 := NB176_193.out
 have hnb107 := NB193_189.out
 have hnc107 := NB189_193.out
 have hnb108 := NB193_197.out
 have hnc108 := NB197_193.out
 have hnb109 := NB193_202.out
 have hnc109 := NB202_193.out
 have hcz110_0 : w104.cell? ⟨gb193, 0, none⟩ = some (.slice Ao48 t190.length co48) := (blk_cell BK193.out 0).trans rfl
 have hfz110_0 := blk_frozen BK193.out 0
 go_upto_region 21 with (first | ((with_reducible refine gate_callee (f := 32) rfl ?_); refine goesL_ (some 70) rfl rfl Try.func32 (by kernel_rfl) rfl #[.agg #[.slice Ao48 t190.length co48], .int .i64 1] rfl (by (try simp only [List.map_toArray, List.map_cons, List.map_nil]); first | done | rfl | (simp only [List.length_drop, List.length_take]; rfl)) ?_; (with_reducible refine (laws_markGroup.calls kj25 (fun k_ => some k_ = (.slice Ao48 t190.length co48 : Value).ownBlock) (.slice Ao48 t190.length co48) t190 1 t212 t213 w _ ?side1 ?side2 A94.out).mono ?_); (case side1 => repeat (first | (with_reducible first | exact HB.out | apply below_alloc | apply pw_below_drewN | apply below_drew1 | refine below_set ?_ GE175.out | refine below_set ?_ GE176.out | refine below_set ?_ GE189.out | refine below_set ?_ GE193.out | refine below_set ?_ GE197.out | refine below_set ?_ GE202.out) | exact HB.out)); (case side2 => exact Kd.R_tight rfl HO_194000.out); rintro e w111 ⟨rfl, hy0, hb, hkp⟩; refine ⟨_, rfl, ?_⟩; have n0_ := Aside0.mk (Kd.R_mono (ok' := fun k_ => some k_ ≠ (.slice Ao48 t190.length co48 : Value).ownBlock ∧ some k_ ≠ (.slice Ao57 t194.length co57 : Value).ownBlock ∧ some k_ ≠ (.slice Ao66 t198.length co66 : Value).ownBlock ∧ some k_ ≠ (.slice Ao99 t204.length co99 : Value).ownBlock ∧ some k_ ≠ (.slice Ao103 t208.length co103 : Value).ownBlock) (Kd.R_keptB (HO_190000.out) hkp (fun k_ hk_ hs_ => (hk_.1.1.1) hs_)) (fun k_ hk_ => ⟨hk_.1.1.1.1, hk_.1.1.1.2.1, hk_.1.1.1.2.2, hk_.1.1.2, hk_.1.2⟩)); have n1_ := Aside0.mk (Kd.R_reok rfl hy0 (fun k_ e_ => HO_194000.out.1 k_ e_)); have n2_ := Aside0.mk (Kd.R_mono (ok' := fun k_ => some k_ ≠ (.slice Ao42 t185.length co42 : Value).ownBlock ∧ some k_ ≠ (.slice Ao48 t190.length co48 : Value).ownBlock ∧ some k_ ≠ (.slice Ao66 t198.length co66 : Value).ownBlock ∧ some k_ ≠ (.slice Ao99 t204.length co99 : Value).ownBlock ∧ some k_ ≠ (.slice Ao103 t208.length co103 : Value).ownBlock) (Kd.R_keptB (HO_198000.out) hkp (fun k_ hk_ hs_ => (hk_.1.1.2.1) hs_)) (fun k_ hk_ => ⟨hk_.1.1.1.1, hk_.1.1.1.2.1, hk_.1.1.1.2.2, hk_.1.1.2, hk_.1.2⟩)); have n3_ := Aside0.mk (Kd.R_mono (ok' := fun k_ => some k_ ≠ (.slice Ao42 t185.length co42 : Value).ownBlock ∧ some k_ ≠ (.slice Ao48 t190.length co48 : Value).ownBlock ∧ some k_ ≠ (.slice Ao57 t194.length co57 : Value).ownBlock ∧ some k_ ≠ (.slice Ao99 t204.length co99 : Value).ownBlock ∧ some k_ ≠ (.slice Ao103 t208.length co103 : Value).ownBlock) (Kd.R_keptB (HO_203000.out) hkp (fun k_ hk_ hs_ => (hk_.1.1.2.1) hs_)) (fun k_ hk_ => ⟨hk_.1.1.1.1, hk_.1.1.1.2.1, hk_.1.1.1.2.2, hk_.1.1.2, hk_.1.2⟩)); have n4_ := Aside0.mk (blk_kept (kb_ BK175.out) hkp (fun hs_ => (fun e_ => (Kd.R_ne HO_194000.out BK175.out (by decide)) e_) hs_)); have n5_ := Aside0.mk (blk_kept (kb_ BK176.out) hkp (fun hs_ => (fun e_ => (Kd.R_ne HO_194000.out BK176.out (by decide)) e_) hs_)); have n6_ := Aside0.mk (blk_kept (kb_ BK189.out) hkp (fun hs_ => (fun e_ => (Kd.R_ne HO_194000.out BK189.out (by decide)) e_) hs_)); have n7_ := Aside0.mk (blk_kept (kb_ BK193.out) hkp (fun hs_ => (fun e_ => (Kd.R_ne HO_194000.out BK193.out (by decide)) e_) hs_)); have n8_ := Aside0.mk (blk_kept (kb_ BK197.out) hkp (fun hs_ => (fun e_ => (Kd.R_ne HO_194000.out BK197.out (by decide)) e_) hs_)); have n9_ := Aside0.mk (blk_kept (kb_ BK202.out) hkp (fun hs_ => (fun e_ => (Kd.R_ne HO_194000.out BK202.out (by decide)) e_) hs_)); have n10_ := Aside0.mk (Kd.R_mono (ok' := fun k_ => some k_ ≠ (.slice Ao42 t185.length co42 : Value).ownBlock ∧ some k_ ≠ (.slice Ao48 t190.length co48 : Value).ownBlock ∧ some k_ ≠ (.slice Ao57 t194.length co57 : Value).ownBlock ∧ some k_ ≠ (.slice Ao66 t198.length co66 : Value).ownBlock ∧ some k_ ≠ (.slice Ao103 t208.length co103 : Value).ownBlock) (Kd.R_keptB (HO206.out) hkp (fun k_ hk_ hs_ => (hk_.1.1.1.2) hs_)) (fun k_ hk_ => ⟨hk_.1.1.1.1.1.2, hk_.1.1.1.1.2, hk_.1.1.1.2, hk_.1.1.2, hk_.1.2⟩)); have n11_ := Aside0.mk (Kd.R_mono (ok' := fun k_ => some k_ ≠ (.slice Ao42 t185.length co42 : Value).ownBlock ∧ some k_ ≠ (.slice Ao48 t190.length co48 : Value).ownBlock ∧ some k_ ≠ (.slice Ao57 t194.length co57 : Value).ownBlock ∧ some k_ ≠ (.slice Ao66 t198.length co66 : Value).ownBlock ∧ some k_ ≠ (.slice Ao99 t204.length co99 : Value).ownBlock) (Kd.R_keptB (HO210.out) hkp (fun k_ hk_ hs_ => (hk_.1.1.1.2) hs_)) (fun k_ hk_ => ⟨hk_.1.1.1.1.1.2, hk_.1.1.1.1.2, hk_.1.1.1.2, hk_.1.1.2, hk_.1.2⟩)); have n12_ := Aside0.mk (hb); clear HO_190000; clear HO_194000; clear HO_198000; clear HO_203000; clear BK175; clear BK176; clear BK189; clear BK193; clear BK197; clear BK202; clear HO206; clear HO210; clear HB; have HO_190000 := n0_; have HO_194000 := n1_; have HO_198000 := n2_; have HO_203000 := n3_; have BK175 := n4_; have BK176 := n5_; have BK189 := n6_; have BK193 := n7_; have BK197 := n8_; have BK202 := n9_; have HO206 := n10_; have HO210 := n11_; have HB := n12_; clear n0_ n1_ n2_ n3_ n4_ n5_ n6_ n7_ n8_ n9_ n10_ n11_ n12_; (try clear hb); (try clear hkp); (try clear hy0); have hnb112 := NB197_175.out; have hnc112 := NB175_197.out; have hnb113 := NB197_176.out; have hnc113 := NB176_197.out; have hnb114 := NB197_189.out; have hnc114 := NB189_197.out; have hnb115 := NB197_202.out; have hnc115 := NB202_197.out; have hcz116_0 : w111.cell? ⟨gb197, 0, none⟩ = some (.slice Ao57 t194.length co57) := (blk_cell BK197.out 0).trans rfl; have hfz116_0 := blk_frozen BK197.out 0) | ((with_reducible refine gate_callee (f := 32) rfl ?_); refine goesL_ (some 73) rfl rfl Try.func32 (by kernel_rfl) rfl #[.agg #[.slice Ao57 t194.length co57], .int .i64 t212] rfl (by (try simp only [List.map_toArray, List.map_cons, List.map_nil]); first | done | rfl | (simp only [List.length_drop, List.length_take]; rfl)) ?_; (with_reducible refine (laws_markGroup.calls kj25 (fun k_ => some k_ = (.slice Ao57 t194.length co57 : Value).ownBlock) (.slice Ao57 t194.length co57) t194 t212 t214 t215 w _ ?side1 ?side2 A95.out).mono ?_); (case side1 => repeat (first | (with_reducible first | exact HB.out | apply below_alloc | apply pw_below_drewN | apply below_drew1 | refine below_set ?_ GE175.out | refine below_set ?_ GE176.out | refine below_set ?_ GE189.out | refine below_set ?_ GE193.out | refine below_set ?_ GE197.out | refine below_set ?_ GE202.out) | exact HB.out)); (case side2 => exact Kd.R_tight rfl HO_198000.out); rintro e w117 ⟨rfl, hy0, hb, hkp⟩; refine ⟨_, rfl, ?_⟩; have n0_ := Aside0.mk (Kd.R_mono (ok' := fun k_ => some k_ ≠ (.slice Ao48 t190.length co48 : Value).ownBlock ∧ some k_ ≠ (.slice Ao57 t194.length co57 : Value).ownBlock ∧ some k_ ≠ (.slice Ao66 t198.length co66 : Value).ownBlock ∧ some k_ ≠ (.slice Ao99 t204.length co99 : Value).ownBlock ∧ some k_ ≠ (.slice Ao103 t208.length co103 : Value).ownBlock) (Kd.R_keptB (HO_190000.out) hkp (fun k_ hk_ hs_ => (hk_.2.1) hs_)) (fun k_ hk_ => ⟨hk_.1.1, hk_.1.2.1, hk_.1.2.2.1, hk_.1.2.2.2.1, hk_.1.2.2.2.2⟩)); have n1_ := Aside0.mk (Kd.R_mono (ok' := fun k_ => some k_ ≠ (.slice Ao42 t185.length co42 : Value).ownBlock ∧ some k_ ≠ (.slice Ao57 t194.length co57 : Value).ownBlock ∧ some k_ ≠ (.slice Ao66 t198.length co66 : Value).ownBlock ∧ some k_ ≠ (.slice Ao99 t204.length co99 : Value).ownBlock ∧ some k_ ≠ (.slice Ao103 t208.length co103 : Value).ownBlock) (Kd.R_keptB (HO_194000.out) hkp (fun k_ hk_ hs_ => (hk_.1.1.2.1) hs_)) (fun k_ hk_ => ⟨hk_.1.1.1.1, hk_.1.1.1.2.1, hk_.1.1.1.2.2, hk_.1.1.2, hk_.1.2⟩)); have n2_ := Aside0.mk (Kd.R_reok rfl hy0 (fun k_ e_ => HO_198000.out.1 k_ e_)); have n3_ := Aside0.mk (Kd.R_mono (ok' := fun k_ => some k_ ≠ (.slice Ao42 t185.length co42 : Value).ownBlock ∧ some k_ ≠ (.slice Ao48 t190.length co48 : Value).ownBlock ∧ some k_ ≠ (.slice Ao57 t194.length co57 : Value).ownBlock ∧ some k_ ≠ (.slice Ao99 t204.length co99 : Value).ownBlock ∧ some k_ ≠ (.slice Ao103 t208.length co103 : Value).ownBlock) (Kd.R_keptB (HO_203000.out) hkp (fun k_ hk_ hs_ => (hk_.2.2.1) hs_)) (fun k_ hk_ => ⟨hk_.1.1, hk_.1.2.1, hk_.1.2.2.1, hk_.1.2.2.2.1, hk_.1.2.2.2.2⟩)); have n4_ := Aside0.mk (blk_kept (kb_ BK175.out) hkp (fun hs_ => (fun e_ => (Kd.R_ne HO_198000.out BK175.out (by decide)) e_) hs_)); have n5_ := Aside0.mk (blk_kept (kb_ BK176.out) hkp (fun hs_ => (fun e_ => (Kd.R_ne HO_198000.out BK176.out (by decide)) e_) hs_)); have n6_ := Aside0.mk (blk_kept (kb_ BK189.out) hkp (fun hs_ => (fun e_ => (Kd.R_ne HO_198000.out BK189.out (by decide)) e_) hs_)); have n7_ := Aside0.mk (blk_kept (kb_ BK193.out) hkp (fun hs_ => (fun e_ => (Kd.R_ne HO_198000.out BK193.out (by decide)) e_) hs_)); have n8_ := Aside0.mk (blk_kept (kb_ BK197.out) hkp (fun hs_ => (fun e_ => (Kd.R_ne HO_198000.out BK197.out (by decide)) e_) hs_)); have n9_ := Aside0.mk (blk_kept (kb_ BK202.out) hkp (fun hs_ => (fun e_ => (Kd.R_ne HO_198000.out BK202.out (by decide)) e_) hs_)); have n10_ := Aside0.mk (Kd.R_mono (ok' := fun k_ => some k_ ≠ (.slice Ao42 t185.length co42 : Value).ownBlock ∧ some k_ ≠ (.slice Ao48 t190.length co48 : Value).ownBlock ∧ some k_ ≠ (.slice Ao57 t194.length co57 : Value).ownBlock ∧ some k_ ≠ (.slice Ao66 t198.length co66 : Value).ownBlock ∧ some k_ ≠ (.slice Ao103 t208.length co103 : Value).ownBlock) (Kd.R_keptB (HO206.out) hkp (fun k_ hk_ hs_ => (hk_.2.2.1) hs_)) (fun k_ hk_ => ⟨hk_.1.1, hk_.1.2.1, hk_.1.2.2.1, hk_.1.2.2.2.1, hk_.1.2.2.2.2⟩)); have n11_ := Aside0.mk (Kd.R_mono (ok' := fun k_ => some k_ ≠ (.slice Ao42 t185.length co42 : Value).ownBlock ∧ some k_ ≠ (.slice Ao48 t190.length co48 : Value).ownBlock ∧ some k_ ≠ (.slice Ao57 t194.length co57 : Value).ownBlock ∧ some k_ ≠ (.slice Ao66 t198.length co66 : Value).ownBlock ∧ some k_ ≠ (.slice Ao99 t204.length co99 : Value).ownBlock) (Kd.R_keptB (HO210.out) hkp (fun k_ hk_ hs_ => (hk_.2.2.1) hs_)) (fun k_ hk_ => ⟨hk_.1.1, hk_.1.2.1, hk_.1.2.2.1, hk_.1.2.2.2.1, hk_.1.2.2.2.2⟩)); have n12_ := Aside0.mk (hb); clear HO_190000; clear HO_194000; clear HO_198000; clear HO_203000; clear BK175; clear BK176; clear BK189; clear BK193; clear BK197; clear BK202; clear HO206; clear HO210; clear HB; have HO_190000 := n0_; have HO_194000 := n1_; have HO_198000 := n2_; have HO_203000 := n3_; have BK175 := n4_; have BK176 := n5_; have BK189 := n6_; have BK193 := n7_; have BK197 := n8_; have BK202 := n9_; have HO206 := n10_; have HO210 := n11_; have HB := n12_; clear n0_ n1_ n2_ n3_ n4_ n5_ n6_ n7_ n8_ n9_ n10_ n11_ n12_; (try clear hb); (try clear hkp); (try clear hy0)))
 (try simp only [Act.put, List.setIfInBounds_toArray, List.set_cons_zero, List.set_cons_succ])
 go_cut [86] (fun v86 wc => ∃ (kq : Nat) (x86_95 : Bool), v86 = .bool x86_95 ∧ Aside0 (laws_FnExactMeetOf.j1 kq a2 t188 x86_95 l0_0 l1_0 t185 t198 = some r) ∧ Aside0 (kq ≤ kj25) ∧ Aside0 (Kd.R (Kd.int .i64) 3 wc w.heap.size (fun k_ => some k_ ≠ ((.slice Ao48 t190.length co48) : Value).ownBlock ∧ some k_ ≠ ((.slice Ao57 t194.length co57) : Value).ownBlock ∧ some k_ ≠ ((.slice Ao66 t198.length co66) : Value).ownBlock) (.slice Ao42 t185.length co42) t185) ∧ Aside0 (Kd.R (Kd.int .i64) 3 wc w.heap.size (fun k_ => some k_ ≠ ((.slice Ao42 t185.length co42) : Value).ownBlock ∧ some k_ ≠ ((.slice Ao57 t194.length co57) : Value).ownBlock ∧ some k_ ≠ ((.slice Ao66 t198.length co66) : Value).ownBlock) (.slice Ao48 t190.length co48) t213) ∧ Aside0 (Kd.R (Kd.int .i64) 3 wc w.heap.size (fun k_ => some k_ ≠ ((.slice Ao42 t185.length co42) : Value).ownBlock ∧ some k_ ≠ ((.slice Ao48 t190.length co48) : Value).ownBlock ∧ some k_ ≠ ((.slice Ao66 t198.length co66) : Value).ownBlock) (.slice Ao57 t194.length co57) t215) ∧ Aside0 (Kd.R (Kd.int .i64) 3 wc w.heap.size (fun k_ => some k_ ≠ ((.slice Ao42 t185.length co42) : Value).ownBlock ∧ some k_ ≠ ((.slice Ao48 t190.length co48) : Value).ownBlock ∧ some k_ ≠ ((.slice Ao57 t194.length co57) : Value).ownBlock) (.slice Ao66 t198.length co66) t198) ∧ Aside0 (wc.heap[gb175]? = some (.cells #[(.slice A0_0 l0_0.length c0_0)] 24 (0, 0))) ∧ Aside0 (wc.heap[gb176]? = some (.cells #[(.slice A1_0 l1_0.length c1_0)] 24 (0, 0))) ∧ Aside0 (wc.heap[gb189]? = some (.cells #[(.slice Ao42 t185.length co42)] 28 (0, 0))) ∧ Aside0 (wc.heap[gb193]? = some (.cells #[(.slice Ao48 t190.length co48)] 28 (0, 0))) ∧ Aside0 (wc.heap[gb197]? = some (.cells #[(.slice Ao57 t194.length co57)] 28 (0, 0))) ∧ Aside0 (wc.heap[gb202]? = some (.cells #[(.slice Ao66 t198.length co66)] 28 (0, 0))) ∧ Aside0 (Below w.heap.size w wc))
 case first =>
  have H := HC96.out
  clear HC96
  by_cases c118 : t214 < 0
  ·rw [if_pos c118] at H
   exact absurd H (by simp)
  rw [if_neg c118] at H
  have c118b0 : decide (t214 < 0) = false := decide_eq_false c118
  clear c118
  (first | rw [c118b0] | (simp only [i64_w, i32_w]; rw [c118b0]) | skip)
  replace H := Option.bind_eq_some_iff.mp H
  obtain ⟨t216, A1190, H⟩ := H
  replace H : (if t216 = true then (laws_FnExactMeetOf.j1 kj25 a2 t188 (t201 != t188) l0_0 l1_0 t185 t198) else (none)) = some r := H
  have A119 := Aside0.mk A1190
  clear A1190
  by_cases c120 : t216 = true
  rotate_left
  ·replace c120 := Bool.eq_false_iff.mpr c120
   subst c120
   have H1 : (none) = some r := by rw [if_neg (show ¬ (false = true) by decide)] at H; exact H
   clear H
   have H := H1
   clear H1
   exact absurd H (by simp)
  subst c120
  have H1 : (laws_FnExactMeetOf.j1 kj25 a2 t188 (t201 != t188) l0_0 l1_0 t185 t198) = some r := by rw [if_pos rfl] at H; exact H
  clear H
  have H := H1
  clear H1
  have H' := Aside0.mk H
  clear H
  have hnb121 := NB202_175.out
  have hnc121 := NB175_202.out
  have hnb122 := NB202_176.out
  have hnc122 := NB176_202.out
  have hnb123 := NB202_189.out
  have hnc123 := NB189_202.out
  have hnb124 := NB202_193.out
  have hnc124 := NB193_202.out
  have hnb125 := NB202_197.out
  have hnc125 := NB197_202.out
  have hcz126_0 : w117.cell? ⟨gb202, 0, none⟩ = some (.slice Ao66 t198.length co66) := (blk_cell BK202.out 0).trans rfl
  have hfz126_0 := blk_frozen BK202.out 0
  have hnb127 := NB189_175.out
  have hnc127 := NB175_189.out
  have hnb128 := NB189_176.out
  have hnc128 := NB176_189.out
  have hnb129 := NB189_193.out
  have hnc129 := NB193_189.out
  have hnb130 := NB189_197.out
  have hnc130 := NB197_189.out
  have hcz131_0 : w117.cell? ⟨gb189, 0, none⟩ = some (.slice Ao42 t185.length co42) := (blk_cell BK189.out 0).trans rfl
  have hfz131_0 := blk_frozen BK189.out 0
  go_wp2_with (first | (go_at_call 16; (with_reducible refine (laws_eqGroup.calls kj25 _ _ t198 _ _ t185 true _ ?side1 ?side2 ?side3 ?side4 A119.out).mono ?_); (case side1 => repeat (first | exact (Kd.R_reads' HO_203000.out).2.2 | (with_reducible refine Kd.C_alloc ?_ _) | (with_reducible refine Kd.C_drewN ?_ _) | (with_reducible refine Kd.C_drew ?_))); (case side2 => exact (Kd.R_reads' HO_203000.out).2.1); (case side3 => repeat (first | exact (Kd.R_reads' HO_190000.out).2.2 | (with_reducible refine Kd.C_alloc ?_ _) | (with_reducible refine Kd.C_drewN ?_ _) | (with_reducible refine Kd.C_drew ?_))); (case side4 => exact (Kd.R_reads' HO_190000.out).2.1); rintro e w132 ⟨rfl, hb⟩; have n0_ := Aside0.mk (Kd.R_below (kr_ HO_190000.out) hb); have n1_ := Aside0.mk (Kd.R_below (kr_ HO_194000.out) hb); have n2_ := Aside0.mk (Kd.R_below (kr_ HO_198000.out) hb); have n3_ := Aside0.mk (Kd.R_below (kr_ HO_203000.out) hb); have n4_ := Aside0.mk (Kd.R_below (kr_ HO206.out) hb); have n5_ := Aside0.mk (Kd.R_below (kr_ HO210.out) hb); have n6_ := Aside0.mk (blk_below (g := gb175) (o := .cells #[.slice A0_0 l0_0.length c0_0] 24 (0, 0)) (kb_ BK175.out) hb); have n7_ := Aside0.mk (blk_below (g := gb176) (o := .cells #[.slice A1_0 l1_0.length c1_0] 24 (0, 0)) (kb_ BK176.out) hb); have n8_ := Aside0.mk (blk_below (g := gb189) (o := .cells #[.slice Ao42 t185.length co42] 28 (0, 0)) (kb_ BK189.out) hb); have n9_ := Aside0.mk (blk_below (g := gb193) (o := .cells #[.slice Ao48 t190.length co48] 28 (0, 0)) (kb_ BK193.out) hb); have n10_ := Aside0.mk (blk_below (g := gb197) (o := .cells #[.slice Ao57 t194.length co57] 28 (0, 0)) (kb_ BK197.out) hb); have n11_ := Aside0.mk (blk_below (g := gb202) (o := .cells #[.slice Ao66 t198.length co66] 28 (0, 0)) (kb_ BK202.out) hb); have n12_ := Aside0.mk (below_step (by repeat (first | (with_reducible first | exact HB.out | apply below_alloc | apply pw_below_drewN | apply below_drew1 | refine below_set ?_ GE175.out | refine below_set ?_ GE176.out | refine below_set ?_ GE189.out | refine below_set ?_ GE193.out | refine below_set ?_ GE197.out | refine below_set ?_ GE202.out) | exact HB.out)) hb); clear HO_190000; clear HO_194000; clear HO_198000; clear HO_203000; clear HO206; clear HO210; clear BK175; clear BK176; clear BK189; clear BK193; clear BK197; clear BK202; clear HB; have HO_190000 := n0_; have HO_194000 := n1_; have HO_198000 := n2_; have HO_203000 := n3_; have HO206 := n4_; have HO210 := n5_; have BK175 := n6_; have BK176 := n7_; have BK189 := n8_; have BK193 := n9_; have BK197 := n10_; have BK202 := n11_; have HB := n12_; clear n0_ n1_ n2_ n3_ n4_ n5_ n6_ n7_ n8_ n9_ n10_ n11_ n12_; (try clear hb); (try clear hb2); (try clear hk); (try clear hi)))
  go_meet
  case rel => exact ⟨_, ((t201 != t188)), (by first | rfl | (simp; done) | (simp [*]; done)), H', ⟨by have := HJ25.out; first | omega | exact Nat.le_refl _⟩, ⟨by exact kr_ (Kd.R_mono HO_190000.out (fun _ hk => ⟨hk.1, ⟨hk.2.1, hk.2.2.1⟩⟩))⟩, ⟨by exact kr_ (Kd.R_mono HO_194000.out (fun _ hk => ⟨hk.1, ⟨hk.2.1, hk.2.2.1⟩⟩))⟩, ⟨by exact kr_ (Kd.R_mono HO_198000.out (fun _ hk => ⟨hk.1, ⟨hk.2.1, hk.2.2.1⟩⟩))⟩, ⟨by exact kr_ (Kd.R_mono HO_203000.out (fun _ hk => ⟨hk.1, ⟨hk.2.1, hk.2.2.1⟩⟩))⟩, ⟨by exact kb_ BK175.out⟩, ⟨by exact kb_ BK176.out⟩, ⟨by exact kb_ BK189.out⟩, ⟨by exact kb_ BK193.out⟩, ⟨by exact kb_ BK197.out⟩, ⟨by exact kb_ BK202.out⟩, ⟨by repeat (first | (with_reducible first | exact HB.out | apply below_alloc | apply pw_below_drewN | apply below_drew1 | refine below_set ?_ GE175.out | refine below_set ?_ GE176.out | refine below_set ?_ GE189.out | refine below_set ?_ GE193.out | refine below_set ?_ GE197.out | refine below_set ?_ GE202.out) | exact HB.out)⟩⟩
 clear HC96
 try clear c1
 try clear p2
 try clear c3
 try clear c4
 try clear c5
 try clear c6
 try clear c7
 try clear c8
 try clear c9
 try clear c10
 try clear c11
 try clear c12
 try clear c13
 try clear c14
 try clear c16
 try clear c30
 try clear c31
 try clear c32
 try clear c44
 try clear c49
 try clear c50
 try clear c51
 try clear c53
 try clear c58
 try clear c59
 try clear c60
 try clear c61
 try clear c67
 try clear c68
 try clear c69
 try clear c70
 try clear c71
 try clear c74
 try clear c75
 try clear c76
 try clear c77
 try clear c78
 try clear c79
 try clear c81
 try clear c82
 try clear c83
 try clear c84
 try clear c87
 try clear c90
 try clear c93
 try clear c105
 try clear c106
 try clear c107
 try clear c108
 try clear c109
 try clear c112
 try clear c113
 try clear c114
 try clear c115
 try clear c118
 try clear c118b0
 try clear c120
 try clear c121
 try clear c122
 try clear c123
 try clear c124
 try clear c125
 try clear c127
 try clear c128
 try clear c129
 try clear c130
 try clear hcz110_0
 try clear hcz116_0
 try clear hcz126_0
 try clear hcz131_0
 try clear hcz45_0
 try clear hcz52_0
 try clear hcz54_0
 try clear hcz62_0
 try clear hcz63_0
 try clear hcz72_0
 try clear hcz80_0
 try clear hcz85_0
 try clear hfz110_0
 try clear hfz116_0
 try clear hfz126_0
 try clear hfz131_0
 try clear hfz45_0
 try clear hfz52_0
 try clear hfz54_0
 try clear hfz62_0
 try clear hfz63_0
 try clear hfz72_0
 try clear hfz80_0
 try clear hfz85_0
 try clear p2
 obtain ⟨kq, x86_95, rfl, HA, HJ95, HO_190000, HO_194000, HO_198000, HO_203000, BK175, BK176, BK189, BK193, BK197, BK202, HB⟩ := hcut
 have hl194000_95 := (Kd.R_reads' HO_194000.out).1
 rw [hl194000_95] at HO_194000
 (try simp only [hl194000_95])
 (try simp only [hl194000_95] at BK175)
 (try simp only [hl194000_95] at BK176)
 (try simp only [hl194000_95] at BK189)
 (try simp only [hl194000_95] at BK193)
 (try simp only [hl194000_95] at BK197)
 (try simp only [hl194000_95] at BK202)
 (try simp only [hl194000_95] at HO_190000)
 (try simp only [hl194000_95] at HO_198000)
 (try simp only [hl194000_95] at HO_203000)
 have hl198000_95 := (Kd.R_reads' HO_198000.out).1
 rw [hl198000_95] at HO_198000
 (try simp only [hl198000_95])
 (try simp only [hl198000_95] at BK175)
 (try simp only [hl198000_95] at BK176)
 (try simp only [hl198000_95] at BK189)
 (try simp only [hl198000_95] at BK193)
 (try simp only [hl198000_95] at BK197)
 (try simp only [hl198000_95] at BK202)
 (try simp only [hl198000_95] at HO_190000)
 (try simp only [hl198000_95] at HO_194000)
 (try simp only [hl198000_95] at HO_203000)
 cases kq with
 | zero => exact absurd HA.out (by simp [laws_FnExactMeetOf.j1])
 | succ kj95 => ?_
 have H := HA.out
 clear HA
 simp only [laws_FnExactMeetOf.j1] at H
 by_cases c133 : x86_95 = true
 ·subst c133
  have H1 : (none) = some r := by rw [if_pos rfl] at H; exact H
  clear H
  have H := H1
  clear H1
  exact absurd H (by simp)
 replace c133 := Bool.eq_false_iff.mpr c133
 subst c133
 have H1 : ((laws_markGroup.f kj95 t198 1).bind fun bt217 => ((laws_heldGroup.f kj95 bt217.2 1).bind fun t219 => (if t219 < 0 then (none) else (if t219 = bt217.1 then ((laws_toGroup.f kj95 l0_0).bind fun t220 => ((laws_toGroup.f kj95 l1_0).bind fun t223 => ((impl_MeetOf.f kj95 t220 t223 a2).bind fun bt226 => ((laws_eqGroup.f kj95 bt226.1 t185).bind fun t231 => (if t231 = true then (laws_FnExactMeetOf.j2 kj95 bt217.1 (bt226.2 != t188) bt217.2) else (none)))))) else (none))))) = some r := by rw [if_neg (show ¬ (false = true) by decide)] at H; exact H
 clear H
 have H := H1
 clear H1
 replace H := Option.bind_eq_some_iff.mp H
 obtain ⟨⟨t217, t218⟩, A1340, H⟩ := H
 replace H : ((laws_heldGroup.f kj95 t218 1).bind fun t219 => (if t219 < 0 then (none) else (if t219 = t217 then ((laws_toGroup.f kj95 l0_0).bind fun t220 => ((laws_toGroup.f kj95 l1_0).bind fun t223 => ((impl_MeetOf.f kj95 t220 t223 a2).bind fun bt226 => ((laws_eqGroup.f kj95 bt226.1 t185).bind fun t231 => (if t231 = true then (laws_FnExactMeetOf.j2 kj95 t217 (bt226.2 != t188) t218) else (none)))))) else (none)))) = some r := H
 have A134 := Aside0.mk A1340
 clear A1340
 replace H := Option.bind_eq_some_iff.mp H
 obtain ⟨t219, A1350, H⟩ := H
 replace H : (if t219 < 0 then (none) else (if t219 = t217 then ((laws_toGroup.f kj95 l0_0).bind fun t220 => ((laws_toGroup.f kj95 l1_0).bind fun t223 => ((impl_MeetOf.f kj95 t220 t223 a2).bind fun bt226 => ((laws_eqGroup.f kj95 bt226.1 t185).bind fun t231 => (if t231 = true then (laws_FnExactMeetOf.j2 kj95 t217 (bt226.2 != t188) t218) else (none)))))) else (none))) = some r := H
 have A135 := Aside0.mk A1350
 clear A1350
 by_cases c136 : t219 < 0
 ·rw [if_pos c136] at H
  exact absurd H (by simp)
 rw [if_neg c136] at H
 have c136b0 : decide (t219 < 0) = false := decide_eq_false c136
 clear c136
 by_cases c137 : t219 = t217
 rotate_left
 ·rw [if_neg c137] at H
  exact absurd H (by simp)
 rw [if_pos c137] at H
 have c137b0 : (t219 == t217) = true := beq_iff_eq.mpr c137
 have c137b1 : (t219 != t217) = false := bne_eq_false_iff_eq.mpr c137
 clear c137
 replace H := Option.bind_eq_some_iff.mp H
 obtain ⟨t220, A1380, H⟩ := H
 replace H : ((laws_toGroup.f kj95 l1_0).bind fun t223 => ((impl_MeetOf.f kj95 t220 t223 a2).bind fun bt226 => ((laws_eqGroup.f kj95 bt226.1 t185).bind fun t231 => (if t231 = true then (laws_FnExactMeetOf.j2 kj95 t217 (bt226.2 != t188) t218) else (none))))) = some r := H
 have A138 := Aside0.mk A1380
 clear A1380
 replace H := Option.bind_eq_some_iff.mp H
 obtain ⟨t223, A1390, H⟩ := H
 replace H : ((impl_MeetOf.f kj95 t220 t223 a2).bind fun bt226 => ((laws_eqGroup.f kj95 bt226.1 t185).bind fun t231 => (if t231 = true then (laws_FnExactMeetOf.j2 kj95 t217 (bt226.2 != t188) t218) else (none)))) = some r := H
 have A139 := Aside0.mk A1390
 clear A1390
 replace H := Option.bind_eq_some_iff.mp H
 obtain ⟨⟨t226, t229⟩, A1400, H⟩ := H
 replace H : ((laws_eqGroup.f kj95 t226 t185).bind fun t231 => (if t231 = true then (laws_FnExactMeetOf.j2 kj95 t217 (t229 != t188) t218) else (none))) = some r := H
 have A140 := Aside0.mk A1400
 clear A1400
 have HC141 := Aside0.mk H
 clear H
 have hnb142 := NB202_175.out
 have hnc142 := NB175_202.out
 have hnb143 := NB202_176.out
 have hnc143 := NB176_202.out
 have hnb144 := NB202_189.out
 have hnc144 := NB189_202.out
 have hnb145 := NB202_193.out
 have hnc145 := NB193_202.out
 have hnb146 := NB202_197.out
 have hnc146 := NB197_202.out
 have hcz147_0 : wc.cell? ⟨gb202, 0, none⟩ = some (.slice Ao66 t198.length co66) := (blk_cell BK202.out 0).trans rfl
 have hfz147_0 := blk_frozen BK202.out 0
 try go_wp2_with (first | ((with_reducible refine gate_callee (f := 32) rfl ?_); refine goesL_ (some 89) rfl rfl Try.func32 (by kernel_rfl) rfl #[.agg #[.slice Ao66 t198.length co66], .int .i64 1] rfl (by (try simp only [List.map_toArray, List.map_cons, List.map_nil]); first | done | rfl | (simp only [List.length_drop, List.length_take]; rfl)) ?_; (with_reducible refine (laws_markGroup.calls kj95 (fun k_ => some k_ = (.slice Ao66 t198.length co66 : Value).ownBlock) (.slice Ao66 t198.length co66) t198 1 t217 t218 w _ ?side1 ?side2 A134.out).mono ?_); (case side1 => repeat (first | (with_reducible first | exact HB.out | apply below_alloc | apply pw_below_drewN | apply below_drew1 | refine below_set ?_ GE175.out | refine below_set ?_ GE176.out | refine below_set ?_ GE189.out | refine below_set ?_ GE193.out | refine below_set ?_ GE197.out | refine below_set ?_ GE202.out) | exact HB.out)); (case side2 => exact Kd.R_tight rfl HO_203000.out); rintro e w148 ⟨rfl, hy0, hb, hkp⟩; refine ⟨_, rfl, ?_⟩; have n0_ := Aside0.mk (Kd.R_mono (ok' := fun k_ => some k_ ≠ (.slice Ao48 t213.length co48 : Value).ownBlock ∧ some k_ ≠ (.slice Ao57 t215.length co57 : Value).ownBlock ∧ some k_ ≠ (.slice Ao66 t198.length co66 : Value).ownBlock) (Kd.R_keptB (HO_190000.out) hkp (fun k_ hk_ hs_ => (hk_.2.2) hs_)) (fun k_ hk_ => ⟨hk_.1.1, hk_.1.2.1, hk_.1.2.2⟩)); have n1_ := Aside0.mk (Kd.R_mono (ok' := fun k_ => some k_ ≠ (.slice Ao42 t185.length co42 : Value).ownBlock ∧ some k_ ≠ (.slice Ao57 t215.length co57 : Value).ownBlock ∧ some k_ ≠ (.slice Ao66 t198.length co66 : Value).ownBlock) (Kd.R_keptB (HO_194000.out) hkp (fun k_ hk_ hs_ => (hk_.2.2) hs_)) (fun k_ hk_ => ⟨hk_.1.1, hk_.1.2.1, hk_.1.2.2⟩)); have n2_ := Aside0.mk (Kd.R_mono (ok' := fun k_ => some k_ ≠ (.slice Ao42 t185.length co42 : Value).ownBlock ∧ some k_ ≠ (.slice Ao48 t213.length co48 : Value).ownBlock ∧ some k_ ≠ (.slice Ao66 t198.length co66 : Value).ownBlock) (Kd.R_keptB (HO_198000.out) hkp (fun k_ hk_ hs_ => (hk_.2.2) hs_)) (fun k_ hk_ => ⟨hk_.1.1, hk_.1.2.1, hk_.1.2.2⟩)); have n3_ := Aside0.mk (Kd.R_reok rfl hy0 (fun k_ e_ => HO_203000.out.1 k_ e_)); have n4_ := Aside0.mk (blk_kept (kb_ BK175.out) hkp (fun hs_ => (fun e_ => (Kd.R_ne HO_203000.out BK175.out (by decide)) e_) hs_)); have n5_ := Aside0.mk (blk_kept (kb_ BK176.out) hkp (fun hs_ => (fun e_ => (Kd.R_ne HO_203000.out BK176.out (by decide)) e_) hs_)); have n6_ := Aside0.mk (blk_kept (kb_ BK189.out) hkp (fun hs_ => (fun e_ => (Kd.R_ne HO_203000.out BK189.out (by decide)) e_) hs_)); have n7_ := Aside0.mk (blk_kept (kb_ BK193.out) hkp (fun hs_ => (fun e_ => (Kd.R_ne HO_203000.out BK193.out (by decide)) e_) hs_)); have n8_ := Aside0.mk (blk_kept (kb_ BK197.out) hkp (fun hs_ => (fun e_ => (Kd.R_ne HO_203000.out BK197.out (by decide)) e_) hs_)); have n9_ := Aside0.mk (blk_kept (kb_ BK202.out) hkp (fun hs_ => (fun e_ => (Kd.R_ne HO_203000.out BK202.out (by decide)) e_) hs_)); have n10_ := Aside0.mk (hb); clear HO_190000; clear HO_194000; clear HO_198000; clear HO_203000; clear BK175; clear BK176; clear BK189; clear BK193; clear BK197; clear BK202; clear HB; have HO_190000 := n0_; have HO_194000 := n1_; have HO_198000 := n2_; have HO_203000 := n3_; have BK175 := n4_; have BK176 := n5_; have BK189 := n6_; have BK193 := n7_; have BK197 := n8_; have BK202 := n9_; have HB := n10_; clear n0_ n1_ n2_ n3_ n4_ n5_ n6_ n7_ n8_ n9_ n10_; (try clear hb); (try clear hkp); (try clear hy0); have hcz149_0 : w148.cell? ⟨gb202, 0, none⟩ = some (.slice Ao66 t198.length co66) := (blk_cell BK202.out 0).trans rfl; have hfz149_0 := blk_frozen BK202.out 0) | ((with_reducible refine gate_callee (f := 33) rfl ?_); refine goesL_ (some 92) rfl rfl Try.func33 (by kernel_rfl) rfl #[.agg #[.slice Ao66 t218.length co66], .int .i64 1] rfl (by (try simp only [List.map_toArray, List.map_cons, List.map_nil]); first | done | (rw [show t218.length = t198.length from (Kd.R_reads' HO_203000.out).1.symm] <;> rfl) | rfl | (simp only [List.length_drop, List.length_take]; rfl)) ?_; (with_reducible refine (laws_heldGroup.calls kj95 _ _ t218 1 t219 _ ?side1 ?side2 A135.out).mono ?_); (case side1 => repeat (first | exact (Kd.R_reads' HO_203000.out).2.2 | (with_reducible refine Kd.C_alloc ?_ _) | (with_reducible refine Kd.C_drewN ?_ _) | (with_reducible refine Kd.C_drew ?_))); (case side2 => rw [show t218.length = t198.length from (Kd.R_reads' HO_203000.out).1.symm]; exact (Kd.R_reads' HO_203000.out).2.1); rintro e w150 ⟨rfl, hb⟩; refine ⟨_, rfl, ?_⟩; have n0_ := Aside0.mk (Kd.R_below (kr_ HO_190000.out) hb); have n1_ := Aside0.mk (Kd.R_below (kr_ HO_194000.out) hb); have n2_ := Aside0.mk (Kd.R_below (kr_ HO_198000.out) hb); have n3_ := Aside0.mk (Kd.R_below (kr_ HO_203000.out) hb); have n4_ := Aside0.mk (blk_below (g := gb175) (o := .cells #[.slice A0_0 l0_0.length c0_0] 24 (0, 0)) (kb_ BK175.out) hb); have n5_ := Aside0.mk (blk_below (g := gb176) (o := .cells #[.slice A1_0 l1_0.length c1_0] 24 (0, 0)) (kb_ BK176.out) hb); have n6_ := Aside0.mk (blk_below (g := gb189) (o := .cells #[.slice Ao42 t185.length co42] 28 (0, 0)) (kb_ BK189.out) hb); have n7_ := Aside0.mk (blk_below (g := gb193) (o := .cells #[.slice Ao48 t213.length co48] 28 (0, 0)) (kb_ BK193.out) hb); have n8_ := Aside0.mk (blk_below (g := gb197) (o := .cells #[.slice Ao57 t215.length co57] 28 (0, 0)) (kb_ BK197.out) hb); have n9_ := Aside0.mk (blk_below (g := gb202) (o := .cells #[.slice Ao66 t198.length co66] 28 (0, 0)) (kb_ BK202.out) hb); have n10_ := Aside0.mk (below_step (by repeat (first | (with_reducible first | exact HB.out | apply below_alloc | apply pw_below_drewN | apply below_drew1 | refine below_set ?_ GE175.out | refine below_set ?_ GE176.out | refine below_set ?_ GE189.out | refine below_set ?_ GE193.out | refine below_set ?_ GE197.out | refine below_set ?_ GE202.out) | exact HB.out)) hb); clear HO_190000; clear HO_194000; clear HO_198000; clear HO_203000; clear BK175; clear BK176; clear BK189; clear BK193; clear BK197; clear BK202; clear HB; have HO_190000 := n0_; have HO_194000 := n1_; have HO_198000 := n2_; have HO_203000 := n3_; have BK175 := n4_; have BK176 := n5_; have BK189 := n6_; have BK193 := n7_; have BK197 := n8_; have BK202 := n9_; have HB := n10_; clear n0_ n1_ n2_ n3_ n4_ n5_ n6_ n7_ n8_ n9_ n10_; (try clear hb); (try clear hb2); (try clear hk); (try clear hi)))
 have n0_ := Aside0.mk (Kd.R_drew HO_190000.out)
 have n1_ := Aside0.mk (Kd.R_drew HO_194000.out)
 have n2_ := Aside0.mk (Kd.R_drew HO_198000.out)
 have n3_ := Aside0.mk (Kd.R_drew HO_203000.out)
 have n4_ := Aside0.mk (blk_drew BK175.out)
 have n5_ := Aside0.mk (blk_drew BK176.out)
 have n6_ := Aside0.mk (blk_drew BK189.out)
 have n7_ := Aside0.mk (blk_drew BK193.out)
 have n8_ := Aside0.mk (blk_drew BK197.out)
 have n9_ := Aside0.mk (blk_drew BK202.out)
 have n10_ := Aside0.mk (below_drew1 HB.out)
 clear HO_190000
 clear HO_194000
 clear HO_198000
 clear HO_203000
 clear BK175
 clear BK176
 clear BK189
 clear BK193
 clear BK197
 clear BK202
 clear HB
 have HO_190000 := n0_
 have HO_194000 := n1_
 have HO_198000 := n2_
 have HO_203000 := n3_
 have BK175 := n4_
 have BK176 := n5_
 have BK189 := n6_
 have BK193 := n7_
 have BK197 := n8_
 have BK202 := n9_
 have HB := n10_
 clear n0_ n1_ n2_ n3_ n4_ n5_ n6_ n7_ n8_ n9_ n10_
 refine start_ (n := 12) (S := fun w' => w'.cell? ⟨gb175, 0, none⟩ = some (.slice A0_0 l0_0.length c0_0) ∧ w'.cell? ⟨gb176, 0, none⟩ = some (.slice A1_0 l1_0.length c1_0)) (ds := []) #[false, false, false, false, false, false, false, false, false, false, false, false] (by kernel_rfl) rfl rfl ⟨(blk_cell BK175.out 0).trans rfl, (blk_cell BK176.out 0).trans rfl⟩ (fun hHeld => ?_); refine with_tabW laws_FnExactMeetOf.tab31 laws_FnExactMeetOf.bits31 (fun HT_ HW_ => ?_)
 generalize w150.drew = w151 at HO_190000 HO_194000 HO_198000 HO_203000 BK175 BK176 BK189 BK193 BK197 BK202 HB hHeld ⊢
 refine pure_ (i := 4) (N := some 103) (v := ?_) (a' := ?_) #[false, false, false, false, true, false, false, false, false, false, false, false] rfl rfl (any_of HT_.out (by kernel_rfl)) (fun _ _ _ h => h) (Or.inl ⟨by rfl, ?_⟩) ?_ ?_
 rotate_left
 ·intro w'
  go_simp
  with_reducible rfl
 rotate_left
 ·simp only [Act.put, List.setIfInBounds_toArray, List.set_cons_zero, List.set_cons_succ, i64_w, i32_w]
  rfl
 refine take_ (i := 0) (N := some 99) (v := ?_) (a' := ?_) #[true, false, false, false, true, false, false, false, false, false, false, false] rfl rfl (take_ofW HT_.out HW_.out (by kernel_rfl)) (fun _ _ _ h => h) (Or.inl ⟨by rfl, ?_⟩) hHeld ?_ ?_
 rotate_left
 ·rintro w' ⟨s0, s1⟩
  go_simp
  with_reducible rfl
 rotate_left
 ·simp only [Act.put, List.setIfInBounds_toArray, List.set_cons_zero, List.set_cons_succ, i64_w, i32_w]
  rfl
 refine take_ (i := 2) (N := some 101) (v := ?_) (a' := ?_) #[true, false, true, false, true, false, false, false, false, false, false, false] rfl rfl (take_ofW HT_.out HW_.out (by kernel_rfl)) (fun _ _ _ h => h) (Or.inl ⟨by rfl, ?_⟩) hHeld ?_ ?_
 rotate_left
 ·rintro w' ⟨s0, s1⟩
  go_simp
  with_reducible rfl
 rotate_left
 ·simp only [Act.put, List.setIfInBounds_toArray, List.set_cons_zero, List.set_cons_succ, i64_w, i32_w]
  rfl
 refine join_ (σ := Value × Value × Value × Nat) 2 #[true, true, true, true, true, true, true, true, true, true, false, false] (fun s_ => [(100, .agg #[s_.1]), (102, .agg #[s_.2.1]), (104, .tuple #[.agg #[s_.2.2.1], .bool t229]), (17, .pointer (some ⟨s_.2.2.2, 0, none⟩)), (98, .tuple #[.agg #[s_.2.2.1], .bool t229]), (105, .agg #[s_.2.2.1]), (106, .bool t229)]) (fun s_ w' => (w'.cell? ⟨gb175, 0, none⟩ = some (.slice A0_0 l0_0.length c0_0) ∧ w'.cell? ⟨gb176, 0, none⟩ = some (.slice A1_0 l1_0.length c1_0)) ∧ (Kd.R (Kd.int .i64) 3 w' w.heap.size (fun k_ => some k_ ≠ (s_.2.1 : Value).ownBlock ∧ some k_ ≠ (s_.2.2.1 : Value).ownBlock ∧ some k_ ≠ (.slice Ao42 t185.length co42 : Value).ownBlock ∧ some k_ ≠ (.slice Ao48 t213.length co48 : Value).ownBlock ∧ some k_ ≠ (.slice Ao57 t215.length co57 : Value).ownBlock ∧ some k_ ≠ (.slice Ao66 t198.length co66 : Value).ownBlock) s_.1 t220) ∧ (Kd.R (Kd.int .i64) 3 w' w.heap.size (fun k_ => some k_ ≠ (s_.1 : Value).ownBlock ∧ some k_ ≠ (s_.2.2.1 : Value).ownBlock ∧ some k_ ≠ (.slice Ao42 t185.length co42 : Value).ownBlock ∧ some k_ ≠ (.slice Ao48 t213.length co48 : Value).ownBlock ∧ some k_ ≠ (.slice Ao57 t215.length co57 : Value).ownBlock ∧ some k_ ≠ (.slice Ao66 t198.length co66 : Value).ownBlock) s_.2.1 t223) ∧ (Kd.R (Kd.int .i64) 3 w' w.heap.size (fun k_ => some k_ ≠ (s_.1 : Value).ownBlock ∧ some k_ ≠ (s_.2.1 : Value).ownBlock ∧ some k_ ≠ (.slice Ao42 t185.length co42 : Value).ownBlock ∧ some k_ ≠ (.slice Ao48 t213.length co48 : Value).ownBlock ∧ some k_ ≠ (.slice Ao57 t215.length co57 : Value).ownBlock ∧ some k_ ≠ (.slice Ao66 t198.length co66 : Value).ownBlock) s_.2.2.1 t226) ∧ (Kd.R (Kd.int .i64) 3 w' w.heap.size (fun k_ => some k_ ≠ (s_.1 : Value).ownBlock ∧ some k_ ≠ (s_.2.1 : Value).ownBlock ∧ some k_ ≠ (s_.2.2.1 : Value).ownBlock ∧ some k_ ≠ (.slice Ao48 t213.length co48 : Value).ownBlock ∧ some k_ ≠ (.slice Ao57 t215.length co57 : Value).ownBlock ∧ some k_ ≠ (.slice Ao66 t198.length co66 : Value).ownBlock) (.slice Ao42 t185.length co42) t185) ∧ (Kd.R (Kd.int .i64) 3 w' w.heap.size (fun k_ => some k_ ≠ (s_.1 : Value).ownBlock ∧ some k_ ≠ (s_.2.1 : Value).ownBlock ∧ some k_ ≠ (s_.2.2.1 : Value).ownBlock ∧ some k_ ≠ (.slice Ao42 t185.length co42 : Value).ownBlock ∧ some k_ ≠ (.slice Ao57 t215.length co57 : Value).ownBlock ∧ some k_ ≠ (.slice Ao66 t198.length co66 : Value).ownBlock) (.slice Ao48 t213.length co48) t213) ∧ (Kd.R (Kd.int .i64) 3 w' w.heap.size (fun k_ => some k_ ≠ (s_.1 : Value).ownBlock ∧ some k_ ≠ (s_.2.1 : Value).ownBlock ∧ some k_ ≠ (s_.2.2.1 : Value).ownBlock ∧ some k_ ≠ (.slice Ao42 t185.length co42 : Value).ownBlock ∧ some k_ ≠ (.slice Ao48 t213.length co48 : Value).ownBlock ∧ some k_ ≠ (.slice Ao66 t198.length co66 : Value).ownBlock) (.slice Ao57 t215.length co57) t215) ∧ (Kd.R (Kd.int .i64) 3 w' w.heap.size (fun k_ => some k_ ≠ (s_.1 : Value).ownBlock ∧ some k_ ≠ (s_.2.1 : Value).ownBlock ∧ some k_ ≠ (s_.2.2.1 : Value).ownBlock ∧ some k_ ≠ (.slice Ao42 t185.length co42 : Value).ownBlock ∧ some k_ ≠ (.slice Ao48 t213.length co48 : Value).ownBlock ∧ some k_ ≠ (.slice Ao57 t215.length co57 : Value).ownBlock) (.slice Ao66 t198.length co66) t218) ∧ (w'.heap[gb175]? = some (.cells #[.slice A0_0 l0_0.length c0_0] 24 (0, 0))) ∧ (w'.heap[gb176]? = some (.cells #[.slice A1_0 l1_0.length c1_0] 24 (0, 0))) ∧ (w'.heap[gb189]? = some (.cells #[.slice Ao42 t185.length co42] 28 (0, 0))) ∧ (w'.heap[gb193]? = some (.cells #[.slice Ao48 t213.length co48] 28 (0, 0))) ∧ (w'.heap[gb197]? = some (.cells #[.slice Ao57 t215.length co57] 28 (0, 0))) ∧ (w'.heap[gb202]? = some (.cells #[.slice Ao66 t198.length co66] 28 (0, 0))) ∧ (w'.heap[s_.2.2.2]? = some (.cells #[.slice none 0 0] 28 (0, 0))) ∧ (w.heap.size ≤ s_.2.2.2) ∧ (w.heap.size ≤ s_.2.2.2) ∧ (gb175 ≠ s_.2.2.2) ∧ (s_.2.2.2 ≠ gb175) ∧ (gb176 ≠ s_.2.2.2) ∧ (s_.2.2.2 ≠ gb176) ∧ (gb189 ≠ s_.2.2.2) ∧ (s_.2.2.2 ≠ gb189) ∧ (gb193 ≠ s_.2.2.2) ∧ (s_.2.2.2 ≠ gb193) ∧ (gb197 ≠ s_.2.2.2) ∧ (s_.2.2.2 ≠ gb197) ∧ (gb202 ≠ s_.2.2.2) ∧ (s_.2.2.2 ≠ gb202) ∧ (Below w.heap.size w w')) ?_ ?_
 rotate_left
 ·intro hCont
  refine two_ (i := 1) (j := 9) (Ni := some 100) (Nj := some 17) #[true, true, true, false, true, false, false, false, false, false, false, false] #[true, false, true, false, true, false, false, false, false, true, false, false] rfl rfl rfl rfl (two_of HT_.out (by kernel_rfl)) (by decide) (by decide) (fun K hK => ?_) (fun K hK => ?_)
  ·skip
   refine goes_ Try.func14 (by kernel_rfl) rfl #[.agg #[.slice A0_0 l0_0.length c0_0]] (by rfl) rfl rfl (by (try simp only [List.map_toArray, List.map_cons, List.map_nil]); first | done | rfl | (simp only [List.length_drop, List.length_take]; rfl)) ?_
   with_reducible refine (laws_toGroup.calls kj95 _ _ l0_0 t220 _ ?side1 ?side2 A138.out).mono ?_
   (case side1 => repeat (first | exact (Kd.C_below HR0_0.out HB.out) | (with_reducible refine Kd.C_alloc ?_ _) | (with_reducible refine Kd.C_drewN ?_ _) | (with_reducible refine Kd.C_drew ?_)))
   (case side2 => exact HC0_0.out)
   rintro e w152 ⟨v221, rfl, ho0, hb⟩
   refine ⟨_, rfl, ?_⟩
   have n0_ := Aside0.mk (Kd.R_elder' (kr_ HO_190000.out) (Kd.R_base ho0) hb)
   have n1_ := Aside0.mk (Kd.R_elder' (kr_ HO_194000.out) (Kd.R_base ho0) hb)
   have n2_ := Aside0.mk (Kd.R_elder' (kr_ HO_198000.out) (Kd.R_base ho0) hb)
   have n3_ := Aside0.mk (Kd.R_elder' (kr_ HO_203000.out) (Kd.R_base ho0) hb)
   have n4_ := Aside0.mk (Kd.R_lower (Kd.R_new' (Kd.R_new' (Kd.R_new' (Kd.R_new' ho0 (Kd.R_lt (kr_ HO_190000.out))) (Kd.R_lt (kr_ HO_194000.out))) (Kd.R_lt (kr_ HO_198000.out))) (Kd.R_lt (kr_ HO_203000.out))) (below_size (by repeat (first | (with_reducible first | exact HB.out | apply below_alloc | apply pw_below_drewN | apply below_drew1 | refine below_set ?_ GE175.out | refine below_set ?_ GE176.out | refine below_set ?_ GE189.out | refine below_set ?_ GE193.out | refine below_set ?_ GE197.out | refine below_set ?_ GE202.out) | exact HB.out))))
   have n5_ := Aside0.mk (blk_below (g := gb175) (o := .cells #[.slice A0_0 l0_0.length c0_0] 24 (0, 0)) (kb_ BK175.out) hb)
   have n6_ := Aside0.mk (blk_below (g := gb176) (o := .cells #[.slice A1_0 l1_0.length c1_0] 24 (0, 0)) (kb_ BK176.out) hb)
   have n7_ := Aside0.mk (blk_below (g := gb189) (o := .cells #[.slice Ao42 t185.length co42] 28 (0, 0)) (kb_ BK189.out) hb)
   have n8_ := Aside0.mk (blk_below (g := gb193) (o := .cells #[.slice Ao48 t213.length co48] 28 (0, 0)) (kb_ BK193.out) hb)
   have n9_ := Aside0.mk (blk_below (g := gb197) (o := .cells #[.slice Ao57 t215.length co57] 28 (0, 0)) (kb_ BK197.out) hb)
   have n10_ := Aside0.mk (blk_below (g := gb202) (o := .cells #[.slice Ao66 t198.length co66] 28 (0, 0)) (kb_ BK202.out) hb)
   have n11_ := Aside0.mk (below_step (by repeat (first | (with_reducible first | exact HB.out | apply below_alloc | apply pw_below_drewN | apply below_drew1 | refine below_set ?_ GE175.out | refine below_set ?_ GE176.out | refine below_set ?_ GE189.out | refine below_set ?_ GE193.out | refine below_set ?_ GE197.out | refine below_set ?_ GE202.out) | exact HB.out)) hb)
   clear HO_190000
   clear HO_194000
   clear HO_198000
   clear HO_203000
   clear BK175
   clear BK176
   clear BK189
   clear BK193
   clear BK197
   clear BK202
   clear HB
   have HO_190000 := n0_
   have HO_194000 := n1_
   have HO_198000 := n2_
   have HO_203000 := n3_
   have HO222 := n4_
   have BK175 := n5_
   have BK176 := n6_
   have BK189 := n7_
   have BK193 := n8_
   have BK197 := n9_
   have BK202 := n10_
   have HB := n11_
   clear n0_ n1_ n2_ n3_ n4_ n5_ n6_ n7_ n8_ n9_ n10_ n11_
   (try clear hb)
   (try clear hb2)
   (try clear hk)
   (try clear hi)
   (try clear ho0)
   refine hK.out _ _ ⟨(blk_cell BK175.out 0).trans rfl, (blk_cell BK176.out 0).trans rfl⟩ (fun hHeld => ?_)
   clear hK K
   refine norm_ (a' := ?_) ?_ ?_
   rotate_left
   ·show Act.put _ (some 100) _ = _
    simp only [Act.put, List.setIfInBounds_toArray, List.set_cons_zero, List.set_cons_succ, i64_w, i32_w]
    rfl
   refine two_ (i := 3) (j := 9) (Ni := some 102) (Nj := some 17) #[true, true, true, true, true, false, false, false, false, false, false, false] #[true, true, true, false, true, false, false, false, false, true, false, false] rfl rfl rfl rfl (two_of HT_.out (by kernel_rfl)) (by decide) (by decide) (fun K hK => ?_) (fun K hK => ?_)
   ·skip
    refine goes_ Try.func14 (by kernel_rfl) rfl #[.agg #[.slice A1_0 l1_0.length c1_0]] (by rfl) rfl rfl (by (try simp only [List.map_toArray, List.map_cons, List.map_nil]); first | done | rfl | (simp only [List.length_drop, List.length_take]; rfl)) ?_
    with_reducible refine (laws_toGroup.calls kj95 _ _ l1_0 t223 _ ?side1 ?side2 A139.out).mono ?_
    (case side1 => repeat (first | exact (Kd.C_below HR1_0.out HB.out) | (with_reducible refine Kd.C_alloc ?_ _) | (with_reducible refine Kd.C_drewN ?_ _) | (with_reducible refine Kd.C_drew ?_)))
    (case side2 => exact HC1_0.out)
    rintro e w153 ⟨v224, rfl, ho0, hb⟩
    refine ⟨_, rfl, ?_⟩
    have n0_ := Aside0.mk (Kd.R_elder' (kr_ HO_190000.out) (Kd.R_base ho0) hb)
    have n1_ := Aside0.mk (Kd.R_elder' (kr_ HO_194000.out) (Kd.R_base ho0) hb)
    have n2_ := Aside0.mk (Kd.R_elder' (kr_ HO_198000.out) (Kd.R_base ho0) hb)
    have n3_ := Aside0.mk (Kd.R_elder' (kr_ HO_203000.out) (Kd.R_base ho0) hb)
    have n4_ := Aside0.mk (Kd.R_elder' (kr_ HO222.out) (Kd.R_base ho0) hb)
    have n5_ := Aside0.mk (Kd.R_lower (Kd.R_new' (Kd.R_new' (Kd.R_new' (Kd.R_new' (Kd.R_new' ho0 (Kd.R_lt (kr_ HO_190000.out))) (Kd.R_lt (kr_ HO_194000.out))) (Kd.R_lt (kr_ HO_198000.out))) (Kd.R_lt (kr_ HO_203000.out))) (Kd.R_lt (kr_ HO222.out))) (below_size (by repeat (first | (with_reducible first | exact HB.out | apply below_alloc | apply pw_below_drewN | apply below_drew1 | refine below_set ?_ GE175.out | refine below_set ?_ GE176.out | refine below_set ?_ GE189.out | refine below_set ?_ GE193.out | refine below_set ?_ GE197.out | refine below_set ?_ GE202.out) | exact HB.out))))
    have n6_ := Aside0.mk (blk_below (g := gb175) (o := .cells #[.slice A0_0 l0_0.length c0_0] 24 (0, 0)) (kb_ BK175.out) hb)
    have n7_ := Aside0.mk (blk_below (g := gb176) (o := .cells #[.slice A1_0 l1_0.length c1_0] 24 (0, 0)) (kb_ BK176.out) hb)
    have n8_ := Aside0.mk (blk_below (g := gb189) (o := .cells #[.slice Ao42 t185.length co42] 28 (0, 0)) (kb_ BK189.out) hb)
    have n9_ := Aside0.mk (blk_below (g := gb193) (o := .cells #[.slice Ao48 t213.length co48] 28 (0, 0)) (kb_ BK193.out) hb)
    have n10_ := Aside0.mk (blk_below (g := gb197) (o := .cells #[.slice Ao57 t215.length co57] 28 (0, 0)) (kb_ BK197.out) hb)
    have n11_ := Aside0.mk (blk_below (g := gb202) (o := .cells #[.slice Ao66 t198.length co66] 28 (0, 0)) (kb_ BK202.out) hb)
    have n12_ := Aside0.mk (below_step (by repeat (first | (with_reducible first | exact HB.out | apply below_alloc | apply pw_below_drewN | apply below_drew1 | refine below_set ?_ GE175.out | refine below_set ?_ GE176.out | refine below_set ?_ GE189.out | refine below_set ?_ GE193.out | refine below_set ?_ GE197.out | refine below_set ?_ GE202.out) | exact HB.out)) hb)
    clear HO_190000
    clear HO_194000
    clear HO_198000
    clear HO_203000
    clear HO222
    clear BK175
    clear BK176
    clear BK189
    clear BK193
    clear BK197
    clear BK202
    clear HB
    have HO_190000 := n0_
    have HO_194000 := n1_
    have HO_198000 := n2_
    have HO_203000 := n3_
    have HO222 := n4_
    have HO225 := n5_
    have BK175 := n6_
    have BK176 := n7_
    have BK189 := n8_
    have BK193 := n9_
    have BK197 := n10_
    have BK202 := n11_
    have HB := n12_
    clear n0_ n1_ n2_ n3_ n4_ n5_ n6_ n7_ n8_ n9_ n10_ n11_ n12_
    (try clear hb)
    (try clear hb2)
    (try clear hk)
    (try clear hi)
    (try clear ho0)
    obtain ⟨Ao154, co154, eo154⟩ := Kd.R_slice HO222.out
    (first | subst eo154 | (injection eo154 with f1_ f2_ f3_; have f4_ := f1_.symm; have f5_ := f3_.symm; clear f1_ f2_ f3_; subst f4_; subst f5_))
    obtain ⟨Ao155, co155, eo155⟩ := Kd.R_slice HO225.out
    (first | subst eo155 | (injection eo155 with f1_ f2_ f3_; have f4_ := f1_.symm; have f5_ := f3_.symm; clear f1_ f2_ f3_; subst f4_; subst f5_))
    refine hK.out _ _ ⟨(blk_cell BK175.out 0).trans rfl, (blk_cell BK176.out 0).trans rfl⟩ (fun hHeld => ?_)
    clear hK K
    refine norm_ (a' := ?_) ?_ ?_
    rotate_left
    ·show Act.put _ (some 102) _ = _
     simp only [Act.put, List.setIfInBounds_toArray, List.set_cons_zero, List.set_cons_succ, i64_w, i32_w]
     rfl
    refine two_ (i := 5) (j := 9) (Ni := some 104) (Nj := some 17) #[true, true, true, true, true, true, false, false, false, false, false, false] #[true, true, true, true, true, false, false, false, false, true, false, false] rfl rfl rfl rfl (two_of HT_.out (by kernel_rfl)) (by decide) (by decide) (fun K hK => ?_) (fun K hK => ?_)
    ·skip
     refine goes_ Try.func30 (by kernel_rfl) rfl #[.agg #[.slice Ao154 t220.length co154], .agg #[.slice Ao155 t223.length co155], .int .i64 a2] (by rfl) rfl rfl (by (try simp only [List.map_toArray, List.map_cons, List.map_nil]); first | done | rfl | (simp only [List.length_drop, List.length_take]; rfl)) ?_
     with_reducible refine (impl_MeetOf.calls kj95 _ _ t220 _ _ t223 a2 t226 t229 _ ?side1 ?side2 ?side3 ?side4 A140.out).mono ?_
     (case side1 => repeat (first | exact (Kd.R_reads' HO222.out).2.2 | (with_reducible refine Kd.C_alloc ?_ _) | (with_reducible refine Kd.C_drewN ?_ _) | (with_reducible refine Kd.C_drew ?_)))
     (case side2 => exact (Kd.R_reads' HO222.out).2.1)
     (case side3 => repeat (first | exact (Kd.R_reads' HO225.out).2.2 | (with_reducible refine Kd.C_alloc ?_ _) | (with_reducible refine Kd.C_drewN ?_ _) | (with_reducible refine Kd.C_drew ?_)))
     (case side4 => exact (Kd.R_reads' HO225.out).2.1)
     rintro e w156 ⟨v227, rfl, ho0, hb⟩
     refine ⟨_, rfl, ?_⟩
     have n0_ := Aside0.mk (Kd.R_elder' (kr_ HO_190000.out) (Kd.R_base ho0) hb)
     have n1_ := Aside0.mk (Kd.R_elder' (kr_ HO_194000.out) (Kd.R_base ho0) hb)
     have n2_ := Aside0.mk (Kd.R_elder' (kr_ HO_198000.out) (Kd.R_base ho0) hb)
     have n3_ := Aside0.mk (Kd.R_elder' (kr_ HO_203000.out) (Kd.R_base ho0) hb)
     have n4_ := Aside0.mk (Kd.R_elder' (kr_ HO222.out) (Kd.R_base ho0) hb)
     have n5_ := Aside0.mk (Kd.R_elder' (kr_ HO225.out) (Kd.R_base ho0) hb)
     have n6_ := Aside0.mk (Kd.R_lower (Kd.R_new' (Kd.R_new' (Kd.R_new' (Kd.R_new' (Kd.R_new' (Kd.R_new' ho0 (Kd.R_lt (kr_ HO_190000.out))) (Kd.R_lt (kr_ HO_194000.out))) (Kd.R_lt (kr_ HO_198000.out))) (Kd.R_lt (kr_ HO_203000.out))) (Kd.R_lt (kr_ HO222.out))) (Kd.R_lt (kr_ HO225.out))) (below_size (by repeat (first | (with_reducible first | exact HB.out | apply below_alloc | apply pw_below_drewN | apply below_drew1 | refine below_set ?_ GE175.out | refine below_set ?_ GE176.out | refine below_set ?_ GE189.out | refine below_set ?_ GE193.out | refine below_set ?_ GE197.out | refine below_set ?_ GE202.out) | exact HB.out))))
     have n7_ := Aside0.mk (blk_below (g := gb175) (o := .cells #[.slice A0_0 l0_0.length c0_0] 24 (0, 0)) (kb_ BK175.out) hb)
     have n8_ := Aside0.mk (blk_below (g := gb176) (o := .cells #[.slice A1_0 l1_0.length c1_0] 24 (0, 0)) (kb_ BK176.out) hb)
     have n9_ := Aside0.mk (blk_below (g := gb189) (o := .cells #[.slice Ao42 t185.length co42] 28 (0, 0)) (kb_ BK189.out) hb)
     have n10_ := Aside0.mk (blk_below (g := gb193) (o := .cells #[.slice Ao48 t213.length co48] 28 (0, 0)) (kb_ BK193.out) hb)
     have n11_ := Aside0.mk (blk_below (g := gb197) (o := .cells #[.slice Ao57 t215.length co57] 28 (0, 0)) (kb_ BK197.out) hb)
     have n12_ := Aside0.mk (blk_below (g := gb202) (o := .cells #[.slice Ao66 t198.length co66] 28 (0, 0)) (kb_ BK202.out) hb)
     have n13_ := Aside0.mk (below_step (by repeat (first | (with_reducible first | exact HB.out | apply below_alloc | apply pw_below_drewN | apply below_drew1 | refine below_set ?_ GE175.out | refine below_set ?_ GE176.out | refine below_set ?_ GE189.out | refine below_set ?_ GE193.out | refine below_set ?_ GE197.out | refine below_set ?_ GE202.out) | exact HB.out)) hb)
     clear HO_190000
     clear HO_194000
     clear HO_198000
     clear HO_203000
     clear HO222
     clear HO225
     clear BK175
     clear BK176
     clear BK189
     clear BK193
     clear BK197
     clear BK202
     clear HB
     have HO_190000 := n0_
     have HO_194000 := n1_
     have HO_198000 := n2_
     have HO_203000 := n3_
     have HO222 := n4_
     have HO225 := n5_
     have HO228 := n6_
     have BK175 := n7_
     have BK176 := n8_
     have BK189 := n9_
     have BK193 := n10_
     have BK197 := n11_
     have BK202 := n12_
     have HB := n13_
     clear n0_ n1_ n2_ n3_ n4_ n5_ n6_ n7_ n8_ n9_ n10_ n11_ n12_ n13_
     (try clear hb)
     (try clear hb2)
     (try clear hk)
     (try clear hi)
     (try clear ho0)
     refine hK.out _ _ ⟨(blk_cell BK175.out 0).trans rfl, (blk_cell BK176.out 0).trans rfl⟩ (fun hHeld => ?_)
     clear hK K
     refine norm_ (a' := ?_) ?_ ?_
     rotate_left
     ·show Act.put _ (some 104) _ = _
      simp only [Act.put, List.setIfInBounds_toArray, List.set_cons_zero, List.set_cons_succ, i64_w, i32_w]
      rfl
     refine pure_ (i := 6) (N := some 98) (v := ?_) (a' := ?_) #[true, true, true, true, true, true, true, false, false, false, false, false] rfl rfl (any_of HT_.out (by kernel_rfl)) (fun _ _ _ h => h) (Or.inl ⟨by rfl, ?_⟩) ?_ ?_
     rotate_left
     ·intro w'
      go_simp
      with_reducible rfl
     rotate_left
     ·simp only [Act.put, List.setIfInBounds_toArray, List.set_cons_zero, List.set_cons_succ, i64_w, i32_w]
      rfl
     refine pure_ (i := 7) (N := some 105) (v := ?_) (a' := ?_) #[true, true, true, true, true, true, true, true, false, false, false, false] rfl rfl (any_of HT_.out (by kernel_rfl)) (fun _ _ _ h => h) (Or.inl ⟨by rfl, ?_⟩) ?_ ?_
     rotate_left
     ·intro w'
      go_simp
      with_reducible rfl
     rotate_left
     ·simp only [Act.put, List.setIfInBounds_toArray, List.set_cons_zero, List.set_cons_succ, i64_w, i32_w]
      rfl
     refine pure_ (i := 8) (N := some 106) (v := ?_) (a' := ?_) #[true, true, true, true, true, true, true, true, true, false, false, false] rfl rfl (any_of HT_.out (by kernel_rfl)) (fun _ _ _ h => h) (Or.inl ⟨by rfl, ?_⟩) ?_ ?_
     rotate_left
     ·intro w'
      go_simp
      with_reducible rfl
     rotate_left
     ·simp only [Act.put, List.setIfInBounds_toArray, List.set_cons_zero, List.set_cons_succ, i64_w, i32_w]
      rfl
     refine one_ (i := 9) (N := some 17) #[true, true, true, true, true, true, true, true, true, true, false, false] rfl rfl (one_of HT_.out (by kernel_rfl)) (by decide) (fun K hK => ?_)
     refine box_step ?hg (N := 17) ?hd (cs := #[.slice none 0 0]) (t := 28) ?hr ?_; (case hd => rfl); (case hg => rfl); (case hr => first | (go_simp; done) | (go_simp; rfl))
     intro gb230 hg w157 hbox hb
     have n0_ := Aside0.mk (Kd.R_below (kr_ HO_190000.out) hb)
     have n1_ := Aside0.mk (Kd.R_below (kr_ HO_194000.out) hb)
     have n2_ := Aside0.mk (Kd.R_below (kr_ HO_198000.out) hb)
     have n3_ := Aside0.mk (Kd.R_below (kr_ HO_203000.out) hb)
     have n4_ := Aside0.mk (Kd.R_below (kr_ HO222.out) hb)
     have n5_ := Aside0.mk (Kd.R_below (kr_ HO225.out) hb)
     have n6_ := Aside0.mk (Kd.R_below (kr_ HO228.out) hb)
     have n7_ := Aside0.mk (blk_below (g := gb175) (o := .cells #[.slice A0_0 l0_0.length c0_0] 24 (0, 0)) (kb_ BK175.out) hb)
     have n8_ := Aside0.mk (blk_below (g := gb176) (o := .cells #[.slice A1_0 l1_0.length c1_0] 24 (0, 0)) (kb_ BK176.out) hb)
     have n9_ := Aside0.mk (blk_below (g := gb189) (o := .cells #[.slice Ao42 t185.length co42] 28 (0, 0)) (kb_ BK189.out) hb)
     have n10_ := Aside0.mk (blk_below (g := gb193) (o := .cells #[.slice Ao48 t213.length co48] 28 (0, 0)) (kb_ BK193.out) hb)
     have n11_ := Aside0.mk (blk_below (g := gb197) (o := .cells #[.slice Ao57 t215.length co57] 28 (0, 0)) (kb_ BK197.out) hb)
     have n12_ := Aside0.mk (blk_below (g := gb202) (o := .cells #[.slice Ao66 t198.length co66] 28 (0, 0)) (kb_ BK202.out) hb)
     have n13_ := Aside0.mk (below_step (by repeat (first | (with_reducible first | exact HB.out | apply below_alloc | apply pw_below_drewN | apply below_drew1 | refine below_set ?_ GE175.out | refine below_set ?_ GE176.out | refine below_set ?_ GE189.out | refine below_set ?_ GE193.out | refine below_set ?_ GE197.out | refine below_set ?_ GE202.out) | exact HB.out)) hb)
     have n14_ := Aside0.mk (hbox)
     have n15_ := Aside0.mk ((by rw [hg]; exact (below_size (by repeat (first | (with_reducible first | exact HB.out | apply below_alloc | apply pw_below_drewN | apply below_drew1 | refine below_set ?_ GE175.out | refine below_set ?_ GE176.out | refine below_set ?_ GE189.out | refine below_set ?_ GE193.out | refine below_set ?_ GE197.out | refine below_set ?_ GE202.out) | exact HB.out))) : w.heap.size ≤ gb230))
     have n16_ := Aside0.mk ((by rw [hg]; exact (below_size (by repeat (first | (with_reducible first | exact HB.out | apply below_alloc | apply pw_below_drewN | apply below_drew1 | refine below_set ?_ GE175.out | refine below_set ?_ GE176.out | refine below_set ?_ GE189.out | refine below_set ?_ GE193.out | refine below_set ?_ GE197.out | refine below_set ?_ GE202.out) | exact HB.out))) : w.heap.size ≤ gb230))
     have n17_ := Aside0.mk ((by rw [hg]; exact Nat.ne_of_lt (blk_lt (g := gb175) (o := .cells #[.slice A0_0 l0_0.length c0_0] 24 (0, 0)) (kb_ BK175.out)) : gb175 ≠ gb230))
     have n18_ := Aside0.mk ((by rw [hg]; exact Nat.ne_of_gt (blk_lt (g := gb175) (o := .cells #[.slice A0_0 l0_0.length c0_0] 24 (0, 0)) (kb_ BK175.out)) : gb230 ≠ gb175))
     have n19_ := Aside0.mk ((by rw [hg]; exact Nat.ne_of_lt (blk_lt (g := gb176) (o := .cells #[.slice A1_0 l1_0.length c1_0] 24 (0, 0)) (kb_ BK176.out)) : gb176 ≠ gb230))
     have n20_ := Aside0.mk ((by rw [hg]; exact Nat.ne_of_gt (blk_lt (g := gb176) (o := .cells #[.slice A1_0 l1_0.length c1_0] 24 (0, 0)) (kb_ BK176.out)) : gb230 ≠ gb176))
     have n21_ := Aside0.mk ((by rw [hg]; exact Nat.ne_of_lt (blk_lt (g := gb189) (o := .cells #[.slice Ao42 t185.length co42] 28 (0, 0)) (kb_ BK189.out)) : gb189 ≠ gb230))
     have n22_ := Aside0.mk ((by rw [hg]; exact Nat.ne_of_gt (blk_lt (g := gb189) (o := .cells #[.slice Ao42 t185.length co42] 28 (0, 0)) (kb_ BK189.out)) : gb230 ≠ gb189))
     have n23_ := Aside0.mk ((by rw [hg]; exact Nat.ne_of_lt (blk_lt (g := gb193) (o := .cells #[.slice Ao48 t213.length co48] 28 (0, 0)) (kb_ BK193.out)) : gb193 ≠ gb230))
     have n24_ := Aside0.mk ((by rw [hg]; exact Nat.ne_of_gt (blk_lt (g := gb193) (o := .cells #[.slice Ao48 t213.length co48] 28 (0, 0)) (kb_ BK193.out)) : gb230 ≠ gb193))
     have n25_ := Aside0.mk ((by rw [hg]; exact Nat.ne_of_lt (blk_lt (g := gb197) (o := .cells #[.slice Ao57 t215.length co57] 28 (0, 0)) (kb_ BK197.out)) : gb197 ≠ gb230))
     have n26_ := Aside0.mk ((by rw [hg]; exact Nat.ne_of_gt (blk_lt (g := gb197) (o := .cells #[.slice Ao57 t215.length co57] 28 (0, 0)) (kb_ BK197.out)) : gb230 ≠ gb197))
     have n27_ := Aside0.mk ((by rw [hg]; exact Nat.ne_of_lt (blk_lt (g := gb202) (o := .cells #[.slice Ao66 t198.length co66] 28 (0, 0)) (kb_ BK202.out)) : gb202 ≠ gb230))
     have n28_ := Aside0.mk ((by rw [hg]; exact Nat.ne_of_gt (blk_lt (g := gb202) (o := .cells #[.slice Ao66 t198.length co66] 28 (0, 0)) (kb_ BK202.out)) : gb230 ≠ gb202))
     clear HO_190000
     clear HO_194000
     clear HO_198000
     clear HO_203000
     clear HO222
     clear HO225
     clear HO228
     clear BK175
     clear BK176
     clear BK189
     clear BK193
     clear BK197
     clear BK202
     clear HB
     have HO_190000 := n0_
     have HO_194000 := n1_
     have HO_198000 := n2_
     have HO_203000 := n3_
     have HO222 := n4_
     have HO225 := n5_
     have HO228 := n6_
     have BK175 := n7_
     have BK176 := n8_
     have BK189 := n9_
     have BK193 := n10_
     have BK197 := n11_
     have BK202 := n12_
     have HB := n13_
     have BK230 := n14_
     have GW230 := n15_
     have GE230 := n16_
     have NB175_230 := n17_
     have NB230_175 := n18_
     have NB176_230 := n19_
     have NB230_176 := n20_
     have NB189_230 := n21_
     have NB230_189 := n22_
     have NB193_230 := n23_
     have NB230_193 := n24_
     have NB197_230 := n25_
     have NB230_197 := n26_
     have NB202_230 := n27_
     have NB230_202 := n28_
     clear n0_ n1_ n2_ n3_ n4_ n5_ n6_ n7_ n8_ n9_ n10_ n11_ n12_ n13_ n14_ n15_ n16_ n17_ n18_ n19_ n20_ n21_ n22_ n23_ n24_ n25_ n26_ n27_ n28_
     clear hb hbox hg
     refine hK.out _ _ ⟨(blk_cell BK175.out 0).trans rfl, (blk_cell BK176.out 0).trans rfl⟩ (fun hHeld => ?_)
     clear hK K
     refine norm_ (a' := ?_) ?_ ?_
     rotate_left
     ·show Act.put _ (some 17) _ = _
      simp only [Act.put, List.setIfInBounds_toArray, List.set_cons_zero, List.set_cons_succ, i64_w, i32_w]
      rfl
     exact norm_ (by simp only [putAll, Act.put, List.setIfInBounds_toArray, List.set_cons_zero, List.set_cons_succ]) (hCont (.slice Ao154 t220.length co154, .slice Ao155 t223.length co155, v227, gb230) _ ⟨hHeld, (kr_ (Kd.R_mono HO222.out (fun _ hk => ⟨hk.1.2, ⟨hk.2, ⟨hk.1.1.1.1.1.2, ⟨hk.1.1.1.1.2, ⟨hk.1.1.1.2, hk.1.1.2⟩⟩⟩⟩⟩))), (kr_ (Kd.R_mono HO225.out (fun _ hk => ⟨hk.1.2, ⟨hk.2, ⟨hk.1.1.1.1.1.2, ⟨hk.1.1.1.1.2, ⟨hk.1.1.1.2, hk.1.1.2⟩⟩⟩⟩⟩))), (kr_ (Kd.R_mono HO228.out (fun _ hk => ⟨hk.1.2, ⟨hk.2, ⟨hk.1.1.1.1.1.2, ⟨hk.1.1.1.1.2, ⟨hk.1.1.1.2, hk.1.1.2⟩⟩⟩⟩⟩))), (kr_ (Kd.R_mono HO_190000.out (fun _ hk => ⟨hk.1.1.2, ⟨hk.1.2, ⟨hk.2, ⟨hk.1.1.1.1, ⟨hk.1.1.1.2.1, hk.1.1.1.2.2⟩⟩⟩⟩⟩))), (kr_ (Kd.R_mono HO_194000.out (fun _ hk => ⟨hk.1.1.2, ⟨hk.1.2, ⟨hk.2, ⟨hk.1.1.1.1, ⟨hk.1.1.1.2.1, hk.1.1.1.2.2⟩⟩⟩⟩⟩))), (kr_ (Kd.R_mono HO_198000.out (fun _ hk => ⟨hk.1.1.2, ⟨hk.1.2, ⟨hk.2, ⟨hk.1.1.1.1, ⟨hk.1.1.1.2.1, hk.1.1.1.2.2⟩⟩⟩⟩⟩))), (kr_ (Kd.R_mono HO_203000.out (fun _ hk => ⟨hk.1.1.2, ⟨hk.1.2, ⟨hk.2, ⟨hk.1.1.1.1, ⟨hk.1.1.1.2.1, hk.1.1.1.2.2⟩⟩⟩⟩⟩))), (kb_ BK175.out), (kb_ BK176.out), (kb_ BK189.out), (kb_ BK193.out), (kb_ BK197.out), (kb_ BK202.out), (kb_ BK230.out), GW230.out, GE230.out, NB175_230.out, NB230_175.out, NB176_230.out, NB230_176.out, NB189_230.out, NB230_189.out, NB193_230.out, NB230_193.out, NB197_230.out, NB230_197.out, NB202_230.out, NB230_202.out, (by repeat (first | (with_reducible first | exact HB.out | apply below_alloc | apply pw_below_drewN | apply below_drew1 | refine below_set ?_ GE175.out | refine below_set ?_ GE176.out | refine below_set ?_ GE189.out | refine below_set ?_ GE193.out | refine below_set ?_ GE197.out | refine below_set ?_ GE202.out | refine below_set ?_ GE230.out) | exact HB.out))⟩)
    ·skip
     refine box_step ?hg (N := 17) ?hd (cs := #[.slice none 0 0]) (t := 28) ?hr ?_; (case hd => rfl); (case hg => rfl); (case hr => first | (go_simp; done) | (go_simp; rfl))
     intro gb230 hg w154 hbox hb
     have n0_ := Aside0.mk (Kd.R_below (kr_ HO_190000.out) hb)
     have n1_ := Aside0.mk (Kd.R_below (kr_ HO_194000.out) hb)
     have n2_ := Aside0.mk (Kd.R_below (kr_ HO_198000.out) hb)
     have n3_ := Aside0.mk (Kd.R_below (kr_ HO_203000.out) hb)
     have n4_ := Aside0.mk (Kd.R_below (kr_ HO222.out) hb)
     have n5_ := Aside0.mk (Kd.R_below (kr_ HO225.out) hb)
     have n6_ := Aside0.mk (blk_below (g := gb175) (o := .cells #[.slice A0_0 l0_0.length c0_0] 24 (0, 0)) (kb_ BK175.out) hb)
     have n7_ := Aside0.mk (blk_below (g := gb176) (o := .cells #[.slice A1_0 l1_0.length c1_0] 24 (0, 0)) (kb_ BK176.out) hb)
     have n8_ := Aside0.mk (blk_below (g := gb189) (o := .cells #[.slice Ao42 t185.length co42] 28 (0, 0)) (kb_ BK189.out) hb)
     have n9_ := Aside0.mk (blk_below (g := gb193) (o := .cells #[.slice Ao48 t213.length co48] 28 (0, 0)) (kb_ BK193.out) hb)
     have n10_ := Aside0.mk (blk_below (g := gb197) (o := .cells #[.slice Ao57 t215.length co57] 28 (0, 0)) (kb_ BK197.out) hb)
     have n11_ := Aside0.mk (blk_below (g := gb202) (o := .cells #[.slice Ao66 t198.length co66] 28 (0, 0)) (kb_ BK202.out) hb)
     have n12_ := Aside0.mk (below_step (by repeat (first | (with_reducible first | exact HB.out | apply below_alloc | apply pw_below_drewN | apply below_drew1 | refine below_set ?_ GE175.out | refine below_set ?_ GE176.out | refine below_set ?_ GE189.out | refine below_set ?_ GE193.out | refine below_set ?_ GE197.out | refine below_set ?_ GE202.out) | exact HB.out)) hb)
     have n13_ := Aside0.mk (hbox)
     have n14_ := Aside0.mk ((by rw [hg]; exact (below_size (by repeat (first | (with_reducible first | exact HB.out | apply below_alloc | apply pw_below_drewN | apply below_drew1 | refine below_set ?_ GE175.out | refine below_set ?_ GE176.out | refine below_set ?_ GE189.out | refine below_set ?_ GE193.out | refine below_set ?_ GE197.out | refine below_set ?_ GE202.out) | exact HB.out))) : w.heap.size ≤ gb230))
     have n15_ := Aside0.mk ((by rw [hg]; exact (below_size (by repeat (first | (with_reducible first | exact HB.out | apply below_alloc | apply pw_below_drewN | apply below_drew1 | refine below_set ?_ GE175.out | refine below_set ?_ GE176.out | refine below_set ?_ GE189.out | refine below_set ?_ GE193.out | refine below_set ?_ GE197.out | refine below_set ?_ GE202.out) | exact HB.out))) : w.heap.size ≤ gb230))
     have n16_ := Aside0.mk ((by rw [hg]; exact Nat.ne_of_lt (blk_lt (g := gb175) (o := .cells #[.slice A0_0 l0_0.length c0_0] 24 (0, 0)) (kb_ BK175.out)) : gb175 ≠ gb230))
     have n17_ := Aside0.mk ((by rw [hg]; exact Nat.ne_of_gt (blk_lt (g := gb175) (o := .cells #[.slice A0_0 l0_0.length c0_0] 24 (0, 0)) (kb_ BK175.out)) : gb230 ≠ gb175))
     have n18_ := Aside0.mk ((by rw [hg]; exact Nat.ne_of_lt (blk_lt (g := gb176) (o := .cells #[.slice A1_0 l1_0.length c1_0] 24 (0, 0)) (kb_ BK176.out)) : gb176 ≠ gb230))
     have n19_ := Aside0.mk ((by rw [hg]; exact Nat.ne_of_gt (blk_lt (g := gb176) (o := .cells #[.slice A1_0 l1_0.length c1_0] 24 (0, 0)) (kb_ BK176.out)) : gb230 ≠ gb176))
     have n20_ := Aside0.mk ((by rw [hg]; exact Nat.ne_of_lt (blk_lt (g := gb189) (o := .cells #[.slice Ao42 t185.length co42] 28 (0, 0)) (kb_ BK189.out)) : gb189 ≠ gb230))
     have n21_ := Aside0.mk ((by rw [hg]; exact Nat.ne_of_gt (blk_lt (g := gb189) (o := .cells #[.slice Ao42 t185.length co42] 28 (0, 0)) (kb_ BK189.out)) : gb230 ≠ gb189))
     have n22_ := Aside0.mk ((by rw [hg]; exact Nat.ne_of_lt (blk_lt (g := gb193) (o := .cells #[.slice Ao48 t213.length co48] 28 (0, 0)) (kb_ BK193.out)) : gb193 ≠ gb230))
     have n23_ := Aside0.mk ((by rw [hg]; exact Nat.ne_of_gt (blk_lt (g := gb193) (o := .cells #[.slice Ao48 t213.length co48] 28 (0, 0)) (kb_ BK193.out)) : gb230 ≠ gb193))
     have n24_ := Aside0.mk ((by rw [hg]; exact Nat.ne_of_lt (blk_lt (g := gb197) (o := .cells #[.slice Ao57 t215.length co57] 28 (0, 0)) (kb_ BK197.out)) : gb197 ≠ gb230))
     have n25_ := Aside0.mk ((by rw [hg]; exact Nat.ne_of_gt (blk_lt (g := gb197) (o := .cells #[.slice Ao57 t215.length co57] 28 (0, 0)) (kb_ BK197.out)) : gb230 ≠ gb197))
     have n26_ := Aside0.mk ((by rw [hg]; exact Nat.ne_of_lt (blk_lt (g := gb202) (o := .cells #[.slice Ao66 t198.length co66] 28 (0, 0)) (kb_ BK202.out)) : gb202 ≠ gb230))
     have n27_ := Aside0.mk ((by rw [hg]; exact Nat.ne_of_gt (blk_lt (g := gb202) (o := .cells #[.slice Ao66 t198.length co66] 28 (0, 0)) (kb_ BK202.out)) : gb230 ≠ gb202))
     clear HO_190000
     clear HO_194000
     clear HO_198000
     clear HO_203000
     clear HO222
     clear HO225
     clear BK175
     clear BK176
     clear BK189
     clear BK193
     clear BK197
     clear BK202
     clear HB
     have HO_190000 := n0_
     have HO_194000 := n1_
     have HO_198000 := n2_
     have HO_203000 := n3_
     have HO222 := n4_
     have HO225 := n5_
     have BK175 := n6_
     have BK176 := n7_
     have BK189 := n8_
     have BK193 := n9_
     have BK197 := n10_
     have BK202 := n11_
     have HB := n12_
     have BK230 := n13_
     have GW230 := n14_
     have GE230 := n15_
     have NB175_230 := n16_
     have NB230_175 := n17_
     have NB176_230 := n18_
     have NB230_176 := n19_
     have NB189_230 := n20_
     have NB230_189 := n21_
     have NB193_230 := n22_
     have NB230_193 := n23_
     have NB197_230 := n24_
     have NB230_197 := n25_
     have NB202_230 := n26_
     have NB230_202 := n27_
     clear n0_ n1_ n2_ n3_ n4_ n5_ n6_ n7_ n8_ n9_ n10_ n11_ n12_ n13_ n14_ n15_ n16_ n17_ n18_ n19_ n20_ n21_ n22_ n23_ n24_ n25_ n26_ n27_
     clear hb hbox hg
     obtain ⟨Ao155, co155, eo155⟩ := Kd.R_slice HO222.out
     (first | subst eo155 | (injection eo155 with f1_ f2_ f3_; have f4_ := f1_.symm; have f5_ := f3_.symm; clear f1_ f2_ f3_; subst f4_; subst f5_))
     obtain ⟨Ao156, co156, eo156⟩ := Kd.R_slice HO225.out
     (first | subst eo156 | (injection eo156 with f1_ f2_ f3_; have f4_ := f1_.symm; have f5_ := f3_.symm; clear f1_ f2_ f3_; subst f4_; subst f5_))
     refine hK.out _ _ ⟨(blk_cell BK175.out 0).trans rfl, (blk_cell BK176.out 0).trans rfl⟩ (fun hHeld => ?_)
     clear hK K
     refine norm_ (a' := ?_) ?_ ?_
     rotate_left
     ·show Act.put _ (some 17) _ = _
      simp only [Act.put, List.setIfInBounds_toArray, List.set_cons_zero, List.set_cons_succ, i64_w, i32_w]
      rfl
     refine one_ (i := 5) (N := some 104) #[true, true, true, true, true, true, false, false, false, true, false, false] rfl rfl (one_of HT_.out (by kernel_rfl)) (by decide) (fun K hK => ?_)
     refine goes_ Try.func30 (by kernel_rfl) rfl #[.agg #[.slice Ao155 t220.length co155], .agg #[.slice Ao156 t223.length co156], .int .i64 a2] (by rfl) rfl rfl (by (try simp only [List.map_toArray, List.map_cons, List.map_nil]); first | done | rfl | (simp only [List.length_drop, List.length_take]; rfl)) ?_
     with_reducible refine (impl_MeetOf.calls kj95 _ _ t220 _ _ t223 a2 t226 t229 _ ?side1 ?side2 ?side3 ?side4 A140.out).mono ?_
     (case side1 => repeat (first | exact (Kd.R_reads' HO222.out).2.2 | (with_reducible refine Kd.C_alloc ?_ _) | (with_reducible refine Kd.C_drewN ?_ _) | (with_reducible refine Kd.C_drew ?_)))
     (case side2 => exact (Kd.R_reads' HO222.out).2.1)
     (case side3 => repeat (first | exact (Kd.R_reads' HO225.out).2.2 | (with_reducible refine Kd.C_alloc ?_ _) | (with_reducible refine Kd.C_drewN ?_ _) | (with_reducible refine Kd.C_drew ?_)))
     (case side4 => exact (Kd.R_reads' HO225.out).2.1)
     rintro e w157 ⟨v227, rfl, ho0, hb⟩
     refine ⟨_, rfl, ?_⟩
     have n0_ := Aside0.mk (Kd.R_elder' (kr_ HO_190000.out) (Kd.R_base ho0) hb)
     have n1_ := Aside0.mk (Kd.R_elder' (kr_ HO_194000.out) (Kd.R_base ho0) hb)
     have n2_ := Aside0.mk (Kd.R_elder' (kr_ HO_198000.out) (Kd.R_base ho0) hb)
     have n3_ := Aside0.mk (Kd.R_elder' (kr_ HO_203000.out) (Kd.R_base ho0) hb)
     have n4_ := Aside0.mk (Kd.R_elder' (kr_ HO222.out) (Kd.R_base ho0) hb)
     have n5_ := Aside0.mk (Kd.R_elder' (kr_ HO225.out) (Kd.R_base ho0) hb)
     have n6_ := Aside0.mk (Kd.R_lower (Kd.R_new' (Kd.R_new' (Kd.R_new' (Kd.R_new' (Kd.R_new' (Kd.R_new' ho0 (Kd.R_lt (kr_ HO_190000.out))) (Kd.R_lt (kr_ HO_194000.out))) (Kd.R_lt (kr_ HO_198000.out))) (Kd.R_lt (kr_ HO_203000.out))) (Kd.R_lt (kr_ HO222.out))) (Kd.R_lt (kr_ HO225.out))) (below_size (by repeat (first | (with_reducible first | exact HB.out | apply below_alloc | apply pw_below_drewN | apply below_drew1 | refine below_set ?_ GE175.out | refine below_set ?_ GE176.out | refine below_set ?_ GE189.out | refine below_set ?_ GE193.out | refine below_set ?_ GE197.out | refine below_set ?_ GE202.out | refine below_set ?_ GE230.out) | exact HB.out))))
     have n7_ := Aside0.mk (blk_below (g := gb175) (o := .cells #[.slice A0_0 l0_0.length c0_0] 24 (0, 0)) (kb_ BK175.out) hb)
     have n8_ := Aside0.mk (blk_below (g := gb176) (o := .cells #[.slice A1_0 l1_0.length c1_0] 24 (0, 0)) (kb_ BK176.out) hb)
     have n9_ := Aside0.mk (blk_below (g := gb189) (o := .cells #[.slice Ao42 t185.length co42] 28 (0, 0)) (kb_ BK189.out) hb)
     have n10_ := Aside0.mk (blk_below (g := gb193) (o := .cells #[.slice Ao48 t213.length co48] 28 (0, 0)) (kb_ BK193.out) hb)
     have n11_ := Aside0.mk (blk_below (g := gb197) (o := .cells #[.slice Ao57 t215.length co57] 28 (0, 0)) (kb_ BK197.out) hb)
     have n12_ := Aside0.mk (blk_below (g := gb202) (o := .cells #[.slice Ao66 t198.length co66] 28 (0, 0)) (kb_ BK202.out) hb)
     have n13_ := Aside0.mk (blk_below (g := gb230) (o := .cells #[.slice none 0 0] 28 (0, 0)) (kb_ BK230.out) hb)
     have n14_ := Aside0.mk (below_step (by repeat (first | (with_reducible first | exact HB.out | apply below_alloc | apply pw_below_drewN | apply below_drew1 | refine below_set ?_ GE175.out | refine below_set ?_ GE176.out | refine below_set ?_ GE189.out | refine below_set ?_ GE193.out | refine below_set ?_ GE197.out | refine below_set ?_ GE202.out | refine below_set ?_ GE230.out) | exact HB.out)) hb)
     clear HO_190000
     clear HO_194000
     clear HO_198000
     clear HO_203000
     clear HO222
     clear HO225
     clear BK175
     clear BK176
     clear BK189
     clear BK193
     clear BK197
     clear BK202
     clear BK230
     clear HB
     have HO_190000 := n0_
     have HO_194000 := n1_
     have HO_198000 := n2_
     have HO_203000 := n3_
     have HO222 := n4_
     have HO225 := n5_
     have HO228 := n6_
     have BK175 := n7_
     have BK176 := n8_
     have BK189 := n9_
     have BK193 := n10_
     have BK197 := n11_
     have BK202 := n12_
     have BK230 := n13_
     have HB := n14_
     clear n0_ n1_ n2_ n3_ n4_ n5_ n6_ n7_ n8_ n9_ n10_ n11_ n12_ n13_ n14_
     (try clear hb)
     (try clear hb2)
     (try clear hk)
     (try clear hi)
     (try clear ho0)
     refine hK.out _ _ ⟨(blk_cell BK175.out 0).trans rfl, (blk_cell BK176.out 0).trans rfl⟩ (fun hHeld => ?_)
     clear hK K
     refine norm_ (a' := ?_) ?_ ?_
     rotate_left
     ·show Act.put _ (some 104) _ = _
      simp only [Act.put, List.setIfInBounds_toArray, List.set_cons_zero, List.set_cons_succ, i64_w, i32_w]
      rfl
     refine pure_ (i := 6) (N := some 98) (v := ?_) (a' := ?_) #[true, true, true, true, true, true, true, false, false, true, false, false] rfl rfl (any_of HT_.out (by kernel_rfl)) (fun _ _ _ h => h) (Or.inl ⟨by rfl, ?_⟩) ?_ ?_
     rotate_left
     ·intro w'
      go_simp
      with_reducible rfl
     rotate_left
     ·simp only [Act.put, List.setIfInBounds_toArray, List.set_cons_zero, List.set_cons_succ, i64_w, i32_w]
      rfl
     refine pure_ (i := 7) (N := some 105) (v := ?_) (a' := ?_) #[true, true, true, true, true, true, true, true, false, true, false, false] rfl rfl (any_of HT_.out (by kernel_rfl)) (fun _ _ _ h => h) (Or.inl ⟨by rfl, ?_⟩) ?_ ?_
     rotate_left
     ·intro w'
      go_simp
      with_reducible rfl
     rotate_left
     ·simp only [Act.put, List.setIfInBounds_toArray, List.set_cons_zero, List.set_cons_succ, i64_w, i32_w]
      rfl
     refine pure_ (i := 8) (N := some 106) (v := ?_) (a' := ?_) #[true, true, true, true, true, true, true, true, true, true, false, false] rfl rfl (any_of HT_.out (by kernel_rfl)) (fun _ _ _ h => h) (Or.inl ⟨by rfl, ?_⟩) ?_ ?_
     rotate_left
     ·intro w'
      go_simp
      with_reducible rfl
     rotate_left
     ·simp only [Act.put, List.setIfInBounds_toArray, List.set_cons_zero, List.set_cons_succ, i64_w, i32_w]
      rfl
     exact norm_ (by simp only [putAll, Act.put, List.setIfInBounds_toArray, List.set_cons_zero, List.set_cons_succ]) (hCont (.slice Ao155 t220.length co155, .slice Ao156 t223.length co156, v227, gb230) _ ⟨hHeld, (kr_ (Kd.R_mono HO222.out (fun _ hk => ⟨hk.1.2, ⟨hk.2, ⟨hk.1.1.1.1.1.2, ⟨hk.1.1.1.1.2, ⟨hk.1.1.1.2, hk.1.1.2⟩⟩⟩⟩⟩))), (kr_ (Kd.R_mono HO225.out (fun _ hk => ⟨hk.1.2, ⟨hk.2, ⟨hk.1.1.1.1.1.2, ⟨hk.1.1.1.1.2, ⟨hk.1.1.1.2, hk.1.1.2⟩⟩⟩⟩⟩))), (kr_ (Kd.R_mono HO228.out (fun _ hk => ⟨hk.1.2, ⟨hk.2, ⟨hk.1.1.1.1.1.2, ⟨hk.1.1.1.1.2, ⟨hk.1.1.1.2, hk.1.1.2⟩⟩⟩⟩⟩))), (kr_ (Kd.R_mono HO_190000.out (fun _ hk => ⟨hk.1.1.2, ⟨hk.1.2, ⟨hk.2, ⟨hk.1.1.1.1, ⟨hk.1.1.1.2.1, hk.1.1.1.2.2⟩⟩⟩⟩⟩))), (kr_ (Kd.R_mono HO_194000.out (fun _ hk => ⟨hk.1.1.2, ⟨hk.1.2, ⟨hk.2, ⟨hk.1.1.1.1, ⟨hk.1.1.1.2.1, hk.1.1.1.2.2⟩⟩⟩⟩⟩))), (kr_ (Kd.R_mono HO_198000.out (fun _ hk => ⟨hk.1.1.2, ⟨hk.1.2, ⟨hk.2, ⟨hk.1.1.1.1, ⟨hk.1.1.1.2.1, hk.1.1.1.2.2⟩⟩⟩⟩⟩))), (kr_ (Kd.R_mono HO_203000.out (fun _ hk => ⟨hk.1.1.2, ⟨hk.1.2, ⟨hk.2, ⟨hk.1.1.1.1, ⟨hk.1.1.1.2.1, hk.1.1.1.2.2⟩⟩⟩⟩⟩))), (kb_ BK175.out), (kb_ BK176.out), (kb_ BK189.out), (kb_ BK193.out), (kb_ BK197.out), (kb_ BK202.out), (kb_ BK230.out), GW230.out, GE230.out, NB175_230.out, NB230_175.out, NB176_230.out, NB230_176.out, NB189_230.out, NB230_189.out, NB193_230.out, NB230_193.out, NB197_230.out, NB230_197.out, NB202_230.out, NB230_202.out, (by repeat (first | (with_reducible first | exact HB.out | apply below_alloc | apply pw_below_drewN | apply below_drew1 | refine below_set ?_ GE175.out | refine below_set ?_ GE176.out | refine below_set ?_ GE189.out | refine below_set ?_ GE193.out | refine below_set ?_ GE197.out | refine below_set ?_ GE202.out | refine below_set ?_ GE230.out) | exact HB.out))⟩)
   ·skip
    refine box_step ?hg (N := 17) ?hd (cs := #[.slice none 0 0]) (t := 28) ?hr ?_; (case hd => rfl); (case hg => rfl); (case hr => first | (go_simp; done) | (go_simp; rfl))
    intro gb230 hg w153 hbox hb
    have n0_ := Aside0.mk (Kd.R_below (kr_ HO_190000.out) hb)
    have n1_ := Aside0.mk (Kd.R_below (kr_ HO_194000.out) hb)
    have n2_ := Aside0.mk (Kd.R_below (kr_ HO_198000.out) hb)
    have n3_ := Aside0.mk (Kd.R_below (kr_ HO_203000.out) hb)
    have n4_ := Aside0.mk (Kd.R_below (kr_ HO222.out) hb)
    have n5_ := Aside0.mk (blk_below (g := gb175) (o := .cells #[.slice A0_0 l0_0.length c0_0] 24 (0, 0)) (kb_ BK175.out) hb)
    have n6_ := Aside0.mk (blk_below (g := gb176) (o := .cells #[.slice A1_0 l1_0.length c1_0] 24 (0, 0)) (kb_ BK176.out) hb)
    have n7_ := Aside0.mk (blk_below (g := gb189) (o := .cells #[.slice Ao42 t185.length co42] 28 (0, 0)) (kb_ BK189.out) hb)
    have n8_ := Aside0.mk (blk_below (g := gb193) (o := .cells #[.slice Ao48 t213.length co48] 28 (0, 0)) (kb_ BK193.out) hb)
    have n9_ := Aside0.mk (blk_below (g := gb197) (o := .cells #[.slice Ao57 t215.length co57] 28 (0, 0)) (kb_ BK197.out) hb)
    have n10_ := Aside0.mk (blk_below (g := gb202) (o := .cells #[.slice Ao66 t198.length co66] 28 (0, 0)) (kb_ BK202.out) hb)
    have n11_ := Aside0.mk (below_step (by repeat (first | (with_reducible first | exact HB.out | apply below_alloc | apply pw_below_drewN | apply below_drew1 | refine below_set ?_ GE175.out | refine below_set ?_ GE176.out | refine below_set ?_ GE189.out | refine below_set ?_ GE193.out | refine below_set ?_ GE197.out | refine below_set ?_ GE202.out) | exact HB.out)) hb)
    have n12_ := Aside0.mk (hbox)
    have n13_ := Aside0.mk ((by rw [hg]; exact (below_size (by repeat (first | (with_reducible first | exact HB.out | apply below_alloc | apply pw_below_drewN | apply below_drew1 | refine below_set ?_ GE175.out | refine below_set ?_ GE176.out | refine below_set ?_ GE189.out | refine below_set ?_ GE193.out | refine below_set ?_ GE197.out | refine below_set ?_ GE202.out) | exact HB.out))) : w.heap.size ≤ gb230))
    have n14_ := Aside0.mk ((by rw [hg]; exact (below_size (by repeat (first | (with_reducible first | exact HB.out | apply below_alloc | apply pw_below_drewN | apply below_drew1 | refine below_set ?_ GE175.out | refine below_set ?_ GE176.out | refine below_set ?_ GE189.out | refine below_set ?_ GE193.out | refine below_set ?_ GE197.out | refine below_set ?_ GE202.out) | exact HB.out))) : w.heap.size ≤ gb230))
    have n15_ := Aside0.mk ((by rw [hg]; exact Nat.ne_of_lt (blk_lt (g := gb175) (o := .cells #[.slice A0_0 l0_0.length c0_0] 24 (0, 0)) (kb_ BK175.out)) : gb175 ≠ gb230))
    have n16_ := Aside0.mk ((by rw [hg]; exact Nat.ne_of_gt (blk_lt (g := gb175) (o := .cells #[.slice A0_0 l0_0.length c0_0] 24 (0, 0)) (kb_ BK175.out)) : gb230 ≠ gb175))
    have n17_ := Aside0.mk ((by rw [hg]; exact Nat.ne_of_lt (blk_lt (g := gb176) (o := .cells #[.slice A1_0 l1_0.length c1_0] 24 (0, 0)) (kb_ BK176.out)) : gb176 ≠ gb230))
    have n18_ := Aside0.mk ((by rw [hg]; exact Nat.ne_of_gt (blk_lt (g := gb176) (o := .cells #[.slice A1_0 l1_0.length c1_0] 24 (0, 0)) (kb_ BK176.out)) : gb230 ≠ gb176))
    have n19_ := Aside0.mk ((by rw [hg]; exact Nat.ne_of_lt (blk_lt (g := gb189) (o := .cells #[.slice Ao42 t185.length co42] 28 (0, 0)) (kb_ BK189.out)) : gb189 ≠ gb230))
    have n20_ := Aside0.mk ((by rw [hg]; exact Nat.ne_of_gt (blk_lt (g := gb189) (o := .cells #[.slice Ao42 t185.length co42] 28 (0, 0)) (kb_ BK189.out)) : gb230 ≠ gb189))
    have n21_ := Aside0.mk ((by rw [hg]; exact Nat.ne_of_lt (blk_lt (g := gb193) (o := .cells #[.slice Ao48 t213.length co48] 28 (0, 0)) (kb_ BK193.out)) : gb193 ≠ gb230))
    have n22_ := Aside0.mk ((by rw [hg]; exact Nat.ne_of_gt (blk_lt (g := gb193) (o := .cells #[.slice Ao48 t213.length co48] 28 (0, 0)) (kb_ BK193.out)) : gb230 ≠ gb193))
    have n23_ := Aside0.mk ((by rw [hg]; exact Nat.ne_of_lt (blk_lt (g := gb197) (o := .cells #[.slice Ao57 t215.length co57] 28 (0, 0)) (kb_ BK197.out)) : gb197 ≠ gb230))
    have n24_ := Aside0.mk ((by rw [hg]; exact Nat.ne_of_gt (blk_lt (g := gb197) (o := .cells #[.slice Ao57 t215.length co57] 28 (0, 0)) (kb_ BK197.out)) : gb230 ≠ gb197))
    have n25_ := Aside0.mk ((by rw [hg]; exact Nat.ne_of_lt (blk_lt (g := gb202) (o := .cells #[.slice Ao66 t198.length co66] 28 (0, 0)) (kb_ BK202.out)) : gb202 ≠ gb230))
    have n26_ := Aside0.mk ((by rw [hg]; exact Nat.ne_of_gt (blk_lt (g := gb202) (o := .cells #[.slice Ao66 t198.length co66] 28 (0, 0)) (kb_ BK202.out)) : gb230 ≠ gb202))
    clear HO_190000
    clear HO_194000
    clear HO_198000
    clear HO_203000
    clear HO222
    clear BK175
    clear BK176
    clear BK189
    clear BK193
    clear BK197
    clear BK202
    clear HB
    have HO_190000 := n0_
    have HO_194000 := n1_
    have HO_198000 := n2_
    have HO_203000 := n3_
    have HO222 := n4_
    have BK175 := n5_
    have BK176 := n6_
    have BK189 := n7_
    have BK193 := n8_
    have BK197 := n9_
    have BK202 := n10_
    have HB := n11_
    have BK230 := n12_
    have GW230 := n13_
    have GE230 := n14_
    have NB175_230 := n15_
    have NB230_175 := n16_
    have NB176_230 := n17_
    have NB230_176 := n18_
    have NB189_230 := n19_
    have NB230_189 := n20_
    have NB193_230 := n21_
    have NB230_193 := n22_
    have NB197_230 := n23_
    have NB230_197 := n24_
    have NB202_230 := n25_
    have NB230_202 := n26_
    clear n0_ n1_ n2_ n3_ n4_ n5_ n6_ n7_ n8_ n9_ n10_ n11_ n12_ n13_ n14_ n15_ n16_ n17_ n18_ n19_ n20_ n21_ n22_ n23_ n24_ n25_ n26_
    clear hb hbox hg
    refine hK.out _ _ ⟨(blk_cell BK175.out 0).trans rfl, (blk_cell BK176.out 0).trans rfl⟩ (fun hHeld => ?_)
    clear hK K
    refine norm_ (a' := ?_) ?_ ?_
    rotate_left
    ·show Act.put _ (some 17) _ = _
     simp only [Act.put, List.setIfInBounds_toArray, List.set_cons_zero, List.set_cons_succ, i64_w, i32_w]
     rfl
    refine one_ (i := 3) (N := some 102) #[true, true, true, true, true, false, false, false, false, true, false, false] rfl rfl (one_of HT_.out (by kernel_rfl)) (by decide) (fun K hK => ?_)
    refine goes_ Try.func14 (by kernel_rfl) rfl #[.agg #[.slice A1_0 l1_0.length c1_0]] (by rfl) rfl rfl (by (try simp only [List.map_toArray, List.map_cons, List.map_nil]); first | done | rfl | (simp only [List.length_drop, List.length_take]; rfl)) ?_
    with_reducible refine (laws_toGroup.calls kj95 _ _ l1_0 t223 _ ?side1 ?side2 A139.out).mono ?_
    (case side1 => repeat (first | exact (Kd.C_below HR1_0.out HB.out) | (with_reducible refine Kd.C_alloc ?_ _) | (with_reducible refine Kd.C_drewN ?_ _) | (with_reducible refine Kd.C_drew ?_)))
    (case side2 => exact HC1_0.out)
    rintro e w154 ⟨v224, rfl, ho0, hb⟩
    refine ⟨_, rfl, ?_⟩
    have n0_ := Aside0.mk (Kd.R_elder' (kr_ HO_190000.out) (Kd.R_base ho0) hb)
    have n1_ := Aside0.mk (Kd.R_elder' (kr_ HO_194000.out) (Kd.R_base ho0) hb)
    have n2_ := Aside0.mk (Kd.R_elder' (kr_ HO_198000.out) (Kd.R_base ho0) hb)
    have n3_ := Aside0.mk (Kd.R_elder' (kr_ HO_203000.out) (Kd.R_base ho0) hb)
    have n4_ := Aside0.mk (Kd.R_elder' (kr_ HO222.out) (Kd.R_base ho0) hb)
    have n5_ := Aside0.mk (Kd.R_lower (Kd.R_new' (Kd.R_new' (Kd.R_new' (Kd.R_new' (Kd.R_new' ho0 (Kd.R_lt (kr_ HO_190000.out))) (Kd.R_lt (kr_ HO_194000.out))) (Kd.R_lt (kr_ HO_198000.out))) (Kd.R_lt (kr_ HO_203000.out))) (Kd.R_lt (kr_ HO222.out))) (below_size (by repeat (first | (with_reducible first | exact HB.out | apply below_alloc | apply pw_below_drewN | apply below_drew1 | refine below_set ?_ GE175.out | refine below_set ?_ GE176.out | refine below_set ?_ GE189.out | refine below_set ?_ GE193.out | refine below_set ?_ GE197.out | refine below_set ?_ GE202.out | refine below_set ?_ GE230.out) | exact HB.out))))
    have n6_ := Aside0.mk (blk_below (g := gb175) (o := .cells #[.slice A0_0 l0_0.length c0_0] 24 (0, 0)) (kb_ BK175.out) hb)
    have n7_ := Aside0.mk (blk_below (g := gb176) (o := .cells #[.slice A1_0 l1_0.length c1_0] 24 (0, 0)) (kb_ BK176.out) hb)
    have n8_ := Aside0.mk (blk_below (g := gb189) (o := .cells #[.slice Ao42 t185.length co42] 28 (0, 0)) (kb_ BK189.out) hb)
    have n9_ := Aside0.mk (blk_below (g := gb193) (o := .cells #[.slice Ao48 t213.length co48] 28 (0, 0)) (kb_ BK193.out) hb)
    have n10_ := Aside0.mk (blk_below (g := gb197) (o := .cells #[.slice Ao57 t215.length co57] 28 (0, 0)) (kb_ BK197.out) hb)
    have n11_ := Aside0.mk (blk_below (g := gb202) (o := .cells #[.slice Ao66 t198.length co66] 28 (0, 0)) (kb_ BK202.out) hb)
    have n12_ := Aside0.mk (blk_below (g := gb230) (o := .cells #[.slice none 0 0] 28 (0, 0)) (kb_ BK230.out) hb)
    have n13_ := Aside0.mk (below_step (by repeat (first | (with_reducible first | exact HB.out | apply below_alloc | apply pw_below_drewN | apply below_drew1 | refine below_set ?_ GE175.out | refine below_set ?_ GE176.out | refine below_set ?_ GE189.out | refine below_set ?_ GE193.out | refine below_set ?_ GE197.out | refine below_set ?_ GE202.out | refine below_set ?_ GE230.out) | exact HB.out)) hb)
    clear HO_190000
    clear HO_194000
    clear HO_198000
    clear HO_203000
    clear HO222
    clear BK175
    clear BK176
    clear BK189
    clear BK193
    clear BK197
    clear BK202
    clear BK230
    clear HB
    have HO_190000 := n0_
    have HO_194000 := n1_
    have HO_198000 := n2_
    have HO_203000 := n3_
    have HO222 := n4_
    have HO225 := n5_
    have BK175 := n6_
    have BK176 := n7_
    have BK189 := n8_
    have BK193 := n9_
    have BK197 := n10_
    have BK202 := n11_
    have BK230 := n12_
    have HB := n13_
    clear n0_ n1_ n2_ n3_ n4_ n5_ n6_ n7_ n8_ n9_ n10_ n11_ n12_ n13_
    (try clear hb)
    (try clear hb2)
    (try clear hk)
    (try clear hi)
    (try clear ho0)
    obtain ⟨Ao155, co155, eo155⟩ := Kd.R_slice HO222.out
    (first | subst eo155 | (injection eo155 with f1_ f2_ f3_; have f4_ := f1_.symm; have f5_ := f3_.symm; clear f1_ f2_ f3_; subst f4_; subst f5_))
    obtain ⟨Ao156, co156, eo156⟩ := Kd.R_slice HO225.out
    (first | subst eo156 | (injection eo156 with f1_ f2_ f3_; have f4_ := f1_.symm; have f5_ := f3_.symm; clear f1_ f2_ f3_; subst f4_; subst f5_))
    refine hK.out _ _ ⟨(blk_cell BK175.out 0).trans rfl, (blk_cell BK176.out 0).trans rfl⟩ (fun hHeld => ?_)
    clear hK K
    refine norm_ (a' := ?_) ?_ ?_
    rotate_left
    ·show Act.put _ (some 102) _ = _
     simp only [Act.put, List.setIfInBounds_toArray, List.set_cons_zero, List.set_cons_succ, i64_w, i32_w]
     rfl
    refine one_ (i := 5) (N := some 104) #[true, true, true, true, true, true, false, false, false, true, false, false] rfl rfl (one_of HT_.out (by kernel_rfl)) (by decide) (fun K hK => ?_)
    refine goes_ Try.func30 (by kernel_rfl) rfl #[.agg #[.slice Ao155 t220.length co155], .agg #[.slice Ao156 t223.length co156], .int .i64 a2] (by rfl) rfl rfl (by (try simp only [List.map_toArray, List.map_cons, List.map_nil]); first | done | rfl | (simp only [List.length_drop, List.length_take]; rfl)) ?_
    with_reducible refine (impl_MeetOf.calls kj95 _ _ t220 _ _ t223 a2 t226 t229 _ ?side1 ?side2 ?side3 ?side4 A140.out).mono ?_
    (case side1 => repeat (first | exact (Kd.R_reads' HO222.out).2.2 | (with_reducible refine Kd.C_alloc ?_ _) | (with_reducible refine Kd.C_drewN ?_ _) | (with_reducible refine Kd.C_drew ?_)))
    (case side2 => exact (Kd.R_reads' HO222.out).2.1)
    (case side3 => repeat (first | exact (Kd.R_reads' HO225.out).2.2 | (with_reducible refine Kd.C_alloc ?_ _) | (with_reducible refine Kd.C_drewN ?_ _) | (with_reducible refine Kd.C_drew ?_)))
    (case side4 => exact (Kd.R_reads' HO225.out).2.1)
    rintro e w157 ⟨v227, rfl, ho0, hb⟩
    refine ⟨_, rfl, ?_⟩
    have n0_ := Aside0.mk (Kd.R_elder' (kr_ HO_190000.out) (Kd.R_base ho0) hb)
    have n1_ := Aside0.mk (Kd.R_elder' (kr_ HO_194000.out) (Kd.R_base ho0) hb)
    have n2_ := Aside0.mk (Kd.R_elder' (kr_ HO_198000.out) (Kd.R_base ho0) hb)
    have n3_ := Aside0.mk (Kd.R_elder' (kr_ HO_203000.out) (Kd.R_base ho0) hb)
    have n4_ := Aside0.mk (Kd.R_elder' (kr_ HO222.out) (Kd.R_base ho0) hb)
    have n5_ := Aside0.mk (Kd.R_elder' (kr_ HO225.out) (Kd.R_base ho0) hb)
    have n6_ := Aside0.mk (Kd.R_lower (Kd.R_new' (Kd.R_new' (Kd.R_new' (Kd.R_new' (Kd.R_new' (Kd.R_new' ho0 (Kd.R_lt (kr_ HO_190000.out))) (Kd.R_lt (kr_ HO_194000.out))) (Kd.R_lt (kr_ HO_198000.out))) (Kd.R_lt (kr_ HO_203000.out))) (Kd.R_lt (kr_ HO222.out))) (Kd.R_lt (kr_ HO225.out))) (below_size (by repeat (first | (with_reducible first | exact HB.out | apply below_alloc | apply pw_below_drewN | apply below_drew1 | refine below_set ?_ GE175.out | refine below_set ?_ GE176.out | refine below_set ?_ GE189.out | refine below_set ?_ GE193.out | refine below_set ?_ GE197.out | refine below_set ?_ GE202.out | refine below_set ?_ GE230.out) | exact HB.out))))
    have n7_ := Aside0.mk (blk_below (g := gb175) (o := .cells #[.slice A0_0 l0_0.length c0_0] 24 (0, 0)) (kb_ BK175.out) hb)
    have n8_ := Aside0.mk (blk_below (g := gb176) (o := .cells #[.slice A1_0 l1_0.length c1_0] 24 (0, 0)) (kb_ BK176.out) hb)
    have n9_ := Aside0.mk (blk_below (g := gb189) (o := .cells #[.slice Ao42 t185.length co42] 28 (0, 0)) (kb_ BK189.out) hb)
    have n10_ := Aside0.mk (blk_below (g := gb193) (o := .cells #[.slice Ao48 t213.length co48] 28 (0, 0)) (kb_ BK193.out) hb)
    have n11_ := Aside0.mk (blk_below (g := gb197) (o := .cells #[.slice Ao57 t215.length co57] 28 (0, 0)) (kb_ BK197.out) hb)
    have n12_ := Aside0.mk (blk_below (g := gb202) (o := .cells #[.slice Ao66 t198.length co66] 28 (0, 0)) (kb_ BK202.out) hb)
    have n13_ := Aside0.mk (blk_below (g := gb230) (o := .cells #[.slice none 0 0] 28 (0, 0)) (kb_ BK230.out) hb)
    have n14_ := Aside0.mk (below_step (by repeat (first | (with_reducible first | exact HB.out | apply below_alloc | apply pw_below_drewN | apply below_drew1 | refine below_set ?_ GE175.out | refine below_set ?_ GE176.out | refine below_set ?_ GE189.out | refine below_set ?_ GE193.out | refine below_set ?_ GE197.out | refine below_set ?_ GE202.out | refine below_set ?_ GE230.out) | exact HB.out)) hb)
    clear HO_190000
    clear HO_194000
    clear HO_198000
    clear HO_203000
    clear HO222
    clear HO225
    clear BK175
    clear BK176
    clear BK189
    clear BK193
    clear BK197
    clear BK202
    clear BK230
    clear HB
    have HO_190000 := n0_
    have HO_194000 := n1_
    have HO_198000 := n2_
    have HO_203000 := n3_
    have HO222 := n4_
    have HO225 := n5_
    have HO228 := n6_
    have BK175 := n7_
    have BK176 := n8_
    have BK189 := n9_
    have BK193 := n10_
    have BK197 := n11_
    have BK202 := n12_
    have BK230 := n13_
    have HB := n14_
    clear n0_ n1_ n2_ n3_ n4_ n5_ n6_ n7_ n8_ n9_ n10_ n11_ n12_ n13_ n14_
    (try clear hb)
    (try clear hb2)
    (try clear hk)
    (try clear hi)
    (try clear ho0)
    refine hK.out _ _ ⟨(blk_cell BK175.out 0).trans rfl, (blk_cell BK176.out 0).trans rfl⟩ (fun hHeld => ?_)
    clear hK K
    refine norm_ (a' := ?_) ?_ ?_
    rotate_left
    ·show Act.put _ (some 104) _ = _
     simp only [Act.put, List.setIfInBounds_toArray, List.set_cons_zero, List.set_cons_succ, i64_w, i32_w]
     rfl
    refine pure_ (i := 6) (N := some 98) (v := ?_) (a' := ?_) #[true, true, true, true, true, true, true, false, false, true, false, false] rfl rfl (any_of HT_.out (by kernel_rfl)) (fun _ _ _ h => h) (Or.inl ⟨by rfl, ?_⟩) ?_ ?_
    rotate_left
    ·intro w'
     go_simp
     with_reducible rfl
    rotate_left
    ·simp only [Act.put, List.setIfInBounds_toArray, List.set_cons_zero, List.set_cons_succ, i64_w, i32_w]
     rfl
    refine pure_ (i := 7) (N := some 105) (v := ?_) (a' := ?_) #[true, true, true, true, true, true, true, true, false, true, false, false] rfl rfl (any_of HT_.out (by kernel_rfl)) (fun _ _ _ h => h) (Or.inl ⟨by rfl, ?_⟩) ?_ ?_
    rotate_left
    ·intro w'
     go_simp
     with_reducible rfl
    rotate_left
    ·simp only [Act.put, List.setIfInBounds_toArray, List.set_cons_zero, List.set_cons_succ, i64_w, i32_w]
     rfl
    refine pure_ (i := 8) (N := some 106) (v := ?_) (a' := ?_) #[true, true, true, true, true, true, true, true, true, true, false, false] rfl rfl (any_of HT_.out (by kernel_rfl)) (fun _ _ _ h => h) (Or.inl ⟨by rfl, ?_⟩) ?_ ?_
    rotate_left
    ·intro w'
     go_simp
     with_reducible rfl
    rotate_left
    ·simp only [Act.put, List.setIfInBounds_toArray, List.set_cons_zero, List.set_cons_succ, i64_w, i32_w]
     rfl
    exact norm_ (by simp only [putAll, Act.put, List.setIfInBounds_toArray, List.set_cons_zero, List.set_cons_succ]) (hCont (.slice Ao155 t220.length co155, .slice Ao156 t223.length co156, v227, gb230) _ ⟨hHeld, (kr_ (Kd.R_mono HO222.out (fun _ hk => ⟨hk.1.2, ⟨hk.2, ⟨hk.1.1.1.1.1.2, ⟨hk.1.1.1.1.2, ⟨hk.1.1.1.2, hk.1.1.2⟩⟩⟩⟩⟩))), (kr_ (Kd.R_mono HO225.out (fun _ hk => ⟨hk.1.2, ⟨hk.2, ⟨hk.1.1.1.1.1.2, ⟨hk.1.1.1.1.2, ⟨hk.1.1.1.2, hk.1.1.2⟩⟩⟩⟩⟩))), (kr_ (Kd.R_mono HO228.out (fun _ hk => ⟨hk.1.2, ⟨hk.2, ⟨hk.1.1.1.1.1.2, ⟨hk.1.1.1.1.2, ⟨hk.1.1.1.2, hk.1.1.2⟩⟩⟩⟩⟩))), (kr_ (Kd.R_mono HO_190000.out (fun _ hk => ⟨hk.1.1.2, ⟨hk.1.2, ⟨hk.2, ⟨hk.1.1.1.1, ⟨hk.1.1.1.2.1, hk.1.1.1.2.2⟩⟩⟩⟩⟩))), (kr_ (Kd.R_mono HO_194000.out (fun _ hk => ⟨hk.1.1.2, ⟨hk.1.2, ⟨hk.2, ⟨hk.1.1.1.1, ⟨hk.1.1.1.2.1, hk.1.1.1.2.2⟩⟩⟩⟩⟩))), (kr_ (Kd.R_mono HO_198000.out (fun _ hk => ⟨hk.1.1.2, ⟨hk.1.2, ⟨hk.2, ⟨hk.1.1.1.1, ⟨hk.1.1.1.2.1, hk.1.1.1.2.2⟩⟩⟩⟩⟩))), (kr_ (Kd.R_mono HO_203000.out (fun _ hk => ⟨hk.1.1.2, ⟨hk.1.2, ⟨hk.2, ⟨hk.1.1.1.1, ⟨hk.1.1.1.2.1, hk.1.1.1.2.2⟩⟩⟩⟩⟩))), (kb_ BK175.out), (kb_ BK176.out), (kb_ BK189.out), (kb_ BK193.out), (kb_ BK197.out), (kb_ BK202.out), (kb_ BK230.out), GW230.out, GE230.out, NB175_230.out, NB230_175.out, NB176_230.out, NB230_176.out, NB189_230.out, NB230_189.out, NB193_230.out, NB230_193.out, NB197_230.out, NB230_197.out, NB202_230.out, NB230_202.out, (by repeat (first | (with_reducible first | exact HB.out | apply below_alloc | apply pw_below_drewN | apply below_drew1 | refine below_set ?_ GE175.out | refine below_set ?_ GE176.out | refine below_set ?_ GE189.out | refine below_set ?_ GE193.out | refine below_set ?_ GE197.out | refine below_set ?_ GE202.out | refine below_set ?_ GE230.out) | exact HB.out))⟩)
  ·skip
   refine box_step ?hg (N := 17) ?hd (cs := #[.slice none 0 0]) (t := 28) ?hr ?_; (case hd => rfl); (case hg => rfl); (case hr => first | (go_simp; done) | (go_simp; rfl))
   intro gb230 hg w152 hbox hb
   have n0_ := Aside0.mk (Kd.R_below (kr_ HO_190000.out) hb)
   have n1_ := Aside0.mk (Kd.R_below (kr_ HO_194000.out) hb)
   have n2_ := Aside0.mk (Kd.R_below (kr_ HO_198000.out) hb)
   have n3_ := Aside0.mk (Kd.R_below (kr_ HO_203000.out) hb)
   have n4_ := Aside0.mk (blk_below (g := gb175) (o := .cells #[.slice A0_0 l0_0.length c0_0] 24 (0, 0)) (kb_ BK175.out) hb)
   have n5_ := Aside0.mk (blk_below (g := gb176) (o := .cells #[.slice A1_0 l1_0.length c1_0] 24 (0, 0)) (kb_ BK176.out) hb)
   have n6_ := Aside0.mk (blk_below (g := gb189) (o := .cells #[.slice Ao42 t185.length co42] 28 (0, 0)) (kb_ BK189.out) hb)
   have n7_ := Aside0.mk (blk_below (g := gb193) (o := .cells #[.slice Ao48 t213.length co48] 28 (0, 0)) (kb_ BK193.out) hb)
   have n8_ := Aside0.mk (blk_below (g := gb197) (o := .cells #[.slice Ao57 t215.length co57] 28 (0, 0)) (kb_ BK197.out) hb)
   have n9_ := Aside0.mk (blk_below (g := gb202) (o := .cells #[.slice Ao66 t198.length co66] 28 (0, 0)) (kb_ BK202.out) hb)
   have n10_ := Aside0.mk (below_step (by repeat (first | (with_reducible first | exact HB.out | apply below_alloc | apply pw_below_drewN | apply below_drew1 | refine below_set ?_ GE175.out | refine below_set ?_ GE176.out | refine below_set ?_ GE189.out | refine below_set ?_ GE193.out | refine below_set ?_ GE197.out | refine below_set ?_ GE202.out) | exact HB.out)) hb)
   have n11_ := Aside0.mk (hbox)
   have n12_ := Aside0.mk ((by rw [hg]; exact (below_size (by repeat (first | (with_reducible first | exact HB.out | apply below_alloc | apply pw_below_drewN | apply below_drew1 | refine below_set ?_ GE175.out | refine below_set ?_ GE176.out | refine below_set ?_ GE189.out | refine below_set ?_ GE193.out | refine below_set ?_ GE197.out | refine below_set ?_ GE202.out) | exact HB.out))) : w.heap.size ≤ gb230))
   have n13_ := Aside0.mk ((by rw [hg]; exact (below_size (by repeat (first | (with_reducible first | exact HB.out | apply below_alloc | apply pw_below_drewN | apply below_drew1 | refine below_set ?_ GE175.out | refine below_set ?_ GE176.out | refine below_set ?_ GE189.out | refine below_set ?_ GE193.out | refine below_set ?_ GE197.out | refine below_set ?_ GE202.out) | exact HB.out))) : w.heap.size ≤ gb230))
   have n14_ := Aside0.mk ((by rw [hg]; exact Nat.ne_of_lt (blk_lt (g := gb175) (o := .cells #[.slice A0_0 l0_0.length c0_0] 24 (0, 0)) (kb_ BK175.out)) : gb175 ≠ gb230))
   have n15_ := Aside0.mk ((by rw [hg]; exact Nat.ne_of_gt (blk_lt (g := gb175) (o := .cells #[.slice A0_0 l0_0.length c0_0] 24 (0, 0)) (kb_ BK175.out)) : gb230 ≠ gb175))
   have n16_ := Aside0.mk ((by rw [hg]; exact Nat.ne_of_lt (blk_lt (g := gb176) (o := .cells #[.slice A1_0 l1_0.length c1_0] 24 (0, 0)) (kb_ BK176.out)) : gb176 ≠ gb230))
   have n17_ := Aside0.mk ((by rw [hg]; exact Nat.ne_of_gt (blk_lt (g := gb176) (o := .cells #[.slice A1_0 l1_0.length c1_0] 24 (0, 0)) (kb_ BK176.out)) : gb230 ≠ gb176))
   have n18_ := Aside0.mk ((by rw [hg]; exact Nat.ne_of_lt (blk_lt (g := gb189) (o := .cells #[.slice Ao42 t185.length co42] 28 (0, 0)) (kb_ BK189.out)) : gb189 ≠ gb230))
   have n19_ := Aside0.mk ((by rw [hg]; exact Nat.ne_of_gt (blk_lt (g := gb189) (o := .cells #[.slice Ao42 t185.length co42] 28 (0, 0)) (kb_ BK189.out)) : gb230 ≠ gb189))
   have n20_ := Aside0.mk ((by rw [hg]; exact Nat.ne_of_lt (blk_lt (g := gb193) (o := .cells #[.slice Ao48 t213.length co48] 28 (0, 0)) (kb_ BK193.out)) : gb193 ≠ gb230))
   have n21_ := Aside0.mk ((by rw [hg]; exact Nat.ne_of_gt (blk_lt (g := gb193) (o := .cells #[.slice Ao48 t213.length co48] 28 (0, 0)) (kb_ BK193.out)) : gb230 ≠ gb193))
   have n22_ := Aside0.mk ((by rw [hg]; exact Nat.ne_of_lt (blk_lt (g := gb197) (o := .cells #[.slice Ao57 t215.length co57] 28 (0, 0)) (kb_ BK197.out)) : gb197 ≠ gb230))
   have n23_ := Aside0.mk ((by rw [hg]; exact Nat.ne_of_gt (blk_lt (g := gb197) (o := .cells #[.slice Ao57 t215.length co57] 28 (0, 0)) (kb_ BK197.out)) : gb230 ≠ gb197))
   have n24_ := Aside0.mk ((by rw [hg]; exact Nat.ne_of_lt (blk_lt (g := gb202) (o := .cells #[.slice Ao66 t198.length co66] 28 (0, 0)) (kb_ BK202.out)) : gb202 ≠ gb230))
   have n25_ := Aside0.mk ((by rw [hg]; exact Nat.ne_of_gt (blk_lt (g := gb202) (o := .cells #[.slice Ao66 t198.length co66] 28 (0, 0)) (kb_ BK202.out)) : gb230 ≠ gb202))
   clear HO_190000
   clear HO_194000
   clear HO_198000
   clear HO_203000
   clear BK175
   clear BK176
   clear BK189
   clear BK193
   clear BK197
   clear BK202
   clear HB
   have HO_190000 := n0_
   have HO_194000 := n1_
   have HO_198000 := n2_
   have HO_203000 := n3_
   have BK175 := n4_
   have BK176 := n5_
   have BK189 := n6_
   have BK193 := n7_
   have BK197 := n8_
   have BK202 := n9_
   have HB := n10_
   have BK230 := n11_
   have GW230 := n12_
   have GE230 := n13_
   have NB175_230 := n14_
   have NB230_175 := n15_
   have NB176_230 := n16_
   have NB230_176 := n17_
   have NB189_230 := n18_
   have NB230_189 := n19_
   have NB193_230 := n20_
   have NB230_193 := n21_
   have NB197_230 := n22_
   have NB230_197 := n23_
   have NB202_230 := n24_
   have NB230_202 := n25_
   clear n0_ n1_ n2_ n3_ n4_ n5_ n6_ n7_ n8_ n9_ n10_ n11_ n12_ n13_ n14_ n15_ n16_ n17_ n18_ n19_ n20_ n21_ n22_ n23_ n24_ n25_
   clear hb hbox hg
   refine hK.out _ _ ⟨(blk_cell BK175.out 0).trans rfl, (blk_cell BK176.out 0).trans rfl⟩ (fun hHeld => ?_)
   clear hK K
   refine norm_ (a' := ?_) ?_ ?_
   rotate_left
   ·show Act.put _ (some 17) _ = _
    simp only [Act.put, List.setIfInBounds_toArray, List.set_cons_zero, List.set_cons_succ, i64_w, i32_w]
    rfl
   refine one_ (i := 1) (N := some 100) #[true, true, true, false, true, false, false, false, false, true, false, false] rfl rfl (one_of HT_.out (by kernel_rfl)) (by decide) (fun K hK => ?_)
   refine goes_ Try.func14 (by kernel_rfl) rfl #[.agg #[.slice A0_0 l0_0.length c0_0]] (by rfl) rfl rfl (by (try simp only [List.map_toArray, List.map_cons, List.map_nil]); first | done | rfl | (simp only [List.length_drop, List.length_take]; rfl)) ?_
   with_reducible refine (laws_toGroup.calls kj95 _ _ l0_0 t220 _ ?side1 ?side2 A138.out).mono ?_
   (case side1 => repeat (first | exact (Kd.C_below HR0_0.out HB.out) | (with_reducible refine Kd.C_alloc ?_ _) | (with_reducible refine Kd.C_drewN ?_ _) | (with_reducible refine Kd.C_drew ?_)))
   (case side2 => exact HC0_0.out)
   rintro e w153 ⟨v221, rfl, ho0, hb⟩
   refine ⟨_, rfl, ?_⟩
   have n0_ := Aside0.mk (Kd.R_elder' (kr_ HO_190000.out) (Kd.R_base ho0) hb)
   have n1_ := Aside0.mk (Kd.R_elder' (kr_ HO_194000.out) (Kd.R_base ho0) hb)
   have n2_ := Aside0.mk (Kd.R_elder' (kr_ HO_198000.out) (Kd.R_base ho0) hb)
   have n3_ := Aside0.mk (Kd.R_elder' (kr_ HO_203000.out) (Kd.R_base ho0) hb)
   have n4_ := Aside0.mk (Kd.R_lower (Kd.R_new' (Kd.R_new' (Kd.R_new' (Kd.R_new' ho0 (Kd.R_lt (kr_ HO_190000.out))) (Kd.R_lt (kr_ HO_194000.out))) (Kd.R_lt (kr_ HO_198000.out))) (Kd.R_lt (kr_ HO_203000.out))) (below_size (by repeat (first | (with_reducible first | exact HB.out | apply below_alloc | apply pw_below_drewN | apply below_drew1 | refine below_set ?_ GE175.out | refine below_set ?_ GE176.out | refine below_set ?_ GE189.out | refine below_set ?_ GE193.out | refine below_set ?_ GE197.out | refine below_set ?_ GE202.out | refine below_set ?_ GE230.out) | exact HB.out))))
   have n5_ := Aside0.mk (blk_below (g := gb175) (o := .cells #[.slice A0_0 l0_0.length c0_0] 24 (0, 0)) (kb_ BK175.out) hb)
   have n6_ := Aside0.mk (blk_below (g := gb176) (o := .cells #[.slice A1_0 l1_0.length c1_0] 24 (0, 0)) (kb_ BK176.out) hb)
   have n7_ := Aside0.mk (blk_below (g := gb189) (o := .cells #[.slice Ao42 t185.length co42] 28 (0, 0)) (kb_ BK189.out) hb)
   have n8_ := Aside0.mk (blk_below (g := gb193) (o := .cells #[.slice Ao48 t213.length co48] 28 (0, 0)) (kb_ BK193.out) hb)
   have n9_ := Aside0.mk (blk_below (g := gb197) (o := .cells #[.slice Ao57 t215.length co57] 28 (0, 0)) (kb_ BK197.out) hb)
   have n10_ := Aside0.mk (blk_below (g := gb202) (o := .cells #[.slice Ao66 t198.length co66] 28 (0, 0)) (kb_ BK202.out) hb)
   have n11_ := Aside0.mk (blk_below (g := gb230) (o := .cells #[.slice none 0 0] 28 (0, 0)) (kb_ BK230.out) hb)
   have n12_ := Aside0.mk (below_step (by repeat (first | (with_reducible first | exact HB.out | apply below_alloc | apply pw_below_drewN | apply below_drew1 | refine below_set ?_ GE175.out | refine below_set ?_ GE176.out | refine below_set ?_ GE189.out | refine below_set ?_ GE193.out | refine below_set ?_ GE197.out | refine below_set ?_ GE202.out | refine below_set ?_ GE230.out) | exact HB.out)) hb)
   clear HO_190000
   clear HO_194000
   clear HO_198000
   clear HO_203000
   clear BK175
   clear BK176
   clear BK189
   clear BK193
   clear BK197
   clear BK202
   clear BK230
   clear HB
   have HO_190000 := n0_
   have HO_194000 := n1_
   have HO_198000 := n2_
   have HO_203000 := n3_
   have HO222 := n4_
   have BK175 := n5_
   have BK176 := n6_
   have BK189 := n7_
   have BK193 := n8_
   have BK197 := n9_
   have BK202 := n10_
   have BK230 := n11_
   have HB := n12_
   clear n0_ n1_ n2_ n3_ n4_ n5_ n6_ n7_ n8_ n9_ n10_ n11_ n12_
   (try clear hb)
   (try clear hb2)
   (try clear hk)
   (try clear hi)
   (try clear ho0)
   refine hK.out _ _ ⟨(blk_cell BK175.out 0).trans rfl, (blk_cell BK176.out 0).trans rfl⟩ (fun hHeld => ?_)
   clear hK K
   refine norm_ (a' := ?_) ?_ ?_
   rotate_left
   ·show Act.put _ (some 100) _ = _
    simp only [Act.put, List.setIfInBounds_toArray, List.set_cons_zero, List.set_cons_succ, i64_w, i32_w]
    rfl
   refine one_ (i := 3) (N := some 102) #[true, true, true, true, true, false, false, false, false, true, false, false] rfl rfl (one_of HT_.out (by kernel_rfl)) (by decide) (fun K hK => ?_)
   refine goes_ Try.func14 (by kernel_rfl) rfl #[.agg #[.slice A1_0 l1_0.length c1_0]] (by rfl) rfl rfl (by (try simp only [List.map_toArray, List.map_cons, List.map_nil]); first | done | rfl | (simp only [List.length_drop, List.length_take]; rfl)) ?_
   with_reducible refine (laws_toGroup.calls kj95 _ _ l1_0 t223 _ ?side1 ?side2 A139.out).mono ?_
   (case side1 => repeat (first | exact (Kd.C_below HR1_0.out HB.out) | (with_reducible refine Kd.C_alloc ?_ _) | (with_reducible refine Kd.C_drewN ?_ _) | (with_reducible refine Kd.C_drew ?_)))
   (case side2 => exact HC1_0.out)
   rintro e w154 ⟨v224, rfl, ho0, hb⟩
   refine ⟨_, rfl, ?_⟩
   have n0_ := Aside0.mk (Kd.R_elder' (kr_ HO_190000.out) (Kd.R_base ho0) hb)
   have n1_ := Aside0.mk (Kd.R_elder' (kr_ HO_194000.out) (Kd.R_base ho0) hb)
   have n2_ := Aside0.mk (Kd.R_elder' (kr_ HO_198000.out) (Kd.R_base ho0) hb)
   have n3_ := Aside0.mk (Kd.R_elder' (kr_ HO_203000.out) (Kd.R_base ho0) hb)
   have n4_ := Aside0.mk (Kd.R_elder' (kr_ HO222.out) (Kd.R_base ho0) hb)
   have n5_ := Aside0.mk (Kd.R_lower (Kd.R_new' (Kd.R_new' (Kd.R_new' (Kd.R_new' (Kd.R_new' ho0 (Kd.R_lt (kr_ HO_190000.out))) (Kd.R_lt (kr_ HO_194000.out))) (Kd.R_lt (kr_ HO_198000.out))) (Kd.R_lt (kr_ HO_203000.out))) (Kd.R_lt (kr_ HO222.out))) (below_size (by repeat (first | (with_reducible first | exact HB.out | apply below_alloc | apply pw_below_drewN | apply below_drew1 | refine below_set ?_ GE175.out | refine below_set ?_ GE176.out | refine below_set ?_ GE189.out | refine below_set ?_ GE193.out | refine below_set ?_ GE197.out | refine below_set ?_ GE202.out | refine below_set ?_ GE230.out) | exact HB.out))))
   have n6_ := Aside0.mk (blk_below (g := gb175) (o := .cells #[.slice A0_0 l0_0.length c0_0] 24 (0, 0)) (kb_ BK175.out) hb)
   have n7_ := Aside0.mk (blk_below (g := gb176) (o := .cells #[.slice A1_0 l1_0.length c1_0] 24 (0, 0)) (kb_ BK176.out) hb)
   have n8_ := Aside0.mk (blk_below (g := gb189) (o := .cells #[.slice Ao42 t185.length co42] 28 (0, 0)) (kb_ BK189.out) hb)
   have n9_ := Aside0.mk (blk_below (g := gb193) (o := .cells #[.slice Ao48 t213.length co48] 28 (0, 0)) (kb_ BK193.out) hb)
   have n10_ := Aside0.mk (blk_below (g := gb197) (o := .cells #[.slice Ao57 t215.length co57] 28 (0, 0)) (kb_ BK197.out) hb)
   have n11_ := Aside0.mk (blk_below (g := gb202) (o := .cells #[.slice Ao66 t198.length co66] 28 (0, 0)) (kb_ BK202.out) hb)
   have n12_ := Aside0.mk (blk_below (g := gb230) (o := .cells #[.slice none 0 0] 28 (0, 0)) (kb_ BK230.out) hb)
   have n13_ := Aside0.mk (below_step (by repeat (first | (with_reducible first | exact HB.out | apply below_alloc | apply pw_below_drewN | apply below_drew1 | refine below_set ?_ GE175.out | refine below_set ?_ GE176.out | refine below_set ?_ GE189.out | refine below_set ?_ GE193.out | refine below_set ?_ GE197.out | refine below_set ?_ GE202.out | refine below_set ?_ GE230.out) | exact HB.out)) hb)
   clear HO_190000
   clear HO_194000
   clear HO_198000
   clear HO_203000
   clear HO222
   clear BK175
   clear BK176
   clear BK189
   clear BK193
   clear BK197
   clear BK202
   clear BK230
   clear HB
   have HO_190000 := n0_
   have HO_194000 := n1_
   have HO_198000 := n2_
   have HO_203000 := n3_
   have HO222 := n4_
   have HO225 := n5_
   have BK175 := n6_
   have BK176 := n7_
   have BK189 := n8_
   have BK193 := n9_
   have BK197 := n10_
   have BK202 := n11_
   have BK230 := n12_
   have HB := n13_
   clear n0_ n1_ n2_ n3_ n4_ n5_ n6_ n7_ n8_ n9_ n10_ n11_ n12_ n13_
   (try clear hb)
   (try clear hb2)
   (try clear hk)
   (try clear hi)
   (try clear ho0)
   obtain ⟨Ao155, co155, eo155⟩ := Kd.R_slice HO222.out
   (first | subst eo155 | (injection eo155 with f1_ f2_ f3_; have f4_ := f1_.symm; have f5_ := f3_.symm; clear f1_ f2_ f3_; subst f4_; subst f5_))
   obtain ⟨Ao156, co156, eo156⟩ := Kd.R_slice HO225.out
   (first | subst eo156 | (injection eo156 with f1_ f2_ f3_; have f4_ := f1_.symm; have f5_ := f3_.symm; clear f1_ f2_ f3_; subst f4_; subst f5_))
   refine hK.out _ _ ⟨(blk_cell BK175.out 0).trans rfl, (blk_cell BK176.out 0).trans rfl⟩ (fun hHeld => ?_)
   clear hK K
   refine norm_ (a' := ?_) ?_ ?_
   rotate_left
   ·show Act.put _ (some 102) _ = _
    simp only [Act.put, List.setIfInBounds_toArray, List.set_cons_zero, List.set_cons_succ, i64_w, i32_w]
    rfl
   refine one_ (i := 5) (N := some 104) #[true, true, true, true, true, true, false, false, false, true, false, false] rfl rfl (one_of HT_.out (by kernel_rfl)) (by decide) (fun K hK => ?_)
   refine goes_ Try.func30 (by kernel_rfl) rfl #[.agg #[.slice Ao155 t220.length co155], .agg #[.slice Ao156 t223.length co156], .int .i64 a2] (by rfl) rfl rfl (by (try simp only [List.map_toArray, List.map_cons, List.map_nil]); first | done | rfl | (simp only [List.length_drop, List.length_take]; rfl)) ?_
   with_reducible refine (impl_MeetOf.calls kj95 _ _ t220 _ _ t223 a2 t226 t229 _ ?side1 ?side2 ?side3 ?side4 A140.out).mono ?_
   (case side1 => repeat (first | exact (Kd.R_reads' HO222.out).2.2 | (with_reducible refine Kd.C_alloc ?_ _) | (with_reducible refine Kd.C_drewN ?_ _) | (with_reducible refine Kd.C_drew ?_)))
   (case side2 => exact (Kd.R_reads' HO222.out).2.1)
   (case side3 => repeat (first | exact (Kd.R_reads' HO225.out).2.2 | (with_reducible refine Kd.C_alloc ?_ _) | (with_reducible refine Kd.C_drewN ?_ _) | (with_reducible refine Kd.C_drew ?_)))
   (case side4 => exact (Kd.R_reads' HO225.out).2.1)
   rintro e w157 ⟨v227, rfl, ho0, hb⟩
   refine ⟨_, rfl, ?_⟩
   have n0_ := Aside0.mk (Kd.R_elder' (kr_ HO_190000.out) (Kd.R_base ho0) hb)
   have n1_ := Aside0.mk (Kd.R_elder' (kr_ HO_194000.out) (Kd.R_base ho0) hb)
   have n2_ := Aside0.mk (Kd.R_elder' (kr_ HO_198000.out) (Kd.R_base ho0) hb)
   have n3_ := Aside0.mk (Kd.R_elder' (kr_ HO_203000.out) (Kd.R_base ho0) hb)
   have n4_ := Aside0.mk (Kd.R_elder' (kr_ HO222.out) (Kd.R_base ho0) hb)
   have n5_ := Aside0.mk (Kd.R_elder' (kr_ HO225.out) (Kd.R_base ho0) hb)
   have n6_ := Aside0.mk (Kd.R_lower (Kd.R_new' (Kd.R_new' (Kd.R_new' (Kd.R_new' (Kd.R_new' (Kd.R_new' ho0 (Kd.R_lt (kr_ HO_190000.out))) (Kd.R_lt (kr_ HO_194000.out))) (Kd.R_lt (kr_ HO_198000.out))) (Kd.R_lt (kr_ HO_203000.out))) (Kd.R_lt (kr_ HO222.out))) (Kd.R_lt (kr_ HO225.out))) (below_size (by repeat (first | (with_reducible first | exact HB.out | apply below_alloc | apply pw_below_drewN | apply below_drew1 | refine below_set ?_ GE175.out | refine below_set ?_ GE176.out | refine below_set ?_ GE189.out | refine below_set ?_ GE193.out | refine below_set ?_ GE197.out | refine below_set ?_ GE202.out | refine below_set ?_ GE230.out) | exact HB.out))))
   have n7_ := Aside0.mk (blk_below (g := gb175) (o := .cells #[.slice A0_0 l0_0.length c0_0] 24 (0, 0)) (kb_ BK175.out) hb)
   have n8_ := Aside0.mk (blk_below (g := gb176) (o := .cells #[.slice A1_0 l1_0.length c1_0] 24 (0, 0)) (kb_ BK176.out) hb)
   have n9_ := Aside0.mk (blk_below (g := gb189) (o := .cells #[.slice Ao42 t185.length co42] 28 (0, 0)) (kb_ BK189.out) hb)
   have n10_ := Aside0.mk (blk_below (g := gb193) (o := .cells #[.slice Ao48 t213.length co48] 28 (0, 0)) (kb_ BK193.out) hb)
   have n11_ := Aside0.mk (blk_below (g := gb197) (o := .cells #[.slice Ao57 t215.length co57] 28 (0, 0)) (kb_ BK197.out) hb)
   have n12_ := Aside0.mk (blk_below (g := gb202) (o := .cells #[.slice Ao66 t198.length co66] 28 (0, 0)) (kb_ BK202.out) hb)
   have n13_ := Aside0.mk (blk_below (g := gb230) (o := .cells #[.slice none 0 0] 28 (0, 0)) (kb_ BK230.out) hb)
   have n14_ := Aside0.mk (below_step (by repeat (first | (with_reducible first | exact HB.out | apply below_alloc | apply pw_below_drewN | apply below_drew1 | refine below_set ?_ GE175.out | refine below_set ?_ GE176.out | refine below_set ?_ GE189.out | refine below_set ?_ GE193.out | refine below_set ?_ GE197.out | refine below_set ?_ GE202.out | refine below_set ?_ GE230.out) | exact HB.out)) hb)
   clear HO_190000
   clear HO_194000
   clear HO_198000
   clear HO_203000
   clear HO222
   clear HO225
   clear BK175
   clear BK176
   clear BK189
   clear BK193
   clear BK197
   clear BK202
   clear BK230
   clear HB
   have HO_190000 := n0_
   have HO_194000 := n1_
   have HO_198000 := n2_
   have HO_203000 := n3_
   have HO222 := n4_
   have HO225 := n5_
   have HO228 := n6_
   have BK175 := n7_
   have BK176 := n8_
   have BK189 := n9_
   have BK193 := n10_
   have BK197 := n11_
   have BK202 := n12_
   have BK230 := n13_
   have HB := n14_
   clear n0_ n1_ n2_ n3_ n4_ n5_ n6_ n7_ n8_ n9_ n10_ n11_ n12_ n13_ n14_
   (try clear hb)
   (try clear hb2)
   (try clear hk)
   (try clear hi)
   (try clear ho0)
   refine hK.out _ _ ⟨(blk_cell BK175.out 0).trans rfl, (blk_cell BK176.out 0).trans rfl⟩ (fun hHeld => ?_)
   clear hK K
   refine norm_ (a' := ?_) ?_ ?_
   rotate_left
   ·show Act.put _ (some 104) _ = _
    simp only [Act.put, List.setIfInBounds_toArray, List.set_cons_zero, List.set_cons_succ, i64_w, i32_w]
    rfl
   refine pure_ (i := 6) (N := some 98) (v := ?_) (a' := ?_) #[true, true, true, true, true, true, true, false, false, true, false, false] rfl rfl (any_of HT_.out (by kernel_rfl)) (fun _ _ _ h => h) (Or.inl ⟨by rfl, ?_⟩) ?_ ?_
   rotate_left
   ·intro w'
    go_simp
    with_reducible rfl
   rotate_left
   ·simp only [Act.put, List.setIfInBounds_toArray, List.set_cons_zero, List.set_cons_succ, i64_w, i32_w]
    rfl
   refine pure_ (i := 7) (N := some 105) (v := ?_) (a' := ?_) #[true, true, true, true, true, true, true, true, false, true, false, false] rfl rfl (any_of HT_.out (by kernel_rfl)) (fun _ _ _ h => h) (Or.inl ⟨by rfl, ?_⟩) ?_ ?_
   rotate_left
   ·intro w'
    go_simp
    with_reducible rfl
   rotate_left
   ·simp only [Act.put, List.setIfInBounds_toArray, List.set_cons_zero, List.set_cons_succ, i64_w, i32_w]
    rfl
   refine pure_ (i := 8) (N := some 106) (v := ?_) (a' := ?_) #[true, true, true, true, true, true, true, true, true, true, false, false] rfl rfl (any_of HT_.out (by kernel_rfl)) (fun _ _ _ h => h) (Or.inl ⟨by rfl, ?_⟩) ?_ ?_
   rotate_left
   ·intro w'
    go_simp
    with_reducible rfl
   rotate_left
   ·simp only [Act.put, List.setIfInBounds_toArray, List.set_cons_zero, List.set_cons_succ, i64_w, i32_w]
    rfl
   exact norm_ (by simp only [putAll, Act.put, List.setIfInBounds_toArray, List.set_cons_zero, List.set_cons_succ]) (hCont (.slice Ao155 t220.length co155, .slice Ao156 t223.length co156, v227, gb230) _ ⟨hHeld, (kr_ (Kd.R_mono HO222.out (fun _ hk => ⟨hk.1.2, ⟨hk.2, ⟨hk.1.1.1.1.1.2, ⟨hk.1.1.1.1.2, ⟨hk.1.1.1.2, hk.1.1.2⟩⟩⟩⟩⟩))), (kr_ (Kd.R_mono HO225.out (fun _ hk => ⟨hk.1.2, ⟨hk.2, ⟨hk.1.1.1.1.1.2, ⟨hk.1.1.1.1.2, ⟨hk.1.1.1.2, hk.1.1.2⟩⟩⟩⟩⟩))), (kr_ (Kd.R_mono HO228.out (fun _ hk => ⟨hk.1.2, ⟨hk.2, ⟨hk.1.1.1.1.1.2, ⟨hk.1.1.1.1.2, ⟨hk.1.1.1.2, hk.1.1.2⟩⟩⟩⟩⟩))), (kr_ (Kd.R_mono HO_190000.out (fun _ hk => ⟨hk.1.1.2, ⟨hk.1.2, ⟨hk.2, ⟨hk.1.1.1.1, ⟨hk.1.1.1.2.1, hk.1.1.1.2.2⟩⟩⟩⟩⟩))), (kr_ (Kd.R_mono HO_194000.out (fun _ hk => ⟨hk.1.1.2, ⟨hk.1.2, ⟨hk.2, ⟨hk.1.1.1.1, ⟨hk.1.1.1.2.1, hk.1.1.1.2.2⟩⟩⟩⟩⟩))), (kr_ (Kd.R_mono HO_198000.out (fun _ hk => ⟨hk.1.1.2, ⟨hk.1.2, ⟨hk.2, ⟨hk.1.1.1.1, ⟨hk.1.1.1.2.1, hk.1.1.1.2.2⟩⟩⟩⟩⟩))), (kr_ (Kd.R_mono HO_203000.out (fun _ hk => ⟨hk.1.1.2, ⟨hk.1.2, ⟨hk.2, ⟨hk.1.1.1.1, ⟨hk.1.1.1.2.1, hk.1.1.1.2.2⟩⟩⟩⟩⟩))), (kb_ BK175.out), (kb_ BK176.out), (kb_ BK189.out), (kb_ BK193.out), (kb_ BK197.out), (kb_ BK202.out), (kb_ BK230.out), GW230.out, GE230.out, NB175_230.out, NB230_175.out, NB176_230.out, NB230_176.out, NB189_230.out, NB230_189.out, NB193_230.out, NB230_193.out, NB197_230.out, NB230_197.out, NB202_230.out, NB230_202.out, (by repeat (first | (with_reducible first | exact HB.out | apply below_alloc | apply pw_below_drewN | apply below_drew1 | refine below_set ?_ GE175.out | refine below_set ?_ GE176.out | refine below_set ?_ GE189.out | refine below_set ?_ GE193.out | refine below_set ?_ GE197.out | refine below_set ?_ GE202.out | refine below_set ?_ GE230.out) | exact HB.out))⟩)
 rintro ⟨v221, v224, v227, gb230⟩ w158 ⟨hS_, h0_, h1_, h2_, h3_, h4_, h5_, h6_, h7_, h8_, h9_, h10_, h11_, h12_, h13_, h14_, h15_, h16_, h17_, h18_, h19_, h20_, h21_, h22_, h23_, h24_, h25_, h26_, h27_, h28_⟩
 have n0_ : Aside0 (Kd.R (Kd.int .i64) 3 w158 w.heap.size (fun k_ => some k_ ≠ (v224 : Value).ownBlock ∧ some k_ ≠ (v227 : Value).ownBlock ∧ some k_ ≠ (.slice Ao42 t185.length co42 : Value).ownBlock ∧ some k_ ≠ (.slice Ao48 t213.length co48 : Value).ownBlock ∧ some k_ ≠ (.slice Ao57 t215.length co57 : Value).ownBlock ∧ some k_ ≠ (.slice Ao66 t198.length co66 : Value).ownBlock) v221 t220) := ⟨h0_⟩
 have n1_ : Aside0 (Kd.R (Kd.int .i64) 3 w158 w.heap.size (fun k_ => some k_ ≠ (v221 : Value).ownBlock ∧ some k_ ≠ (v227 : Value).ownBlock ∧ some k_ ≠ (.slice Ao42 t185.length co42 : Value).ownBlock ∧ some k_ ≠ (.slice Ao48 t213.length co48 : Value).ownBlock ∧ some k_ ≠ (.slice Ao57 t215.length co57 : Value).ownBlock ∧ some k_ ≠ (.slice Ao66 t198.length co66 : Value).ownBlock) v224 t223) := ⟨h1_⟩
 have n2_ : Aside0 (Kd.R (Kd.int .i64) 3 w158 w.heap.size (fun k_ => some k_ ≠ (v221 : Value).ownBlock ∧ some k_ ≠ (v224 : Value).ownBlock ∧ some k_ ≠ (.slice Ao42 t185.length co42 : Value).ownBlock ∧ some k_ ≠ (.slice Ao48 t213.length co48 : Value).ownBlock ∧ some k_ ≠ (.slice Ao57 t215.length co57 : Value).ownBlock ∧ some k_ ≠ (.slice Ao66 t198.length co66 : Value).ownBlock) v227 t226) := ⟨h2_⟩
 have n3_ : Aside0 (Kd.R (Kd.int .i64) 3 w158 w.heap.size (fun k_ => some k_ ≠ (v221 : Value).ownBlock ∧ some k_ ≠ (v224 : Value).ownBlock ∧ some k_ ≠ (v227 : Value).ownBlock ∧ some k_ ≠ (.slice Ao48 t213.length co48 : Value).ownBlock ∧ some k_ ≠ (.slice Ao57 t215.length co57 : Value).ownBlock ∧ some k_ ≠ (.slice Ao66 t198.length co66 : Value).ownBlock) (.slice Ao42 t185.length co42) t185) := ⟨h3_⟩
 have n4_ : Aside0 (Kd.R (Kd.int .i64) 3 w158 w.heap.size (fun k_ => some k_ ≠ (v221 : Value).ownBlock ∧ some k_ ≠ (v224 : Value).ownBlock ∧ some k_ ≠ (v227 : Value).ownBlock ∧ some k_ ≠ (.slice Ao42 t185.length co42 : Value).ownBlock ∧ some k_ ≠ (.slice Ao57 t215.length co57 : Value).ownBlock ∧ some k_ ≠ (.slice Ao66 t198.length co66 : Value).ownBlock) (.slice Ao48 t213.length co48) t213) := ⟨h4_⟩
 have n5_ : Aside0 (Kd.R (Kd.int .i64) 3 w158 w.heap.size (fun k_ => some k_ ≠ (v221 : Value).ownBlock ∧ some k_ ≠ (v224 : Value).ownBlock ∧ some k_ ≠ (v227 : Value).ownBlock ∧ some k_ ≠ (.slice Ao42 t185.length co42 : Value).ownBlock ∧ some k_ ≠ (.slice Ao48 t213.length co48 : Value).ownBlock ∧ some k_ ≠ (.slice Ao66 t198.length co66 : Value).ownBlock) (.slice Ao57 t215.length co57) t215) := ⟨h5_⟩
 have n6_ : Aside0 (Kd.R (Kd.int .i64) 3 w158 w.heap.size (fun k_ => some k_ ≠ (v221 : Value).ownBlock ∧ some k_ ≠ (v224 : Value).ownBlock ∧ some k_ ≠ (v227 : Value).ownBlock ∧ some k_ ≠ (.slice Ao42 t185.length co42 : Value).ownBlock ∧ some k_ ≠ (.slice Ao48 t213.length co48 : Value).ownBlock ∧ some k_ ≠ (.slice Ao57 t215.length co57 : Value).ownBlock) (.slice Ao66 t198.length co66) t218) := ⟨h6_⟩
 have n7_ : Aside0 (w158.heap[gb175]? = some (.cells #[.slice A0_0 l0_0.length c0_0] 24 (0, 0))) := ⟨h7_⟩
 have n8_ : Aside0 (w158.heap[gb176]? = some (.cells #[.slice A1_0 l1_0.length c1_0] 24 (0, 0))) := ⟨h8_⟩
 have n9_ : Aside0 (w158.heap[gb189]? = some (.cells #[.slice Ao42 t185.length co42] 28 (0, 0))) := ⟨h9_⟩
 have n10_ : Aside0 (w158.heap[gb193]? = some (.cells #[.slice Ao48 t213.length co48] 28 (0, 0))) := ⟨h10_⟩
 have n11_ : Aside0 (w158.heap[gb197]? = some (.cells #[.slice Ao57 t215.length co57] 28 (0, 0))) := ⟨h11_⟩
 have n12_ : Aside0 (w158.heap[gb202]? = some (.cells #[.slice Ao66 t198.length co66] 28 (0, 0))) := ⟨h12_⟩
 have n13_ : Aside0 (w158.heap[gb230]? = some (.cells #[.slice none 0 0] 28 (0, 0))) := ⟨h13_⟩
 have n14_ : Aside0 (w.heap.size ≤ gb230) := ⟨h14_⟩
 have n15_ : Aside0 (w.heap.size ≤ gb230) := ⟨h15_⟩
 have n16_ : Aside0 (gb175 ≠ gb230) := ⟨h16_⟩
 have n17_ : Aside0 (gb230 ≠ gb175) := ⟨h17_⟩
 have n18_ : Aside0 (gb176 ≠ gb230) := ⟨h18_⟩
 have n19_ : Aside0 (gb230 ≠ gb176) := ⟨h19_⟩
 have n20_ : Aside0 (gb189 ≠ gb230) := ⟨h20_⟩
 have n21_ : Aside0 (gb230 ≠ gb189) := ⟨h21_⟩
 have n22_ : Aside0 (gb193 ≠ gb230) := ⟨h22_⟩
 have n23_ : Aside0 (gb230 ≠ gb193) := ⟨h23_⟩
 have n24_ : Aside0 (gb197 ≠ gb230) := ⟨h24_⟩
 have n25_ : Aside0 (gb230 ≠ gb197) := ⟨h25_⟩
 have n26_ : Aside0 (gb202 ≠ gb230) := ⟨h26_⟩
 have n27_ : Aside0 (gb230 ≠ gb202) := ⟨h27_⟩
 have n28_ : Aside0 (Below w.heap.size w w158) := ⟨h28_⟩
 clear HO_190000
 clear HO_194000
 clear HO_198000
 clear HO_203000
 clear BK175
 clear BK176
 clear BK189
 clear BK193
 clear BK197
 clear BK202
 clear HB
 clear h0_ h1_ h2_ h3_ h4_ h5_ h6_ h7_ h8_ h9_ h10_ h11_ h12_ h13_ h14_ h15_ h16_ h17_ h18_ h19_ h20_ h21_ h22_ h23_ h24_ h25_ h26_ h27_ h28_
 have HO222 := n0_
 have HO225 := n1_
 have HO228 := n2_
 have HO_190000 := n3_
 have HO_194000 := n4_
 have HO_198000 := n5_
 have HO_203000 := n6_
 have BK175 := n7_
 have BK176 := n8_
 have BK189 := n9_
 have BK193 := n10_
 have BK197 := n11_
 have BK202 := n12_
 have BK230 := n13_
 have GW230 := n14_
 have GE230 := n15_
 have NB175_230 := n16_
 have NB230_175 := n17_
 have NB176_230 := n18_
 have NB230_176 := n19_
 have NB189_230 := n20_
 have NB230_189 := n21_
 have NB193_230 := n22_
 have NB230_193 := n23_
 have NB197_230 := n24_
 have NB230_197 := n25_
 have NB202_230 := n26_
 have NB230_202 := n27_
 have HB := n28_
 clear n0_ n1_ n2_ n3_ n4_ n5_ n6_ n7_ n8_ n9_ n10_ n11_ n12_ n13_ n14_ n15_ n16_ n17_ n18_ n19_ n20_ n21_ n22_ n23_ n24_ n25_ n26_ n27_ n28_
 have hHeld : w158.cell? ⟨gb175, 0, none⟩ = some (.slice A0_0 l0_0.length c0_0) ∧ w158.cell? ⟨gb176, 0, none⟩ = some (.slice A1_0 l1_0.length c1_0) := hS_
 obtain ⟨Ao159, co159, eo159⟩ := Kd.R_slice HO228.out
 (first | subst eo159 | (injection eo159 with f1_ f2_ f3_; have f4_ := f1_.symm; have f5_ := f3_.symm; clear f1_ f2_ f3_; subst f4_; subst f5_))
 refine norm_ (a' := ?_) ?_ ?_
 rotate_left
 ·simp only [putAll, Act.put, List.setIfInBounds_toArray, List.set_cons_zero, List.set_cons_succ]
  rfl
 refine one_ (i := 10) (N := none) #[true, true, true, true, true, true, true, true, true, true, true, false] rfl rfl (one_of HT_.out (by kernel_rfl)) (by decide) (fun K hK => ?_)
 have hs160 : w158.cell? ⟨gb230, 0, none⟩ = some (.slice none 0 0) := (blk_cell BK230.out 0).trans rfl
 have hfs160 := blk_frozen BK230.out 0
 have hns160_0 := NB175_230.out
 have hns160_1 := NB176_230.out
 have hns160_2 := NB189_230.out
 have hns160_3 := NB193_230.out
 have hns160_4 := NB197_230.out
 have hns160_5 := NB202_230.out
 have hms160_0 := NB230_175.out
 have hms160_1 := NB230_176.out
 have hms160_2 := NB230_189.out
 have hms160_3 := NB230_193.out
 have hms160_4 := NB230_197.out
 have hms160_5 := NB230_202.out
 refine skip_ (w1 := ?_) (by rfl) rfl ?_ ?_
 rotate_left
 ·go_simp
  rfl
 refine hK.out _ _ ⟨((cell_far (p := ⟨gb230, _, none⟩) NB175_230.out _).trans (hHeld.1)), ((cell_far (p := ⟨gb230, _, none⟩) NB176_230.out _).trans (hHeld.2))⟩ (fun hHeld => ?_)
 clear hK K
 refine pure_ (i := 11) (N := some 18) (v := ?_) (a' := ?_) #[true, true, true, true, true, true, true, true, true, true, true, true] rfl rfl (any_of HT_.out (by kernel_rfl)) (fun _ _ _ h => h) (Or.inl ⟨by rfl, ?_⟩) ?_ ?_
 rotate_left
 ·intro w'
  go_simp
  with_reducible rfl
 rotate_left
 ·simp only [Act.put, List.setIfInBounds_toArray, List.set_cons_zero, List.set_cons_succ, i64_w, i32_w]
  rfl
 refine done_ (done_of HT_.out (by kernel_rfl)) ?_
 go_upto_region 32 with (fail)
 go_cut [115] (fun v115 wc => ∃ (kq : Nat) (x115_140 : Bool), v115 = .bool x115_140 ∧ Aside0 (laws_FnExactMeetOf.j2 kq t217 x115_140 t218 = some r) ∧ Aside0 (kq ≤ kj95) ∧ Aside0 (Kd.R (Kd.int .i64) 3 wc w.heap.size (fun k_ => some k_ ≠ ((.slice Ao48 t213.length co48) : Value).ownBlock ∧ some k_ ≠ ((.slice Ao57 t215.length co57) : Value).ownBlock ∧ some k_ ≠ ((.slice Ao66 t198.length co66) : Value).ownBlock ∧ some k_ ≠ ((.slice Ao159 t226.length co159) : Value).ownBlock) (.slice Ao42 t185.length co42) t185) ∧ Aside0 (Kd.R (Kd.int .i64) 3 wc w.heap.size (fun k_ => some k_ ≠ ((.slice Ao42 t185.length co42) : Value).ownBlock ∧ some k_ ≠ ((.slice Ao57 t215.length co57) : Value).ownBlock ∧ some k_ ≠ ((.slice Ao66 t198.length co66) : Value).ownBlock ∧ some k_ ≠ ((.slice Ao159 t226.length co159) : Value).ownBlock) (.slice Ao48 t213.length co48) t213) ∧ Aside0 (Kd.R (Kd.int .i64) 3 wc w.heap.size (fun k_ => some k_ ≠ ((.slice Ao42 t185.length co42) : Value).ownBlock ∧ some k_ ≠ ((.slice Ao48 t213.length co48) : Value).ownBlock ∧ some k_ ≠ ((.slice Ao66 t198.length co66) : Value).ownBlock ∧ some k_ ≠ ((.slice Ao159 t226.length co159) : Value).ownBlock) (.slice Ao57 t215.length co57) t215) ∧ Aside0 (Kd.R (Kd.int .i64) 3 wc w.heap.size (fun k_ => some k_ ≠ ((.slice Ao42 t185.length co42) : Value).ownBlock ∧ some k_ ≠ ((.slice Ao48 t213.length co48) : Value).ownBlock ∧ some k_ ≠ ((.slice Ao57 t215.length co57) : Value).ownBlock ∧ some k_ ≠ ((.slice Ao159 t226.length co159) : Value).ownBlock) (.slice Ao66 t198.length co66) t218) ∧ Aside0 (Kd.R (Kd.int .i64) 3 wc w.heap.size (fun k_ => some k_ ≠ ((.slice Ao42 t185.length co42) : Value).ownBlock ∧ some k_ ≠ ((.slice Ao48 t213.length co48) : Value).ownBlock ∧ some k_ ≠ ((.slice Ao57 t215.length co57) : Value).ownBlock ∧ some k_ ≠ ((.slice Ao66 t198.length co66) : Value).ownBlock) (.slice Ao159 t226.length co159) t226) ∧ Aside0 (wc.heap[gb175]? = some (.cells #[(.slice A0_0 l0_0.length c0_0)] 24 (0, 0))) ∧ Aside0 (wc.heap[gb176]? = some (.cells #[(.slice A1_0 l1_0.length c1_0)] 24 (0, 0))) ∧ Aside0 (wc.heap[gb189]? = some (.cells #[(.slice Ao42 t185.length co42)] 28 (0, 0))) ∧ Aside0 (wc.heap[gb193]? = some (.cells #[(.slice Ao48 t213.length co48)] 28 (0, 0))) ∧ Aside0 (wc.heap[gb197]? = some (.cells #[(.slice Ao57 t215.length co57)] 28 (0, 0))) ∧ Aside0 (wc.heap[gb202]? = some (.cells #[(.slice Ao66 t198.length co66)] 28 (0, 0))) ∧ Aside0 (wc.heap[gb230]? = some (.cells #[(.slice Ao159 t226.length co159)] 28 (0, 0))) ∧ Aside0 (Below w.heap.size w wc))
 case first =>
  have H := HC141.out
  clear HC141
  replace H := Option.bind_eq_some_iff.mp H
  obtain ⟨t231, A1610, H⟩ := H
  replace H : (if t231 = true then (laws_FnExactMeetOf.j2 kj95 t217 (t229 != t188) t218) else (none)) = some r := H
  have A161 := Aside0.mk A1610
  clear A1610
  by_cases c162 : t231 = true
  rotate_left
  ·replace c162 := Bool.eq_false_iff.mpr c162
   subst c162
   have H1 : (none) = some r := by rw [if_neg (show ¬ (false = true) by decide)] at H; exact H
   clear H
   have H := H1
   clear H1
   exact absurd H (by simp)
  subst c162
  have H1 : (laws_FnExactMeetOf.j2 kj95 t217 (t229 != t188) t218) = some r := by rw [if_pos rfl] at H; exact H
  clear H
  have H := H1
  clear H1
  have H' := Aside0.mk H
  clear H
  have hnb163 := NB230_175.out
  have hnc163 := NB175_230.out
  have hnb164 := NB230_176.out
  have hnc164 := NB176_230.out
  have hnb165 := NB230_189.out
  have hnc165 := NB189_230.out
  have hnb166 := NB230_193.out
  have hnc166 := NB193_230.out
  have hnb167 := NB230_197.out
  have hnc167 := NB197_230.out
  have hnb168 := NB230_202.out
  have hnc168 := NB202_230.out
  have hcz169_0 : w158.cell? ⟨gb230, 0, none⟩ = some (.slice none 0 0) := (blk_cell BK230.out 0).trans rfl
  have hfz169_0 := blk_frozen BK230.out 0
  have hnb170 := NB189_175.out
  have hnc170 := NB175_189.out
  have hnb171 := NB189_176.out
  have hnc171 := NB176_189.out
  have hnb172 := NB189_193.out
  have hnc172 := NB193_189.out
  have hnb173 := NB189_197.out
  have hnc173 := NB197_189.out
  have hnb174 := NB189_202.out
  have hnc174 := NB202_189.out
  have hcz175_0 : w158.cell? ⟨gb189, 0, none⟩ = some (.slice Ao42 t185.length co42) := (blk_cell BK189.out 0).trans rfl
  have hfz175_0 := blk_frozen BK189.out 0
  go_wp2_with (first | ((with_reducible refine gate_callee (f := 16) rfl ?_); refine goesL_ (some 109) rfl rfl Try.func16 (by kernel_rfl) rfl #[.agg #[.slice Ao159 t226.length co159], .agg #[.slice Ao42 t185.length co42]] rfl (by (try simp only [List.map_toArray, List.map_cons, List.map_nil]); first | done | rfl | (simp only [List.length_drop, List.length_take]; rfl)) ?_; (with_reducible refine (laws_eqGroup.calls kj95 _ _ t226 _ _ t185 true _ ?side1 ?side2 ?side3 ?side4 A161.out).mono ?_); (case side1 => refine (Kd.R_reads' (e := 3) (base := w.heap.size) (ok := fun k_ => (some k_ ≠ (v221 : Value).ownBlock ∧ (some k_ ≠ (v224 : Value).ownBlock ∧ (some k_ ≠ (.slice Ao42 t185.length co42 : Value).ownBlock ∧ (some k_ ≠ (.slice Ao48 t213.length co48 : Value).ownBlock ∧ (some k_ ≠ (.slice Ao57 t215.length co57 : Value).ownBlock ∧ some k_ ≠ (.slice Ao66 t198.length co66 : Value).ownBlock)))))) (n := t226.length) (c := co159) ?_).2.2; exact (kr_ ((Kd.R_mono (Kd.R_far (p := ⟨gb230, 0, none⟩) (Kd.R_types HO228.out BK230.out (by decide)) (fun _ hk => hk.2) (.slice Ao159 t226.length co159)) (fun _ h_ => h_.1))))); (case side2 => exact (Kd.R_reads' HO228.out).2.1); (case side3 => refine (Kd.R_reads' (e := 3) (base := w.heap.size) (ok := fun k_ => (some k_ ≠ (v221 : Value).ownBlock ∧ (some k_ ≠ (v224 : Value).ownBlock ∧ (some k_ ≠ (.slice Ao159 t226.length co159 : Value).ownBlock ∧ (some k_ ≠ (.slice Ao48 t213.length co48 : Value).ownBlock ∧ (some k_ ≠ (.slice Ao57 t215.length co57 : Value).ownBlock ∧ some k_ ≠ (.slice Ao66 t198.length co66 : Value).ownBlock)))))) (n := t185.length) (c := co42) ?_).2.2; exact (kr_ ((Kd.R_mono (Kd.R_far (p := ⟨gb230, 0, none⟩) (Kd.R_types HO_190000.out BK230.out (by decide)) (fun _ hk => hk.2) (.slice Ao159 t226.length co159)) (fun _ h_ => h_.1))))); (case side4 => exact (Kd.R_reads' HO_190000.out).2.1); rintro e w176 ⟨rfl, hb⟩; refine ⟨_, rfl, ?_⟩; have n0_ := Aside0.mk (Kd.R_below (kr_ ((Kd.R_mono (Kd.R_far (p := ⟨gb230, 0, none⟩) (Kd.R_types HO_190000.out BK230.out (by decide)) (fun _ hk => hk.2) (.slice Ao159 t226.length co159)) (fun _ h_ => h_.1)))) hb); have n1_ := Aside0.mk (Kd.R_below (kr_ ((Kd.R_mono (Kd.R_far (p := ⟨gb230, 0, none⟩) (Kd.R_types HO_194000.out BK230.out (by decide)) (fun _ hk => hk.2) (.slice Ao159 t226.length co159)) (fun _ h_ => h_.1)))) hb); have n2_ := Aside0.mk (Kd.R_below (kr_ ((Kd.R_mono (Kd.R_far (p := ⟨gb230, 0, none⟩) (Kd.R_types HO_198000.out BK230.out (by decide)) (fun _ hk => hk.2) (.slice Ao159 t226.length co159)) (fun _ h_ => h_.1)))) hb); have n3_ := Aside0.mk (Kd.R_below (kr_ ((Kd.R_mono (Kd.R_far (p := ⟨gb230, 0, none⟩) (Kd.R_types HO_203000.out BK230.out (by decide)) (fun _ hk => hk.2) (.slice Ao159 t226.length co159)) (fun _ h_ => h_.1)))) hb); have n4_ := Aside0.mk (Kd.R_below (kr_ ((Kd.R_mono (Kd.R_far (p := ⟨gb230, 0, none⟩) (Kd.R_types HO222.out BK230.out (by decide)) (fun _ hk => hk.2) (.slice Ao159 t226.length co159)) (fun _ h_ => h_.1)))) hb); have n5_ := Aside0.mk (Kd.R_below (kr_ ((Kd.R_mono (Kd.R_far (p := ⟨gb230, 0, none⟩) (Kd.R_types HO225.out BK230.out (by decide)) (fun _ hk => hk.2) (.slice Ao159 t226.length co159)) (fun _ h_ => h_.1)))) hb); have n6_ := Aside0.mk (Kd.R_below (kr_ ((Kd.R_mono (Kd.R_far (p := ⟨gb230, 0, none⟩) (Kd.R_types HO228.out BK230.out (by decide)) (fun _ hk => hk.2) (.slice Ao159 t226.length co159)) (fun _ h_ => h_.1)))) hb); have n7_ := Aside0.mk (blk_below (g := gb175) (o := .cells #[.slice A0_0 l0_0.length c0_0] 24 (0, 0)) (by (with_reducible repeat (first | refine blk_drewN ?_ _ | refine blk_drew ?_ | refine blk_alloc ?_ _)); refine blk_far ?_ NB175_230.out _; exact kb_ BK175.out) hb); have n8_ := Aside0.mk (blk_below (g := gb176) (o := .cells #[.slice A1_0 l1_0.length c1_0] 24 (0, 0)) (by (with_reducible repeat (first | refine blk_drewN ?_ _ | refine blk_drew ?_ | refine blk_alloc ?_ _)); refine blk_far ?_ NB176_230.out _; exact kb_ BK176.out) hb); have n9_ := Aside0.mk (blk_below (g := gb189) (o := .cells #[.slice Ao42 t185.length co42] 28 (0, 0)) (by (with_reducible repeat (first | refine blk_drewN ?_ _ | refine blk_drew ?_ | refine blk_alloc ?_ _)); refine blk_far ?_ NB189_230.out _; exact kb_ BK189.out) hb); have n10_ := Aside0.mk (blk_below (g := gb193) (o := .cells #[.slice Ao48 t213.length co48] 28 (0, 0)) (by (with_reducible repeat (first | refine blk_drewN ?_ _ | refine blk_drew ?_ | refine blk_alloc ?_ _)); refine blk_far ?_ NB193_230.out _; exact kb_ BK193.out) hb); have n11_ := Aside0.mk (blk_below (g := gb197) (o := .cells #[.slice Ao57 t215.length co57] 28 (0, 0)) (by (with_reducible repeat (first | refine blk_drewN ?_ _ | refine blk_drew ?_ | refine blk_alloc ?_ _)); refine blk_far ?_ NB197_230.out _; exact kb_ BK197.out) hb); have n12_ := Aside0.mk (blk_below (g := gb202) (o := .cells #[.slice Ao66 t198.length co66] 28 (0, 0)) (by (with_reducible repeat (first | refine blk_drewN ?_ _ | refine blk_drew ?_ | refine blk_alloc ?_ _)); refine blk_far ?_ NB202_230.out _; exact kb_ BK202.out) hb); have n13_ := Aside0.mk (blk_below (g := gb230) (o := .cells #[.slice Ao159 t226.length co159] 28 (0, 0)) (by (with_reducible repeat (first | refine blk_drewN ?_ _ | refine blk_drew ?_ | refine blk_alloc ?_ _)); refine blk_put (cs := #[.slice none 0 0]) ?_ 0 _ rfl; exact kb_ BK230.out) hb); have n14_ := Aside0.mk (below_step (by repeat (first | (with_reducible first | exact HB.out | apply below_alloc | apply pw_below_drewN | apply below_drew1 | refine below_set ?_ GE175.out | refine below_set ?_ GE176.out | refine below_set ?_ GE189.out | refine below_set ?_ GE193.out | refine below_set ?_ GE197.out | refine below_set ?_ GE202.out | refine below_set ?_ GE230.out) | exact HB.out)) hb); clear HO_190000; clear HO_194000; clear HO_198000; clear HO_203000; clear HO222; clear HO225; clear HO228; clear BK175; clear BK176; clear BK189; clear BK193; clear BK197; clear BK202; clear BK230; clear HB; have HO_190000 := n0_; have HO_194000 := n1_; have HO_198000 := n2_; have HO_203000 := n3_; have HO222 := n4_; have HO225 := n5_; have HO228 := n6_; have BK175 := n7_; have BK176 := n8_; have BK189 := n9_; have BK193 := n10_; have BK197 := n11_; have BK202 := n12_; have BK230 := n13_; have HB := n14_; clear n0_ n1_ n2_ n3_ n4_ n5_ n6_ n7_ n8_ n9_ n10_ n11_ n12_ n13_ n14_; (try clear hb); (try clear hb2); (try clear hk); (try clear hi)))
  go_meet
  case rel => exact ⟨_, ((t229 != t188)), (by first | rfl | (simp; done) | (simp [*]; done)), H', ⟨by have := HJ25.out; have := HJ95.out; first | omega | exact Nat.le_refl _⟩, ⟨by (try simp only [hl194000_95]); (try simp only [hl198000_95]); exact kr_ (Kd.R_mono HO_190000.out (fun _ hk => ⟨hk.2.2.2.1, ⟨hk.2.2.2.2.1, ⟨hk.2.2.2.2.2, hk.2.2.1⟩⟩⟩))⟩, ⟨by (try simp only [hl194000_95]); (try simp only [hl198000_95]); exact kr_ (Kd.R_mono HO_194000.out (fun _ hk => ⟨hk.2.2.2.1, ⟨hk.2.2.2.2.1, ⟨hk.2.2.2.2.2, hk.2.2.1⟩⟩⟩))⟩, ⟨by (try simp only [hl194000_95]); (try simp only [hl198000_95]); exact kr_ (Kd.R_mono HO_198000.out (fun _ hk => ⟨hk.2.2.2.1, ⟨hk.2.2.2.2.1, ⟨hk.2.2.2.2.2, hk.2.2.1⟩⟩⟩))⟩, ⟨by (try simp only [hl194000_95]); (try simp only [hl198000_95]); exact kr_ (Kd.R_mono HO_203000.out (fun _ hk => ⟨hk.2.2.2.1, ⟨hk.2.2.2.2.1, ⟨hk.2.2.2.2.2, hk.2.2.1⟩⟩⟩))⟩, ⟨by (try simp only [hl194000_95]); (try simp only [hl198000_95]); exact kr_ (Kd.R_mono HO228.out (fun _ hk => ⟨hk.2.2.1, ⟨hk.2.2.2.1, ⟨hk.2.2.2.2.1, hk.2.2.2.2.2⟩⟩⟩))⟩, ⟨by (try simp only [hl194000_95]); (try simp only [hl198000_95]); exact kb_ BK175.out⟩, ⟨by (try simp only [hl194000_95]); (try simp only [hl198000_95]); exact kb_ BK176.out⟩, ⟨by (try simp only [hl194000_95]); (try simp only [hl198000_95]); exact kb_ BK189.out⟩, ⟨by (try simp only [hl194000_95]); (try simp only [hl198000_95]); exact kb_ BK193.out⟩, ⟨by (try simp only [hl194000_95]); (try simp only [hl198000_95]); exact kb_ BK197.out⟩, ⟨by (try simp only [hl194000_95]); (try simp only [hl198000_95]); exact kb_ BK202.out⟩, ⟨by (try simp only [hl194000_95]); (try simp only [hl198000_95]); exact kb_ BK230.out⟩, ⟨by repeat (first | (with_reducible first | exact HB.out | apply below_alloc | apply pw_below_drewN | apply below_drew1 | refine below_set ?_ GE175.out | refine below_set ?_ GE176.out | refine below_set ?_ GE189.out | refine below_set ?_ GE193.out | refine below_set ?_ GE197.out | refine below_set ?_ GE202.out | refine below_set ?_ GE230.out) | exact HB.out)⟩⟩
 clear HC141
 try clear c1
 try clear p2
 try clear c3
 try clear c14
 try clear c16
 try clear c17
 try clear c30
 try clear c162
 try clear c163
 try clear c164
 try clear c165
 try clear c166
 try clear c167
 try clear c168
 try clear c170
 try clear c171
 try clear c172
 try clear c173
 try clear c174
 try clear hcz169_0
 try clear hcz175_0
 try clear hfz169_0
 try clear hfz175_0
 obtain ⟨kq, x115_140, rfl, HA, HJ140, HO_190000, HO_194000, HO_198000, HO_203000, HO_231000, BK175, BK176, BK189, BK193, BK197, BK202, BK230, HB⟩ := hcut
 have hl203000_140 := (Kd.R_reads' HO_203000.out).1
 rw [hl203000_140] at HO_203000
 (try simp only [hl203000_140])
 (try simp only [hl203000_140] at BK175)
 (try simp only [hl203000_140] at BK176)
 (try simp only [hl203000_140] at BK189)
 (try simp only [hl203000_140] at BK193)
 (try simp only [hl203000_140] at BK197)
 (try simp only [hl203000_140] at BK202)
 (try simp only [hl203000_140] at BK230)
 (try simp only [hl203000_140] at HO_190000)
 (try simp only [hl203000_140] at HO_194000)
 (try simp only [hl203000_140] at HO_198000)
 (try simp only [hl203000_140] at HO_231000)
 cases kq with
 | zero => exact absurd HA.out (by simp [laws_FnExactMeetOf.j2])
 | succ kj140 => ?_
 have H := HA.out
 clear HA
 simp only [laws_FnExactMeetOf.j2] at H
 by_cases c177 : x115_140 = true
 ·subst c177
  have H1 : (none) = some r := by rw [if_pos rfl] at H; exact H
  clear H
  have H := H1
  clear H1
  exact absurd H (by simp)
 replace c177 := Bool.eq_false_iff.mpr c177
 subst c177
 have H1 : ((laws_heldGroup.f kj140 t218 1).bind fun t232 => (if t232 < 0 then (none) else (if t232 = t217 then (some true) else (none)))) = some r := by rw [if_neg (show ¬ (false = true) by decide)] at H; exact H
 clear H
 have H := H1
 clear H1
 replace H := Option.bind_eq_some_iff.mp H
 obtain ⟨t232, A1780, H⟩ := H
 replace H : (if t232 < 0 then (none) else (if t232 = t217 then (some true) else (none))) = some r := H
 have A178 := Aside0.mk A1780
 clear A1780
 by_cases c179 : t232 < 0
 ·rw [if_pos c179] at H
  exact absurd H (by simp)
 rw [if_neg c179] at H
 have c179b0 : decide (t232 < 0) = false := decide_eq_false c179
 clear c179
 by_cases c180 : t232 = t217
 rotate_left
 ·rw [if_neg c180] at H
  exact absurd H (by simp)
 rw [if_pos c180] at H
 have c180b0 : (t232 == t217) = true := beq_iff_eq.mpr c180
 have c180b1 : (t232 != t217) = false := bne_eq_false_iff_eq.mpr c180
 clear c180
 obtain rfl := Option.some.inj H
 have hnb181 := NB202_175.out
 have hnc181 := NB175_202.out
 have hnb182 := NB202_176.out
 have hnc182 := NB176_202.out
 have hnb183 := NB202_189.out
 have hnc183 := NB189_202.out
 have hnb184 := NB202_193.out
 have hnc184 := NB193_202.out
 have hnb185 := NB202_197.out
 have hnc185 := NB197_202.out
 have hnb186 := NB202_230.out
 have hnc186 := NB230_202.out
 have hcz187_0 : wc.cell? ⟨gb202, 0, none⟩ = some (.slice Ao66 t218.length co66) := (blk_cell BK202.out 0).trans rfl
 have hfz187_0 := blk_frozen BK202.out 0
 go_wp2_with (first | ((with_reducible refine gate_callee (f := 33) rfl ?_); refine goesL_ (some 118) rfl rfl Try.func33 (by kernel_rfl) rfl #[.agg #[.slice Ao66 t218.length co66], .int .i64 1] rfl (by (try simp only [List.map_toArray, List.map_cons, List.map_nil]); first | done | rfl | (simp only [List.length_drop, List.length_take]; rfl)) ?_; (with_reducible refine (laws_heldGroup.calls kj140 _ _ t218 1 t232 _ ?side1 ?side2 A178.out).mono ?_); (case side1 => repeat (first | exact (Kd.R_reads' HO_203000.out).2.2 | (with_reducible refine Kd.C_alloc ?_ _) | (with_reducible refine Kd.C_drewN ?_ _) | (with_reducible refine Kd.C_drew ?_))); (case side2 => exact (Kd.R_reads' HO_203000.out).2.1); rintro e w188 ⟨rfl, hb⟩; refine ⟨_, rfl, ?_⟩; have n0_ := Aside0.mk (Kd.R_below (kr_ HO_190000.out) hb); have n1_ := Aside0.mk (Kd.R_below (kr_ HO_194000.out) hb); have n2_ := Aside0.mk (Kd.R_below (kr_ HO_198000.out) hb); have n3_ := Aside0.mk (Kd.R_below (kr_ HO_203000.out) hb); have n4_ := Aside0.mk (Kd.R_below (kr_ HO_231000.out) hb); have n5_ := Aside0.mk (blk_below (g := gb175) (o := .cells #[.slice A0_0 l0_0.length c0_0] 24 (0, 0)) (kb_ BK175.out) hb); have n6_ := Aside0.mk (blk_below (g := gb176) (o := .cells #[.slice A1_0 l1_0.length c1_0] 24 (0, 0)) (kb_ BK176.out) hb); have n7_ := Aside0.mk (blk_below (g := gb189) (o := .cells #[.slice Ao42 t185.length co42] 28 (0, 0)) (kb_ BK189.out) hb); have n8_ := Aside0.mk (blk_below (g := gb193) (o := .cells #[.slice Ao48 t213.length co48] 28 (0, 0)) (kb_ BK193.out) hb); have n9_ := Aside0.mk (blk_below (g := gb197) (o := .cells #[.slice Ao57 t215.length co57] 28 (0, 0)) (kb_ BK197.out) hb); have n10_ := Aside0.mk (blk_below (g := gb202) (o := .cells #[.slice Ao66 t218.length co66] 28 (0, 0)) (kb_ BK202.out) hb); have n11_ := Aside0.mk (blk_below (g := gb230) (o := .cells #[.slice Ao159 t226.length co159] 28 (0, 0)) (kb_ BK230.out) hb); have n12_ := Aside0.mk (below_step (by repeat (first | (with_reducible first | exact HB.out | apply below_alloc | apply pw_below_drewN | apply below_drew1 | refine below_set ?_ GE175.out | refine below_set ?_ GE176.out | refine below_set ?_ GE189.out | refine below_set ?_ GE193.out | refine below_set ?_ GE197.out | refine below_set ?_ GE202.out | refine below_set ?_ GE230.out) | exact HB.out)) hb); clear HO_190000; clear HO_194000; clear HO_198000; clear HO_203000; clear HO_231000; clear BK175; clear BK176; clear BK189; clear BK193; clear BK197; clear BK202; clear BK230; clear HB; have HO_190000 := n0_; have HO_194000 := n1_; have HO_198000 := n2_; have HO_203000 := n3_; have HO_231000 := n4_; have BK175 := n5_; have BK176 := n6_; have BK189 := n7_; have BK193 := n8_; have BK197 := n9_; have BK202 := n10_; have BK230 := n11_; have HB := n12_; clear n0_ n1_ n2_ n3_ n4_ n5_ n6_ n7_ n8_ n9_ n10_ n11_ n12_; (try clear hb); (try clear hb2); (try clear hk); (try clear hi)))
 go_ret
 exact ⟨by first | rfl | (simp [errW_none, errW_some] <;> rfl) | (simp [*, errW_none, errW_some] <;> rfl), by repeat (first | (with_reducible first | exact HB.out | apply below_alloc | apply pw_below_drewN | apply below_drew1 | refine below_set ?_ GE175.out | refine below_set ?_ GE176.out | refine below_set ?_ GE189.out | refine below_set ?_ GE193.out | refine below_set ?_ GE197.out | refine below_set ?_ GE202.out | refine below_set ?_ GE230.out) | exact HB.out)⟩

end Go.Proofs.Ythbollaceiffpaa.PMT
