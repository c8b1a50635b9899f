/- What this text proves: the machine calls of these functions return what the plain functions say. Conditions: as each theorem says. Printed by a program of this session out of the translation. -/
import Derived.Test.YtcloilddgimamaaPFCx0
import Derived.Test.YtcloilddgimamaaPFCx4
import Derived.Test.YtcloilddgimamaaPFCx6
namespace Go.Proofs.Ytcloilddgimamaa.PFC
open Go.RowKit Go.Proofs.YtcloilddgimamaaW.PrintWords Go.Proofs.YtcloilddgimamaaW.PrintLast Go.Proofs.YtcloilddgimamaaW.PrintMore
attribute [local go_sem] max2_int min2_int max_two min_two max_three min_three max_four min_four   -- for this text's walks alone
set_option linter.unusedVariables false
set_option linter.unusedSimpArgs false

/-! ### spec_l1Cur_counter: function 49 -/
def spec_l1Cur_counter.l0 : Nat → Int → List Int → Int → Int → List Int → List Int → Option (List Int × List Int × Int × Int)
 | 0, _, _, _, _, _, _ => none
 | k + 1, x4, x1000, x1001, x1002, x220000, x220001 => if x4 > 0 then ((spec_l1Cur_pick.f x1000 x1001 x1002 6).bind fun bt223 => ((spec_l1Cur_pick.f x1000 bt223.2.1 bt223.2.2 40).bind fun bt226 => ((spec_CountBy.f k x220000 x220001 bt223.1 (wrap64 (bt226.1 - 15))).bind fun bt229 => (if bt229.2.2 = true then (spec_l1Cur_counter.l0 k (wrap64 (x4 - 1)) x1000 bt226.2.1 bt226.2.2 bt229.1 bt229.2.1) else (spec_l1Cur_counter.l0 k (wrap64 (x4 - 1)) x1000 bt226.2.1 bt226.2.2 x220000 x220001))))) else ((spec_l1Cur_pick.f x1000 x1001 x1002 40).bind fun bt237 => (if bt237.1 = 0 then ((spec_l1Cur_among.f x1000 bt237.2.1 bt237.2.2 (([(-1), 1000000, 1000001] : List Int))).bind fun bt243 => (if 0 < (x220000.length : Int) then (some ((x220000.set (0 : Int).toNat bt243.1), x220001, bt243.2.1, bt243.2.2)) else (none))) else (if bt237.1 = 1 then (if 1 ≤ (x220001.length : Int) then (some (x220000, (x220001.drop (1 : Int).toNat), bt237.2.1, bt237.2.2)) else (none)) else (some (x220000, x220001, bt237.2.1, bt237.2.2)))))
def spec_l1Cur_counter.f (k : Nat) (s0_0 : List Int) (s0_1 : Int) (s0_2 : Int) : Option (List Int × List Int × Int × Int) := if 6 ≤ 35184372088832 then ((spec_l1Cur_pick.f s0_0 s0_1 s0_2 6).bind fun bt220 => (spec_l1Cur_counter.l0 k bt220.1 s0_0 bt220.2.1 bt220.2.2 (List.replicate 6 0) (List.replicate 6 0))) else (none)
theorem spec_l1Cur_counter.mono_l : ∀ k, (∀ y0 y1 y2 y3 y4 y5, LeO (spec_l1Cur_counter.l0 k y0 y1 y2 y3 y4 y5) (spec_l1Cur_counter.l0 (k + 1) y0 y1 y2 y3 y4 y5))
 | 0 => fun _ _ _ _ _ _ r h => by simp [spec_l1Cur_counter.l0] at h
 | k + 1 => by
  have ih0 := spec_l1Cur_counter.mono_l k
  ·intro y0 y1 y2 y3 y4 y5
   unfold spec_l1Cur_counter.l0
   repeat' first
   | (with_reducible exact ih0 _ _ _ _ _ _)
   | (with_reducible exact spec_CountBy.mono _ _ _ _ _)
   | (with_reducible exact LeO.refl _)
   | (with_reducible exact LeO.none _)
   | (with_reducible refine LeO.ite ?_ ?_)
   | (with_reducible refine LeO.bind ?_ (fun _ => ?_))
   | exact ih0 _ _ _ _ _ _
   | exact spec_CountBy.mono _ _ _ _ _
   | exact LeO.none _
   | refine LeO.ite ?_ ?_
   | refine LeO.bind ?_ (fun _ => ?_)
theorem spec_l1Cur_counter.mono : ∀ a0 a1 a2 k, LeO (spec_l1Cur_counter.f k a0 a1 a2) (spec_l1Cur_counter.f (k + 1) a0 a1 a2) := by
 intro a0 a1 a2 k
 have ih0 := spec_l1Cur_counter.mono_l k
 unfold spec_l1Cur_counter.f
 repeat' first
   | (with_reducible exact ih0 _ _ _ _ _ _)
   | (with_reducible exact spec_CountBy.mono _ _ _ _ _)
   | (with_reducible exact LeO.refl _)
   | (with_reducible exact LeO.none _)
   | (with_reducible refine LeO.ite ?_ ?_)
   | (with_reducible refine LeO.bind ?_ (fun _ => ?_))
   | exact ih0 _ _ _ _ _ _
   | exact spec_CountBy.mono _ _ _ _ _
   | exact LeO.none _
   | refine LeO.ite ?_ ?_
   | refine LeO.bind ?_ (fun _ => ?_)
def spec_l1Cur_counter.T5 : Bool × List (List Nat × List Nat) := (true, [([], []), ([], []), ([1], [1]), ([], []), ([3, 2], [3]), ([4], [4]), ([0, 2, 5, 4], [0, 2, 5]), ([6], [6]), ([7], [7]), ([7], [7]), ([], []), ([10, 8, 6, 0, 1, 2, 3, 4, 5, 6, 7, 8, 10], [8, 10]), ([9, 11, 0, 1, 2, 3, 4, 5, 6, 7, 8, 9, 10, 11], [9])])
def spec_l1Cur_counter.B5 : List Nat := [0, 0, 2, 0, 14, 30, 63, 127, 255, 255, 0, 1535, 4095]
theorem spec_l1Cur_counter.tab5 : rtab .any (opsOf Try.f49 5) = spec_l1Cur_counter.T5 := by kernel_rfl
theorem spec_l1Cur_counter.bits5 : waitsOk spec_l1Cur_counter.T5.2 spec_l1Cur_counter.B5 = true := by kernel_rfl
set_option maxHeartbeats 8000000 in
set_option maxRecDepth 100000 in
theorem spec_l1Cur_counter.calls (k : Nat) (g : Nat) (s0_0 : List Int) (s0_1 : Int) (s0_2 : Int) (r1 : List Int) (r2 : List Int) (r3 : Int) (r4 : Int) (w0 w : World) (hI : IsS67 w0 w g s0_0 s0_1 s0_2) (hB : Below w0.heap.size w0 w) (h : spec_l1Cur_counter.f k s0_0 s0_1 s0_2 = some (r1, r2, r3, r4)) :
  Calls Try.prog 49 #[.pointer (some ⟨g, 0, none⟩)] w fun e w' => ∃ v0_ v1_ : Value, e = .returned (.agg #[v0_, v1_]) ∧ Kd.R (Kd.int .i64) 3 w' w.heap.size (fun k_ => some k_ ≠ (v1_ : Value).ownBlock) v0_ r1 ∧ Kd.Q (Kd.int .i64) 3 w' w.heap.size (fun k_ => some k_ ≠ (v0_ : Value).ownBlock) v1_ r2 ∧ IsS67 w0 w' g s0_0 r3 r4 ∧ Below w0.heap.size w0 w' ∧ KeepBut w w' g none := by
 have hu27 := Try.underlying27
 have HI0 := Aside0.mk hI
 have HK := Aside0.mk (KeepBut.refl w g none)
 have HL := Aside0.mk hB.size
 clear hI
 have HW0 := Aside0.mk hB.size
 have HB := Aside0.mk hB
 clear hB
 have H : (if 6 ≤ 35184372088832 then ((spec_l1Cur_pick.f s0_0 s0_1 s0_2 6).bind fun bt220 => (spec_l1Cur_counter.l0 k bt220.1 s0_0 bt220.2.1 bt220.2.2 (List.replicate 6 0) (List.replicate 6 0))) else (none)) = some (r1, r2, r3, r4) := h
 clear h
 by_cases c2 : 6 ≤ 35184372088832
 rotate_left
 ·rw [if_neg c2] at H
  exact absurd H (by simp)
 rw [if_pos c2] at H
 have c2b0 := eq_true c2
 have c2b1 : decide (6 ≤ 35184372088832) = true := decide_eq_true c2
 clear c2
 obtain ⟨y213, hy213⟩ : ∃ y_ : List Int, y_ = (List.replicate 6 0) := ⟨_, rfl⟩
 replace H : ((spec_l1Cur_pick.f s0_0 s0_1 s0_2 6).bind fun bt220 => (spec_l1Cur_counter.l0 k bt220.1 s0_0 bt220.2.1 bt220.2.2 y213 (List.replicate 6 0))) = some (r1, r2, r3, r4) := by first | (rw [hy213]; with_reducible exact H) | (have H2_ := (Option.bind_some _ _).symm.trans H; rw [hy213]; with_reducible exact H2_) | (have H2_ := (Option.bind_some _ _).symm.trans H; with_reducible exact H2_) | with_reducible exact H | (rw [hy213]; exact H) | exact H
 have Ny213 := Aside0.mk hy213
 clear hy213
 obtain ⟨y216, hy216⟩ : ∃ y_ : List Int, y_ = (List.replicate 6 0) := ⟨_, rfl⟩
 replace H : ((spec_l1Cur_pick.f s0_0 s0_1 s0_2 6).bind fun bt220 => (spec_l1Cur_counter.l0 k bt220.1 s0_0 bt220.2.1 bt220.2.2 y213 y216)) = some (r1, r2, r3, r4) := by first | (rw [hy216]; with_reducible exact H) | (have H2_ := (Option.bind_some _ _).symm.trans H; rw [hy216]; with_reducible exact H2_) | (have H2_ := (Option.bind_some _ _).symm.trans H; with_reducible exact H2_) | with_reducible exact H | (rw [hy216]; exact H) | exact H
 have Ny216 := Aside0.mk hy216
 clear hy216
 replace H := Option.bind_eq_some_iff.mp H
 obtain ⟨⟨t220, t221, t222⟩, A30, H⟩ := H
 replace H : (spec_l1Cur_counter.l0 k t220 s0_0 t221 t222 y213 y216) = some (r1, r2, r3, r4) := H
 have A3 := Aside0.mk A30
 clear A30
 have H' := Aside0.mk H
 clear H
 go_enter Try.func49, Try.ntmps49
 try go_wp2_with (first | ((with_reducible refine gate_dst (N := 2) rfl ?_); refine box_event rfl (N := 2) rfl (cs := #[.slice none 0 0, .slice none 0 0]) (t := 27) gs_ ?_; intro gb212 hg w4 hbox hb; replace HB := Aside0.mk (below_step (by repeat (first | (with_reducible first | exact HB.out | apply below_alloc | apply pw_below_drewN | apply below_drew1 | refine below_set ?_ (IsS67.ge HI0.out)) | exact HB.out)) hb); have BK212 := Aside0.mk (hbox); have GW212 := Aside0.mk ((by rw [hg]; exact (keep_size (w := w) (g := g) (row := none) (by repeat (first | (with_reducible first | exact HK.out | apply KeepBut.set_ | apply keep_drewN | apply keep_drew | apply keep_alloc) | exact HK.out))) : w.heap.size ≤ gb212)); have GE212 := Aside0.mk ((Nat.le_trans HW0.out (by rw [hg]; exact (keep_size (w := w) (g := g) (row := none) (by repeat (first | (with_reducible first | exact HK.out | apply KeepBut.set_ | apply keep_drewN | apply keep_drew | apply keep_alloc) | exact HK.out))) : w.heap.size ≤ gb212) : w0.heap.size ≤ gb212)); replace HK := Aside0.mk (KeepBut.trans (by repeat (first | (with_reducible first | exact HK.out | apply KeepBut.set_ | apply keep_drewN | apply keep_drew | apply keep_alloc) | exact HK.out)) (KeepBut.of_below hb g none) (.inl rfl)); have NB0_212 := Aside0.mk ((by rw [hg]; exact Nat.ne_of_lt (IsS67.lt (show IsS67 w0 _ g s0_0 s0_1 s0_2 from by repeat (first | (with_reducible first | exact HI0.out | apply IsS67.alloc | apply IsS67.drewN | apply IsS67.drew | apply IsS67.set_1 | apply IsS67.set_2) | exact HI0.out))) : g ≠ gb212)); have NB212_0 := Aside0.mk ((by rw [hg]; exact Nat.ne_of_gt (IsS67.lt (show IsS67 w0 _ g s0_0 s0_1 s0_2 from by repeat (first | (with_reducible first | exact HI0.out | apply IsS67.alloc | apply IsS67.drewN | apply IsS67.drew | apply IsS67.set_1 | apply IsS67.set_2) | exact HI0.out))) : gb212 ≠ g)); replace HI0 := Aside0.mk (IsS67.below (by repeat (first | (with_reducible first | exact HI0.out | apply IsS67.alloc | apply IsS67.drewN | apply IsS67.drew | apply IsS67.set_1 | apply IsS67.set_2) | exact HI0.out)) hb); clear hb hbox hg))
 replace BK212 := Aside0.mk (blk_drew BK212.out)
 replace HI0 := Aside0.mk (IsS67.drew HI0.out)
 replace HK := Aside0.mk (keep_drew HK.out)
 replace HB := Aside0.mk (below_drew1 HB.out)
 refine start_ (n := 5) (S := fun w' => True) (ds := []) #[false, false, false, false, false] (by kernel_rfl) rfl rfl trivial (fun hHeld => ?_)
 generalize w4.drew = w5 at BK212 HI0 HK HB hHeld ⊢
 refine join_ (σ := Value × Value × Nat) 1 #[true, true, true, true, false] (fun s_ => [(7, s_.1), (8, s_.2.1), (3, .pointer (some ⟨s_.2.2, 0, none⟩)), (9, .agg #[s_.1, s_.2.1])]) (fun s_ w' => (Kd.R (Kd.int .i64) 3 w' w.heap.size (fun k_ => some k_ ≠ (s_.2.1 : Value).ownBlock) s_.1 y213) ∧ (Kd.R (Kd.int .i64) 3 w' w.heap.size (fun k_ => some k_ ≠ (s_.1 : Value).ownBlock) s_.2.1 y216) ∧ (w'.heap[gb212]? = some (.cells #[.slice none 0 0, .slice none 0 0] 27 (0, 0))) ∧ (w'.heap[s_.2.2]? = some (.cells #[.slice none 0 0, .slice none 0 0] 27 (0, 0))) ∧ (w.heap.size ≤ s_.2.2) ∧ (w0.heap.size ≤ s_.2.2) ∧ (g ≠ s_.2.2) ∧ (s_.2.2 ≠ g) ∧ (gb212 ≠ s_.2.2) ∧ (s_.2.2 ≠ gb212) ∧ (IsS67 w0 w' g s0_0 s0_1 s0_2) ∧ (KeepBut w w' g none) ∧ (Below w0.heap.size w0 w')) ?_ ?_
 rotate_left
 ·intro hJ0_1_3
  refine join_ (σ := Value × Value) 2 #[true, true, true, false, false] (fun s_ => [(7, s_.1), (8, s_.2), (9, .agg #[s_.1, s_.2])]) (fun s_ w' => (Kd.R (Kd.int .i64) 3 w' w.heap.size (fun k_ => some k_ ≠ (s_.2 : Value).ownBlock) s_.1 y213) ∧ (Kd.R (Kd.int .i64) 3 w' w.heap.size (fun k_ => some k_ ≠ (s_.1 : Value).ownBlock) s_.2 y216) ∧ (w'.heap[gb212]? = some (.cells #[.slice none 0 0, .slice none 0 0] 27 (0, 0))) ∧ (IsS67 w0 w' g s0_0 s0_1 s0_2) ∧ (KeepBut w w' g none) ∧ (Below w0.heap.size w0 w')) ?_ ?_
  rotate_left
  ·intro hJ0_1
   refine join_ (σ := Value × Nat) 3 #[true, false, false, true, false] (fun s_ => [(7, s_.1), (3, .pointer (some ⟨s_.2, 0, none⟩))]) (fun s_ w' => (Kd.R (Kd.int .i64) 3 w' w.heap.size (fun _ => True) s_.1 y213) ∧ (w'.heap[gb212]? = some (.cells #[.slice none 0 0, .slice none 0 0] 27 (0, 0))) ∧ (w'.heap[s_.2]? = some (.cells #[.slice none 0 0, .slice none 0 0] 27 (0, 0))) ∧ (w.heap.size ≤ s_.2) ∧ (w0.heap.size ≤ s_.2) ∧ (g ≠ s_.2) ∧ (s_.2 ≠ g) ∧ (gb212 ≠ s_.2) ∧ (s_.2 ≠ gb212) ∧ (IsS67 w0 w' g s0_0 s0_1 s0_2) ∧ (KeepBut w w' g none) ∧ (Below w0.heap.size w0 w')) ?_ ?_
   rotate_left
   ·intro hJ0_3
    refine join_ (σ := Value × Nat) 3 #[false, true, false, true, false] (fun s_ => [(8, s_.1), (3, .pointer (some ⟨s_.2, 0, none⟩))]) (fun s_ w' => (Kd.R (Kd.int .i64) 3 w' w.heap.size (fun _ => True) s_.1 y216) ∧ (w'.heap[gb212]? = some (.cells #[.slice none 0 0, .slice none 0 0] 27 (0, 0))) ∧ (w'.heap[s_.2]? = some (.cells #[.slice none 0 0, .slice none 0 0] 27 (0, 0))) ∧ (w.heap.size ≤ s_.2) ∧ (w0.heap.size ≤ s_.2) ∧ (g ≠ s_.2) ∧ (s_.2 ≠ g) ∧ (gb212 ≠ s_.2) ∧ (s_.2 ≠ gb212) ∧ (IsS67 w0 w' g s0_0 s0_1 s0_2) ∧ (KeepBut w w' g none) ∧ (Below w0.heap.size w0 w')) ?_ ?_
    rotate_left
    ·intro hJ1_3
     refine join_ (σ := Value) 4 #[true, false, false, false, false] (fun s_ => [(7, s_)]) (fun s_ w' => (Kd.R (Kd.int .i64) 3 w' w.heap.size (fun _ => True) s_ y213) ∧ (w'.heap[gb212]? = some (.cells #[.slice none 0 0, .slice none 0 0] 27 (0, 0))) ∧ (IsS67 w0 w' g s0_0 s0_1 s0_2) ∧ (KeepBut w w' g none) ∧ (Below w0.heap.size w0 w')) ?_ ?_
     rotate_left
     ·intro hJ0
      refine join_ (σ := Value) 4 #[false, true, false, false, false] (fun s_ => [(8, s_)]) (fun s_ w' => (Kd.R (Kd.int .i64) 3 w' w.heap.size (fun _ => True) s_ y216) ∧ (w'.heap[gb212]? = some (.cells #[.slice none 0 0, .slice none 0 0] 27 (0, 0))) ∧ (IsS67 w0 w' g s0_0 s0_1 s0_2) ∧ (KeepBut w w' g none) ∧ (Below w0.heap.size w0 w')) ?_ ?_
      rotate_left
      ·intro hJ1
       refine join_ (σ := Nat) 4 #[false, false, false, true, false] (fun s_ => [(3, .pointer (some ⟨s_, 0, none⟩))]) (fun s_ w' => (w'.heap[gb212]? = some (.cells #[.slice none 0 0, .slice none 0 0] 27 (0, 0))) ∧ (w'.heap[s_]? = some (.cells #[.slice none 0 0, .slice none 0 0] 27 (0, 0))) ∧ (w.heap.size ≤ s_) ∧ (w0.heap.size ≤ s_) ∧ (g ≠ s_) ∧ (s_ ≠ g) ∧ (gb212 ≠ s_) ∧ (s_ ≠ gb212) ∧ (IsS67 w0 w' g s0_0 s0_1 s0_2) ∧ (KeepBut w w' g none) ∧ (Below w0.heap.size w0 w')) ?_ ?_
       rotate_left
       ·intro hJ3
        refine th_ 0 1 3 (some 7) (some 8) (some 3) (h1 := fun K hK => ?_) (h2 := fun K hK => ?_) (h3 := fun K hK => ?_)
        ·skip
         refine Kd.R_make_step (Kd.int .i64) _ 3 (by rfl) (N := 7) rfl 22 _ _ rfl 6 rfl rfl Try.underlying22 (.int .i64 0) 8 info3 rfl (by decide) (by omega) 0 (ok := fun _ => True) (okp := fun _ => True) rfl (fun _ hk => hk) trivial (by omega) (by omega) (Below.refl _ _) (Nat.le_refl _) ?_
         intro v214 w6 ho7 hb hg_ hnew_
         clear hg_ hnew_
         (first | rw [← Ny213.out] at ho7 | (simp only [Int.reduceToNat] at ho7; rw [← Ny213.out] at ho7))
         have HO215 := Aside0.mk (Kd.R_lower ho7 (keep_size (w := w) (g := g) (row := none) (by repeat (first | (with_reducible first | exact HK.out | apply KeepBut.set_ | apply keep_drewN | apply keep_drew | apply keep_alloc | refine keep_far ?_ GW212.out _) | exact HK.out))))
         replace BK212 := bb_ BK212 hb
         replace HK := Aside0.mk (KeepBut.trans (by repeat (first | (with_reducible first | exact HK.out | apply KeepBut.set_ | apply keep_drewN | apply keep_drew | apply keep_alloc | refine keep_far ?_ GW212.out _) | exact HK.out)) (KeepBut.of_below hb g none) (.inl rfl))
         replace HB := Aside0.mk (below_step (by repeat (first | (with_reducible first | exact HB.out | apply below_alloc | apply pw_below_drewN | apply below_drew1 | refine below_set ?_ (IsS67.ge HI0.out) | refine below_set ?_ GE212.out) | exact HB.out)) hb)
         replace HI0 := Aside0.mk (IsS67.below (by repeat (first | (with_reducible first | exact HI0.out | apply IsS67.alloc | apply IsS67.drewN | apply IsS67.drew | apply IsS67.set_1 | apply IsS67.set_2 | refine IsS67.far ?_ NB0_212.out _) | exact HI0.out)) hb)
         clear hb ho7
         refine hK.out _ _ trivial (fun hHeld => ?_)
         clear hK K
         refine norm_ nn_ ?_
         exact norm_ nq_ (hJ0 (v214) _ ⟨(kr_ HO215.out), kb_ BK212.out, (by repeat (first | (with_reducible first | exact HI0.out | apply IsS67.alloc | apply IsS67.drewN | apply IsS67.drew | apply IsS67.set_1 | apply IsS67.set_2 | refine IsS67.far ?_ NB0_212.out _) | exact HI0.out)), (by repeat (first | (with_reducible first | exact HK.out | apply KeepBut.set_ | apply keep_drewN | apply keep_drew | apply keep_alloc | refine keep_far ?_ GW212.out _) | exact HK.out)), (by repeat (first | (with_reducible first | exact HB.out | apply below_alloc | apply pw_below_drewN | apply below_drew1 | refine below_set ?_ (IsS67.ge HI0.out) | refine below_set ?_ GE212.out) | exact HB.out))⟩)
        ·skip
         refine Kd.R_make_step (Kd.int .i64) _ 3 (by rfl) (N := 8) rfl 22 _ _ rfl 6 rfl rfl Try.underlying22 (.int .i64 0) 8 info3 rfl (by decide) (by omega) 0 (ok := fun _ => True) (okp := fun _ => True) rfl (fun _ hk => hk) trivial (by omega) (by omega) (Below.refl _ _) (Nat.le_refl _) ?_
         intro v217 w6 ho7 hb hg_ hnew_
         clear hg_ hnew_
         (first | rw [← Ny216.out] at ho7 | (simp only [Int.reduceToNat] at ho7; rw [← Ny216.out] at ho7))
         have HO218 := Aside0.mk (Kd.R_lower ho7 (keep_size (w := w) (g := g) (row := none) (by repeat (first | (with_reducible first | exact HK.out | apply KeepBut.set_ | apply keep_drewN | apply keep_drew | apply keep_alloc | refine keep_far ?_ GW212.out _) | exact HK.out))))
         replace BK212 := bb_ BK212 hb
         replace HK := Aside0.mk (KeepBut.trans (by repeat (first | (with_reducible first | exact HK.out | apply KeepBut.set_ | apply keep_drewN | apply keep_drew | apply keep_alloc | refine keep_far ?_ GW212.out _) | exact HK.out)) (KeepBut.of_below hb g none) (.inl rfl))
         replace HB := Aside0.mk (below_step (by repeat (first | (with_reducible first | exact HB.out | apply below_alloc | apply pw_below_drewN | apply below_drew1 | refine below_set ?_ (IsS67.ge HI0.out) | refine below_set ?_ GE212.out) | exact HB.out)) hb)
         replace HI0 := Aside0.mk (IsS67.below (by repeat (first | (with_reducible first | exact HI0.out | apply IsS67.alloc | apply IsS67.drewN | apply IsS67.drew | apply IsS67.set_1 | apply IsS67.set_2 | refine IsS67.far ?_ NB0_212.out _) | exact HI0.out)) hb)
         clear hb ho7
         refine hK.out _ _ trivial (fun hHeld => ?_)
         clear hK K
         refine norm_ nn_ ?_
         exact norm_ nq_ (hJ1 (v217) _ ⟨(kr_ HO218.out), kb_ BK212.out, (by repeat (first | (with_reducible first | exact HI0.out | apply IsS67.alloc | apply IsS67.drewN | apply IsS67.drew | apply IsS67.set_1 | apply IsS67.set_2 | refine IsS67.far ?_ NB0_212.out _) | exact HI0.out)), (by repeat (first | (with_reducible first | exact HK.out | apply KeepBut.set_ | apply keep_drewN | apply keep_drew | apply keep_alloc | refine keep_far ?_ GW212.out _) | exact HK.out)), (by repeat (first | (with_reducible first | exact HB.out | apply below_alloc | apply pw_below_drewN | apply below_drew1 | refine below_set ?_ (IsS67.ge HI0.out) | refine below_set ?_ GE212.out) | exact HB.out))⟩)
        ·skip
         refine box_step rfl (N := 3) rfl (cs := #[.slice none 0 0, .slice none 0 0]) (t := 27) gs_ ?_
         intro gb219 hg w6 hbox hb
         replace HB := Aside0.mk (below_step (by repeat (first | (with_reducible first | exact HB.out | apply below_alloc | apply pw_below_drewN | apply below_drew1 | refine below_set ?_ (IsS67.ge HI0.out) | refine below_set ?_ GE212.out) | exact HB.out)) hb)
         have BK219 := Aside0.mk (hbox)
         have GW219 := Aside0.mk ((by rw [hg]; exact (keep_size (w := w) (g := g) (row := none) (by repeat (first | (with_reducible first | exact HK.out | apply KeepBut.set_ | apply keep_drewN | apply keep_drew | apply keep_alloc | refine keep_far ?_ GW212.out _) | exact HK.out))) : w.heap.size ≤ gb219))
         have GE219 := Aside0.mk ((Nat.le_trans HW0.out (by rw [hg]; exact (keep_size (w := w) (g := g) (row := none) (by repeat (first | (with_reducible first | exact HK.out | apply KeepBut.set_ | apply keep_drewN | apply keep_drew | apply keep_alloc | refine keep_far ?_ GW212.out _) | exact HK.out))) : w.heap.size ≤ gb219) : w0.heap.size ≤ gb219))
         replace HK := Aside0.mk (KeepBut.trans (by repeat (first | (with_reducible first | exact HK.out | apply KeepBut.set_ | apply keep_drewN | apply keep_drew | apply keep_alloc | refine keep_far ?_ GW212.out _) | exact HK.out)) (KeepBut.of_below hb g none) (.inl rfl))
         have NB212_219 := nl_ hg BK212
         have NB219_212 := nm_ hg BK212
         replace BK212 := bb_ BK212 hb
         have NB0_219 := Aside0.mk ((by rw [hg]; exact Nat.ne_of_lt (IsS67.lt (show IsS67 w0 _ g s0_0 s0_1 s0_2 from by repeat (first | (with_reducible first | exact HI0.out | apply IsS67.alloc | apply IsS67.drewN | apply IsS67.drew | apply IsS67.set_1 | apply IsS67.set_2 | refine IsS67.far ?_ NB0_212.out _) | exact HI0.out))) : g ≠ gb219))
         have NB219_0 := Aside0.mk ((by rw [hg]; exact Nat.ne_of_gt (IsS67.lt (show IsS67 w0 _ g s0_0 s0_1 s0_2 from by repeat (first | (with_reducible first | exact HI0.out | apply IsS67.alloc | apply IsS67.drewN | apply IsS67.drew | apply IsS67.set_1 | apply IsS67.set_2 | refine IsS67.far ?_ NB0_212.out _) | exact HI0.out))) : gb219 ≠ g))
         replace HI0 := Aside0.mk (IsS67.below (by repeat (first | (with_reducible first | exact HI0.out | apply IsS67.alloc | apply IsS67.drewN | apply IsS67.drew | apply IsS67.set_1 | apply IsS67.set_2 | refine IsS67.far ?_ NB0_212.out _) | exact HI0.out)) hb)
         clear hb hbox hg
         refine hK.out _ _ trivial (fun hHeld => ?_)
         clear hK K
         refine norm_ nn_ ?_
         exact norm_ nq_ (hJ3 (gb219) _ ⟨(kb_ BK212.out), kb_ BK219.out, GW219.out, GE219.out, NB0_219.out, NB219_0.out, NB212_219.out, NB219_212.out, (by repeat (first | (with_reducible first | exact HI0.out | apply IsS67.alloc | apply IsS67.drewN | apply IsS67.drew | apply IsS67.set_1 | apply IsS67.set_2 | refine IsS67.far ?_ NB0_212.out _ | refine IsS67.far ?_ NB0_219.out _) | exact HI0.out)), (by repeat (first | (with_reducible first | exact HK.out | apply KeepBut.set_ | apply keep_drewN | apply keep_drew | apply keep_alloc | refine keep_far ?_ GW212.out _ | refine keep_far ?_ GW219.out _) | exact HK.out)), (by repeat (first | (with_reducible first | exact HB.out | apply below_alloc | apply pw_below_drewN | apply below_drew1 | refine below_set ?_ (IsS67.ge HI0.out) | refine below_set ?_ GE212.out | refine below_set ?_ GE219.out) | exact HB.out))⟩)
       ·skip
        rintro gb219 w7 ⟨h0_, h1_, h2_, h3_, h4_, h5_, h6_, h7_, h8_, h9_, h10_⟩
        try dsimp only at h0_ h1_ h2_ h3_ h4_ h5_ h6_ h7_ h8_ h9_ h10_
        replace BK212 := Aside0.mk h0_
        have BK219 := Aside0.mk h1_
        have GW219 := Aside0.mk h2_
        have GE219 := Aside0.mk h3_
        have NB0_219 := Aside0.mk h4_
        have NB219_0 := Aside0.mk h5_
        have NB212_219 := Aside0.mk h6_
        have NB219_212 := Aside0.mk h7_
        replace HI0 := Aside0.mk h8_
        replace HK := Aside0.mk h9_
        replace HB := Aside0.mk h10_
        clear h0_ h1_ h2_ h3_ h4_ h5_ h6_ h7_ h8_ h9_ h10_
        have hHeld := trivial
        refine norm_ np_ ?_
        refine tw_ 0 1 (some 7) (some 8) (h1 := fun K hK => ?_) (h2 := fun K hK => ?_)
        ·skip
         refine Kd.R_make_step (Kd.int .i64) _ 3 (by rfl) (N := 7) rfl 22 _ _ rfl 6 rfl rfl Try.underlying22 (.int .i64 0) 8 info3 rfl (by decide) (by omega) 0 (ok := fun _ => True) (okp := fun _ => True) rfl (fun _ hk => hk) trivial (by omega) (by omega) (Below.refl _ _) (Nat.le_refl _) ?_
         intro v214 w8 ho9 hb hg_ hnew_
         clear hg_ hnew_
         (first | rw [← Ny213.out] at ho9 | (simp only [Int.reduceToNat] at ho9; rw [← Ny213.out] at ho9))
         have HO215 := Aside0.mk (Kd.R_lower ho9 (keep_size (w := w) (g := g) (row := none) (by repeat (first | (with_reducible first | exact HK.out | apply KeepBut.set_ | apply keep_drewN | apply keep_drew | apply keep_alloc | refine keep_far ?_ GW212.out _ | refine keep_far ?_ GW219.out _) | exact HK.out))))
         replace BK212 := bb_ BK212 hb
         replace BK219 := bb_ BK219 hb
         replace HK := Aside0.mk (KeepBut.trans (by repeat (first | (with_reducible first | exact HK.out | apply KeepBut.set_ | apply keep_drewN | apply keep_drew | apply keep_alloc | refine keep_far ?_ GW212.out _ | refine keep_far ?_ GW219.out _) | exact HK.out)) (KeepBut.of_below hb g none) (.inl rfl))
         replace HB := Aside0.mk (below_step (by repeat (first | (with_reducible first | exact HB.out | apply below_alloc | apply pw_below_drewN | apply below_drew1 | refine below_set ?_ (IsS67.ge HI0.out) | refine below_set ?_ GE212.out | refine below_set ?_ GE219.out) | exact HB.out)) hb)
         replace HI0 := Aside0.mk (IsS67.below (by repeat (first | (with_reducible first | exact HI0.out | apply IsS67.alloc | apply IsS67.drewN | apply IsS67.drew | apply IsS67.set_1 | apply IsS67.set_2 | refine IsS67.far ?_ NB0_212.out _ | refine IsS67.far ?_ NB0_219.out _) | exact HI0.out)) hb)
         clear hb ho9
         refine hK.out _ _ trivial (fun hHeld => ?_)
         clear hK K
         refine norm_ nn_ ?_
         exact norm_ nq_ (hJ0_3 (v214, gb219) _ ⟨(kr_ HO215.out), kb_ BK212.out, kb_ BK219.out, GW219.out, GE219.out, NB0_219.out, NB219_0.out, NB212_219.out, NB219_212.out, (by repeat (first | (with_reducible first | exact HI0.out | apply IsS67.alloc | apply IsS67.drewN | apply IsS67.drew | apply IsS67.set_1 | apply IsS67.set_2 | refine IsS67.far ?_ NB0_212.out _ | refine IsS67.far ?_ NB0_219.out _) | exact HI0.out)), (by repeat (first | (with_reducible first | exact HK.out | apply KeepBut.set_ | apply keep_drewN | apply keep_drew | apply keep_alloc | refine keep_far ?_ GW212.out _ | refine keep_far ?_ GW219.out _) | exact HK.out)), (by repeat (first | (with_reducible first | exact HB.out | apply below_alloc | apply pw_below_drewN | apply below_drew1 | refine below_set ?_ (IsS67.ge HI0.out) | refine below_set ?_ GE212.out | refine below_set ?_ GE219.out) | exact HB.out))⟩)
        ·skip
         refine Kd.R_make_step (Kd.int .i64) _ 3 (by rfl) (N := 8) rfl 22 _ _ rfl 6 rfl rfl Try.underlying22 (.int .i64 0) 8 info3 rfl (by decide) (by omega) 0 (ok := fun _ => True) (okp := fun _ => True) rfl (fun _ hk => hk) trivial (by omega) (by omega) (Below.refl _ _) (Nat.le_refl _) ?_
         intro v217 w8 ho9 hb hg_ hnew_
         clear hg_ hnew_
         (first | rw [← Ny216.out] at ho9 | (simp only [Int.reduceToNat] at ho9; rw [← Ny216.out] at ho9))
         have HO218 := Aside0.mk (Kd.R_lower ho9 (keep_size (w := w) (g := g) (row := none) (by repeat (first | (with_reducible first | exact HK.out | apply KeepBut.set_ | apply keep_drewN | apply keep_drew | apply keep_alloc | refine keep_far ?_ GW212.out _ | refine keep_far ?_ GW219.out _) | exact HK.out))))
         replace BK212 := bb_ BK212 hb
         replace BK219 := bb_ BK219 hb
         replace HK := Aside0.mk (KeepBut.trans (by repeat (first | (with_reducible first | exact HK.out | apply KeepBut.set_ | apply keep_drewN | apply keep_drew | apply keep_alloc | refine keep_far ?_ GW212.out _ | refine keep_far ?_ GW219.out _) | exact HK.out)) (KeepBut.of_below hb g none) (.inl rfl))
         replace HB := Aside0.mk (below_step (by repeat (first | (with_reducible first | exact HB.out | apply below_alloc | apply pw_below_drewN | apply below_drew1 | refine below_set ?_ (IsS67.ge HI0.out) | refine below_set ?_ GE212.out | refine below_set ?_ GE219.out) | exact HB.out)) hb)
         replace HI0 := Aside0.mk (IsS67.below (by repeat (first | (with_reducible first | exact HI0.out | apply IsS67.alloc | apply IsS67.drewN | apply IsS67.drew | apply IsS67.set_1 | apply IsS67.set_2 | refine IsS67.far ?_ NB0_212.out _ | refine IsS67.far ?_ NB0_219.out _) | exact HI0.out)) hb)
         clear hb ho9
         refine hK.out _ _ trivial (fun hHeld => ?_)
         clear hK K
         refine norm_ nn_ ?_
         exact norm_ nq_ (hJ1_3 (v217, gb219) _ ⟨(kr_ HO218.out), kb_ BK212.out, kb_ BK219.out, GW219.out, GE219.out, NB0_219.out, NB219_0.out, NB212_219.out, NB219_212.out, (by repeat (first | (with_reducible first | exact HI0.out | apply IsS67.alloc | apply IsS67.drewN | apply IsS67.drew | apply IsS67.set_1 | apply IsS67.set_2 | refine IsS67.far ?_ NB0_212.out _ | refine IsS67.far ?_ NB0_219.out _) | exact HI0.out)), (by repeat (first | (with_reducible first | exact HK.out | apply KeepBut.set_ | apply keep_drewN | apply keep_drew | apply keep_alloc | refine keep_far ?_ GW212.out _ | refine keep_far ?_ GW219.out _) | exact HK.out)), (by repeat (first | (with_reducible first | exact HB.out | apply below_alloc | apply pw_below_drewN | apply below_drew1 | refine below_set ?_ (IsS67.ge HI0.out) | refine below_set ?_ GE212.out | refine below_set ?_ GE219.out) | exact HB.out))⟩)
      ·skip
       rintro v217 w8 ⟨h0_, h1_, h2_, h3_, h4_⟩
       try dsimp only at h0_ h1_ h2_ h3_ h4_
       have HO218 := Aside0.mk h0_
       replace BK212 := Aside0.mk h1_
       replace HI0 := Aside0.mk h2_
       replace HK := Aside0.mk h3_
       replace HB := Aside0.mk h4_
       clear h0_ h1_ h2_ h3_ h4_
       have hHeld := trivial
       refine norm_ np_ ?_
       refine tw_ 0 3 (some 7) (some 3) (h1 := fun K hK => ?_) (h2 := fun K hK => ?_)
       ·skip
        refine Kd.R_make_step (Kd.int .i64) _ 3 (by rfl) (N := 7) rfl 22 _ _ rfl 6 rfl rfl Try.underlying22 (.int .i64 0) 8 info3 rfl (by decide) (by omega) 0 (ok := fun _ => True) (okp := fun _ => True) rfl (fun _ hk => hk) trivial (by omega) (by omega) (Below.refl _ _) (Nat.le_refl _) ?_
        intro v214 w9 ho10 hb hg_ hnew_
        clear hg_ hnew_
        (first | rw [← Ny213.out] at ho10 | (simp only [Int.reduceToNat] at ho10; rw [← Ny213.out] at ho10))
        have HO215 := Aside0.mk (Kd.R_lower (rn_ ho10 HO218.out) (keep_size (w := w) (g := g) (row := none) (by repeat (first | (with_reducible first | exact HK.out | apply KeepBut.set_ | apply keep_drewN | apply keep_drew | apply keep_alloc | refine keep_far ?_ GW212.out _) | exact HK.out))))
        replace HO218 := Aside0.mk (Kd.R_elder' (kr_ HO218.out) (Kd.R_base ho10) hb)
        replace BK212 := bb_ BK212 hb
        replace HK := Aside0.mk (KeepBut.trans (by repeat (first | (with_reducible first | exact HK.out | apply KeepBut.set_ | apply keep_drewN | apply keep_drew | apply keep_alloc | refine keep_far ?_ GW212.out _) | exact HK.out)) (KeepBut.of_below hb g none) (.inl rfl))
        replace HB := Aside0.mk (below_step (by repeat (first | (with_reducible first | exact HB.out | apply below_alloc | apply pw_below_drewN | apply below_drew1 | refine below_set ?_ (IsS67.ge HI0.out) | refine below_set ?_ GE212.out) | exact HB.out)) hb)
        replace HI0 := Aside0.mk (IsS67.below (by repeat (first | (with_reducible first | exact HI0.out | apply IsS67.alloc | apply IsS67.drewN | apply IsS67.drew | apply IsS67.set_1 | apply IsS67.set_2 | refine IsS67.far ?_ NB0_212.out _) | exact HI0.out)) hb)
        clear hb ho10
        obtain ⟨Ao11, co11, eo11⟩ := Kd.R_slice HO218.out
        (first | subst eo11 | (injection eo11 with f1_ f2_ f3_; have f4_ := f1_.symm; have f5_ := f3_.symm; clear f1_ f2_ f3_; subst f4_; subst f5_))
        obtain ⟨Ao12, co12, eo12⟩ := Kd.R_slice HO215.out
        (first | subst eo12 | (injection eo12 with f1_ f2_ f3_; have f4_ := f1_.symm; have f5_ := f3_.symm; clear f1_ f2_ f3_; subst f4_; subst f5_))
        refine hK.out _ _ trivial (fun hHeld => ?_)
        clear hK K
        refine norm_ nn_ ?_
        refine pu_ 2 (some 9) (h := ?_)
        exact norm_ nq_ (hJ0_1 (.slice Ao12 y213.length co12, .slice Ao11 y216.length co11) _ ⟨(kp_ HO215.out), kp_ HO218.out, kb_ BK212.out, (by repeat (first | (with_reducible first | exact HI0.out | apply IsS67.alloc | apply IsS67.drewN | apply IsS67.drew | apply IsS67.set_1 | apply IsS67.set_2 | refine IsS67.far ?_ NB0_212.out _) | exact HI0.out)), (by repeat (first | (with_reducible first | exact HK.out | apply KeepBut.set_ | apply keep_drewN | apply keep_drew | apply keep_alloc | refine keep_far ?_ GW212.out _) | exact HK.out)), (by repeat (first | (with_reducible first | exact HB.out | apply below_alloc | apply pw_below_drewN | apply below_drew1 | refine below_set ?_ (IsS67.ge HI0.out) | refine below_set ?_ GE212.out) | exact HB.out))⟩)
       ·skip
        refine box_step rfl (N := 3) rfl (cs := #[.slice none 0 0, .slice none 0 0]) (t := 27) gs_ ?_
        intro gb219 hg w9 hbox hb
        replace HO218 := rb_ HO218 hb
        replace HB := Aside0.mk (below_step (by repeat (first | (with_reducible first | exact HB.out | apply below_alloc | apply pw_below_drewN | apply below_drew1 | refine below_set ?_ (IsS67.ge HI0.out) | refine below_set ?_ GE212.out) | exact HB.out)) hb)
        have BK219 := Aside0.mk (hbox)
        have GW219 := Aside0.mk ((by rw [hg]; exact (keep_size (w := w) (g := g) (row := none) (by repeat (first | (with_reducible first | exact HK.out | apply KeepBut.set_ | apply keep_drewN | apply keep_drew | apply keep_alloc | refine keep_far ?_ GW212.out _) | exact HK.out))) : w.heap.size ≤ gb219))
        have GE219 := Aside0.mk ((Nat.le_trans HW0.out (by rw [hg]; exact (keep_size (w := w) (g := g) (row := none) (by repeat (first | (with_reducible first | exact HK.out | apply KeepBut.set_ | apply keep_drewN | apply keep_drew | apply keep_alloc | refine keep_far ?_ GW212.out _) | exact HK.out))) : w.heap.size ≤ gb219) : w0.heap.size ≤ gb219))
        replace HK := Aside0.mk (KeepBut.trans (by repeat (first | (with_reducible first | exact HK.out | apply KeepBut.set_ | apply keep_drewN | apply keep_drew | apply keep_alloc | refine keep_far ?_ GW212.out _) | exact HK.out)) (KeepBut.of_below hb g none) (.inl rfl))
        have NB212_219 := nl_ hg BK212
        have NB219_212 := nm_ hg BK212
        replace BK212 := bb_ BK212 hb
        have NB0_219 := Aside0.mk ((by rw [hg]; exact Nat.ne_of_lt (IsS67.lt (show IsS67 w0 _ g s0_0 s0_1 s0_2 from by repeat (first | (with_reducible first | exact HI0.out | apply IsS67.alloc | apply IsS67.drewN | apply IsS67.drew | apply IsS67.set_1 | apply IsS67.set_2 | refine IsS67.far ?_ NB0_212.out _) | exact HI0.out))) : g ≠ gb219))
        have NB219_0 := Aside0.mk ((by rw [hg]; exact Nat.ne_of_gt (IsS67.lt (show IsS67 w0 _ g s0_0 s0_1 s0_2 from by repeat (first | (with_reducible first | exact HI0.out | apply IsS67.alloc | apply IsS67.drewN | apply IsS67.drew | apply IsS67.set_1 | apply IsS67.set_2 | refine IsS67.far ?_ NB0_212.out _) | exact HI0.out))) : gb219 ≠ g))
        replace HI0 := Aside0.mk (IsS67.below (by repeat (first | (with_reducible first | exact HI0.out | apply IsS67.alloc | apply IsS67.drewN | apply IsS67.drew | apply IsS67.set_1 | apply IsS67.set_2 | refine IsS67.far ?_ NB0_212.out _) | exact HI0.out)) hb)
        clear hb hbox hg
        refine hK.out _ _ trivial (fun hHeld => ?_)
        clear hK K
        refine norm_ nn_ ?_
        exact norm_ nq_ (hJ1_3 (v217, gb219) _ ⟨(kr_ HO218.out), kb_ BK212.out, kb_ BK219.out, GW219.out, GE219.out, NB0_219.out, NB219_0.out, NB212_219.out, NB219_212.out, (by repeat (first | (with_reducible first | exact HI0.out | apply IsS67.alloc | apply IsS67.drewN | apply IsS67.drew | apply IsS67.set_1 | apply IsS67.set_2 | refine IsS67.far ?_ NB0_212.out _ | refine IsS67.far ?_ NB0_219.out _) | exact HI0.out)), (by repeat (first | (with_reducible first | exact HK.out | apply KeepBut.set_ | apply keep_drewN | apply keep_drew | apply keep_alloc | refine keep_far ?_ GW212.out _ | refine keep_far ?_ GW219.out _) | exact HK.out)), (by repeat (first | (with_reducible first | exact HB.out | apply below_alloc | apply pw_below_drewN | apply below_drew1 | refine below_set ?_ (IsS67.ge HI0.out) | refine below_set ?_ GE212.out | refine below_set ?_ GE219.out) | exact HB.out))⟩)
     ·skip
      rintro v214 w8 ⟨h0_, h1_, h2_, h3_, h4_⟩
      try dsimp only at h0_ h1_ h2_ h3_ h4_
      have HO215 := Aside0.mk h0_
      replace BK212 := Aside0.mk h1_
      replace HI0 := Aside0.mk h2_
      replace HK := Aside0.mk h3_
      replace HB := Aside0.mk h4_
      clear h0_ h1_ h2_ h3_ h4_
      have hHeld := trivial
      refine norm_ np_ ?_
      refine tw_ 1 3 (some 8) (some 3) (h1 := fun K hK => ?_) (h2 := fun K hK => ?_)
      ·skip
       refine Kd.R_make_step (Kd.int .i64) _ 3 (by rfl) (N := 8) rfl 22 _ _ rfl 6 rfl rfl Try.underlying22 (.int .i64 0) 8 info3 rfl (by decide) (by omega) 0 (ok := fun _ => True) (okp := fun _ => True) rfl (fun _ hk => hk) trivial (by omega) (by omega) (Below.refl _ _) (Nat.le_refl _) ?_
       intro v217 w9 ho10 hb hg_ hnew_
       clear hg_ hnew_
       (first | rw [← Ny216.out] at ho10 | (simp only [Int.reduceToNat] at ho10; rw [← Ny216.out] at ho10))
       have HO218 := Aside0.mk (Kd.R_lower (rn_ ho10 HO215.out) (keep_size (w := w) (g := g) (row := none) (by repeat (first | (with_reducible first | exact HK.out | apply KeepBut.set_ | apply keep_drewN | apply keep_drew | apply keep_alloc | refine keep_far ?_ GW212.out _) | exact HK.out))))
       replace HO215 := Aside0.mk (Kd.R_elder' (kr_ HO215.out) (Kd.R_base ho10) hb)
       replace BK212 := bb_ BK212 hb
       replace HK := Aside0.mk (KeepBut.trans (by repeat (first | (with_reducible first | exact HK.out | apply KeepBut.set_ | apply keep_drewN | apply keep_drew | apply keep_alloc | refine keep_far ?_ GW212.out _) | exact HK.out)) (KeepBut.of_below hb g none) (.inl rfl))
       replace HB := Aside0.mk (below_step (by repeat (first | (with_reducible first | exact HB.out | apply below_alloc | apply pw_below_drewN | apply below_drew1 | refine below_set ?_ (IsS67.ge HI0.out) | refine below_set ?_ GE212.out) | exact HB.out)) hb)
       replace HI0 := Aside0.mk (IsS67.below (by repeat (first | (with_reducible first | exact HI0.out | apply IsS67.alloc | apply IsS67.drewN | apply IsS67.drew | apply IsS67.set_1 | apply IsS67.set_2 | refine IsS67.far ?_ NB0_212.out _) | exact HI0.out)) hb)
       clear hb ho10
       obtain ⟨Ao11, co11, eo11⟩ := Kd.R_slice HO218.out
       (first | subst eo11 | (injection eo11 with f1_ f2_ f3_; have f4_ := f1_.symm; have f5_ := f3_.symm; clear f1_ f2_ f3_; subst f4_; subst f5_))
       obtain ⟨Ao12, co12, eo12⟩ := Kd.R_slice HO215.out
       (first | subst eo12 | (injection eo12 with f1_ f2_ f3_; have f4_ := f1_.symm; have f5_ := f3_.symm; clear f1_ f2_ f3_; subst f4_; subst f5_))
       refine hK.out _ _ trivial (fun hHeld => ?_)
       clear hK K
       refine norm_ nn_ ?_
       refine pu_ 2 (some 9) (h := ?_)
       exact norm_ nq_ (hJ0_1 (.slice Ao12 y213.length co12, .slice Ao11 y216.length co11) _ ⟨(kp_ HO215.out), kp_ HO218.out, kb_ BK212.out, (by repeat (first | (with_reducible first | exact HI0.out | apply IsS67.alloc | apply IsS67.drewN | apply IsS67.drew | apply IsS67.set_1 | apply IsS67.set_2 | refine IsS67.far ?_ NB0_212.out _) | exact HI0.out)), (by repeat (first | (with_reducible first | exact HK.out | apply KeepBut.set_ | apply keep_drewN | apply keep_drew | apply keep_alloc | refine keep_far ?_ GW212.out _) | exact HK.out)), (by repeat (first | (with_reducible first | exact HB.out | apply below_alloc | apply pw_below_drewN | apply below_drew1 | refine below_set ?_ (IsS67.ge HI0.out) | refine below_set ?_ GE212.out) | exact HB.out))⟩)
      ·skip
       refine box_step rfl (N := 3) rfl (cs := #[.slice none 0 0, .slice none 0 0]) (t := 27) gs_ ?_
       intro gb219 hg w9 hbox hb
       replace HO215 := rb_ HO215 hb
       replace HB := Aside0.mk (below_step (by repeat (first | (with_reducible first | exact HB.out | apply below_alloc | apply pw_below_drewN | apply below_drew1 | refine below_set ?_ (IsS67.ge HI0.out) | refine below_set ?_ GE212.out) | exact HB.out)) hb)
       have BK219 := Aside0.mk (hbox)
       have GW219 := Aside0.mk ((by rw [hg]; exact (keep_size (w := w) (g := g) (row := none) (by repeat (first | (with_reducible first | exact HK.out | apply KeepBut.set_ | apply keep_drewN | apply keep_drew | apply keep_alloc | refine keep_far ?_ GW212.out _) | exact HK.out))) : w.heap.size ≤ gb219))
       have GE219 := Aside0.mk ((Nat.le_trans HW0.out (by rw [hg]; exact (keep_size (w := w) (g := g) (row := none) (by repeat (first | (with_reducible first | exact HK.out | apply KeepBut.set_ | apply keep_drewN | apply keep_drew | apply keep_alloc | refine keep_far ?_ GW212.out _) | exact HK.out))) : w.heap.size ≤ gb219) : w0.heap.size ≤ gb219))
       replace HK := Aside0.mk (KeepBut.trans (by repeat (first | (with_reducible first | exact HK.out | apply KeepBut.set_ | apply keep_drewN | apply keep_drew | apply keep_alloc | refine keep_far ?_ GW212.out _) | exact HK.out)) (KeepBut.of_below hb g none) (.inl rfl))
       have NB212_219 := nl_ hg BK212
       have NB219_212 := nm_ hg BK212
       replace BK212 := bb_ BK212 hb
       have NB0_219 := Aside0.mk ((by rw [hg]; exact Nat.ne_of_lt (IsS67.lt (show IsS67 w0 _ g s0_0 s0_1 s0_2 from by repeat (first | (with_reducible first | exact HI0.out | apply IsS67.alloc | apply IsS67.drewN | apply IsS67.drew | apply IsS67.set_1 | apply IsS67.set_2 | refine IsS67.far ?_ NB0_212.out _) | exact HI0.out))) : g ≠ gb219))
       have NB219_0 := Aside0.mk ((by rw [hg]; exact Nat.ne_of_gt (IsS67.lt (show IsS67 w0 _ g s0_0 s0_1 s0_2 from by repeat (first | (with_reducible first | exact HI0.out | apply IsS67.alloc | apply IsS67.drewN | apply IsS67.drew | apply IsS67.set_1 | apply IsS67.set_2 | refine IsS67.far ?_ NB0_212.out _) | exact HI0.out))) : gb219 ≠ g))
       replace HI0 := Aside0.mk (IsS67.below (by repeat (first | (with_reducible first | exact HI0.out | apply IsS67.alloc | apply IsS67.drewN | apply IsS67.drew | apply IsS67.set_1 | apply IsS67.set_2 | refine IsS67.far ?_ NB0_212.out _) | exact HI0.out)) hb)
       clear hb hbox hg
       refine hK.out _ _ trivial (fun hHeld => ?_)
       clear hK K
       refine norm_ nn_ ?_
       exact norm_ nq_ (hJ0_3 (v214, gb219) _ ⟨(kr_ HO215.out), kb_ BK212.out, kb_ BK219.out, GW219.out, GE219.out, NB0_219.out, NB219_0.out, NB212_219.out, NB219_212.out, (by repeat (first | (with_reducible first | exact HI0.out | apply IsS67.alloc | apply IsS67.drewN | apply IsS67.drew | apply IsS67.set_1 | apply IsS67.set_2 | refine IsS67.far ?_ NB0_212.out _ | refine IsS67.far ?_ NB0_219.out _) | exact HI0.out)), (by repeat (first | (with_reducible first | exact HK.out | apply KeepBut.set_ | apply keep_drewN | apply keep_drew | apply keep_alloc | refine keep_far ?_ GW212.out _ | refine keep_far ?_ GW219.out _) | exact HK.out)), (by repeat (first | (with_reducible first | exact HB.out | apply below_alloc | apply pw_below_drewN | apply below_drew1 | refine below_set ?_ (IsS67.ge HI0.out) | refine below_set ?_ GE212.out | refine below_set ?_ GE219.out) | exact HB.out))⟩)
    ·skip
     rintro ⟨v217, gb219⟩ w9 ⟨h0_, h1_, h2_, h3_, h4_, h5_, h6_, h7_, h8_, h9_, h10_, h11_⟩
     dsimp only at h0_ h1_ h2_ h3_ h4_ h5_ h6_ h7_ h8_ h9_ h10_ h11_
     have HO218 := Aside0.mk h0_
     replace BK212 := Aside0.mk h1_
     have BK219 := Aside0.mk h2_
     have GW219 := Aside0.mk h3_
     have GE219 := Aside0.mk h4_
     have NB0_219 := Aside0.mk h5_
     have NB219_0 := Aside0.mk h6_
     have NB212_219 := Aside0.mk h7_
     have NB219_212 := Aside0.mk h8_
     replace HI0 := Aside0.mk h9_
     replace HK := Aside0.mk h10_
     replace HB := Aside0.mk h11_
     clear h0_ h1_ h2_ h3_ h4_ h5_ h6_ h7_ h8_ h9_ h10_ h11_
     have hHeld := trivial
     refine norm_ np_ ?_
     refine on_ 0 (some 7) (h := fun K hK => ?_)
     refine Kd.R_make_step (Kd.int .i64) _ 3 (by rfl) (N := 7) rfl 22 _ _ rfl 6 rfl rfl Try.underlying22 (.int .i64 0) 8 info3 rfl (by decide) (by omega) 0 (ok := fun _ => True) (okp := fun _ => True) rfl (fun _ hk => hk) trivial (by omega) (by omega) (Below.refl _ _) (Nat.le_refl _) ?_
     intro v214 w10 ho11 hb hg_ hnew_
     clear hg_ hnew_
     (first | rw [← Ny213.out] at ho11 | (simp only [Int.reduceToNat] at ho11; rw [← Ny213.out] at ho11))
     have HO215 := Aside0.mk (Kd.R_lower (rn_ ho11 HO218.out) (keep_size (w := w) (g := g) (row := none) (by repeat (first | (with_reducible first | exact HK.out | apply KeepBut.set_ | apply keep_drewN | apply keep_drew | apply keep_alloc | refine keep_far ?_ GW212.out _ | refine keep_far ?_ GW219.out _) | exact HK.out))))
     replace HO218 := Aside0.mk (Kd.R_elder' (kr_ HO218.out) (Kd.R_base ho11) hb)
     replace BK212 := bb_ BK212 hb
     replace BK219 := bb_ BK219 hb
     replace HK := Aside0.mk (KeepBut.trans (by repeat (first | (with_reducible first | exact HK.out | apply KeepBut.set_ | apply keep_drewN | apply keep_drew | apply keep_alloc | refine keep_far ?_ GW212.out _ | refine keep_far ?_ GW219.out _) | exact HK.out)) (KeepBut.of_below hb g none) (.inl rfl))
     replace HB := Aside0.mk (below_step (by repeat (first | (with_reducible first | exact HB.out | apply below_alloc | apply pw_below_drewN | apply below_drew1 | refine below_set ?_ (IsS67.ge HI0.out) | refine below_set ?_ GE212.out | refine below_set ?_ GE219.out) | exact HB.out)) hb)
     replace HI0 := Aside0.mk (IsS67.below (by repeat (first | (with_reducible first | exact HI0.out | apply IsS67.alloc | apply IsS67.drewN | apply IsS67.drew | apply IsS67.set_1 | apply IsS67.set_2 | refine IsS67.far ?_ NB0_212.out _ | refine IsS67.far ?_ NB0_219.out _) | exact HI0.out)) hb)
     clear hb ho11
     obtain ⟨Ao12, co12, eo12⟩ := Kd.R_slice HO218.out
     (first | subst eo12 | (injection eo12 with f1_ f2_ f3_; have f4_ := f1_.symm; have f5_ := f3_.symm; clear f1_ f2_ f3_; subst f4_; subst f5_))
     obtain ⟨Ao13, co13, eo13⟩ := Kd.R_slice HO215.out
     (first | subst eo13 | (injection eo13 with f1_ f2_ f3_; have f4_ := f1_.symm; have f5_ := f3_.symm; clear f1_ f2_ f3_; subst f4_; subst f5_))
     refine hK.out _ _ trivial (fun hHeld => ?_)
     clear hK K
     refine norm_ nn_ ?_
     refine pu_ 2 (some 9) (h := ?_)
     exact norm_ nq_ (hJ0_1_3 (.slice Ao13 y213.length co13, .slice Ao12 y216.length co12, gb219) _ ⟨(kp_ HO215.out), kp_ HO218.out, kb_ BK212.out, kb_ BK219.out, GW219.out, GE219.out, NB0_219.out, NB219_0.out, NB212_219.out, NB219_212.out, (by repeat (first | (with_reducible first | exact HI0.out | apply IsS67.alloc | apply IsS67.drewN | apply IsS67.drew | apply IsS67.set_1 | apply IsS67.set_2 | refine IsS67.far ?_ NB0_212.out _ | refine IsS67.far ?_ NB0_219.out _) | exact HI0.out)), (by repeat (first | (with_reducible first | exact HK.out | apply KeepBut.set_ | apply keep_drewN | apply keep_drew | apply keep_alloc | refine keep_far ?_ GW212.out _ | refine keep_far ?_ GW219.out _) | exact HK.out)), (by repeat (first | (with_reducible first | exact HB.out | apply below_alloc | apply pw_below_drewN | apply below_drew1 | refine below_set ?_ (IsS67.ge HI0.out) | refine below_set ?_ GE212.out | refine below_set ?_ GE219.out) | exact HB.out))⟩)
   ·skip
    rintro ⟨v214, gb219⟩ w9 ⟨h0_, h1_, h2_, h3_, h4_, h5_, h6_, h7_, h8_, h9_, h10_, h11_⟩
    dsimp only at h0_ h1_ h2_ h3_ h4_ h5_ h6_ h7_ h8_ h9_ h10_ h11_
    have HO215 := Aside0.mk h0_
    replace BK212 := Aside0.mk h1_
    have BK219 := Aside0.mk h2_
    have GW219 := Aside0.mk h3_
    have GE219 := Aside0.mk h4_
    have NB0_219 := Aside0.mk h5_
    have NB219_0 := Aside0.mk h6_
    have NB212_219 := Aside0.mk h7_
    have NB219_212 := Aside0.mk h8_
    replace HI0 := Aside0.mk h9_
    replace HK := Aside0.mk h10_
    replace HB := Aside0.mk h11_
    clear h0_ h1_ h2_ h3_ h4_ h5_ h6_ h7_ h8_ h9_ h10_ h11_
    have hHeld := trivial
    refine norm_ np_ ?_
    refine on_ 1 (some 8) (h := fun K hK => ?_)
    refine Kd.R_make_step (Kd.int .i64) _ 3 (by rfl) (N := 8) rfl 22 _ _ rfl 6 rfl rfl Try.underlying22 (.int .i64 0) 8 info3 rfl (by decide) (by omega) 0 (ok := fun _ => True) (okp := fun _ => True) rfl (fun _ hk => hk) trivial (by omega) (by omega) (Below.refl _ _) (Nat.le_refl _) ?_
    intro v217 w10 ho11 hb hg_ hnew_
    clear hg_ hnew_
    (first | rw [← Ny216.out] at ho11 | (simp only [Int.reduceToNat] at ho11; rw [← Ny216.out] at ho11))
    have HO218 := Aside0.mk (Kd.R_lower (rn_ ho11 HO215.out) (keep_size (w := w) (g := g) (row := none) (by repeat (first | (with_reducible first | exact HK.out | apply KeepBut.set_ | apply keep_drewN | apply keep_drew | apply keep_alloc | refine keep_far ?_ GW212.out _ | refine keep_far ?_ GW219.out _) | exact HK.out))))
    replace HO215 := Aside0.mk (Kd.R_elder' (kr_ HO215.out) (Kd.R_base ho11) hb)
    replace BK212 := bb_ BK212 hb
    replace BK219 := bb_ BK219 hb
    replace HK := Aside0.mk (KeepBut.trans (by repeat (first | (with_reducible first | exact HK.out | apply KeepBut.set_ | apply keep_drewN | apply keep_drew | apply keep_alloc | refine keep_far ?_ GW212.out _ | refine keep_far ?_ GW219.out _) | exact HK.out)) (KeepBut.of_below hb g none) (.inl rfl))
    replace HB := Aside0.mk (below_step (by repeat (first | (with_reducible first | exact HB.out | apply below_alloc | apply pw_below_drewN | apply below_drew1 | refine below_set ?_ (IsS67.ge HI0.out) | refine below_set ?_ GE212.out | refine below_set ?_ GE219.out) | exact HB.out)) hb)
    replace HI0 := Aside0.mk (IsS67.below (by repeat (first | (with_reducible first | exact HI0.out | apply IsS67.alloc | apply IsS67.drewN | apply IsS67.drew | apply IsS67.set_1 | apply IsS67.set_2 | refine IsS67.far ?_ NB0_212.out _ | refine IsS67.far ?_ NB0_219.out _) | exact HI0.out)) hb)
    clear hb ho11
    obtain ⟨Ao12, co12, eo12⟩ := Kd.R_slice HO218.out
    (first | subst eo12 | (injection eo12 with f1_ f2_ f3_; have f4_ := f1_.symm; have f5_ := f3_.symm; clear f1_ f2_ f3_; subst f4_; subst f5_))
    obtain ⟨Ao13, co13, eo13⟩ := Kd.R_slice HO215.out
    (first | subst eo13 | (injection eo13 with f1_ f2_ f3_; have f4_ := f1_.symm; have f5_ := f3_.symm; clear f1_ f2_ f3_; subst f4_; subst f5_))
    refine hK.out _ _ trivial (fun hHeld => ?_)
    clear hK K
    refine norm_ nn_ ?_
    refine pu_ 2 (some 9) (h := ?_)
    exact norm_ nq_ (hJ0_1_3 (.slice Ao13 y213.length co13, .slice Ao12 y216.length co12, gb219) _ ⟨(kp_ HO215.out), kp_ HO218.out, kb_ BK212.out, kb_ BK219.out, GW219.out, GE219.out, NB0_219.out, NB219_0.out, NB212_219.out, NB219_212.out, (by repeat (first | (with_reducible first | exact HI0.out | apply IsS67.alloc | apply IsS67.drewN | apply IsS67.drew | apply IsS67.set_1 | apply IsS67.set_2 | refine IsS67.far ?_ NB0_212.out _ | refine IsS67.far ?_ NB0_219.out _) | exact HI0.out)), (by repeat (first | (with_reducible first | exact HK.out | apply KeepBut.set_ | apply keep_drewN | apply keep_drew | apply keep_alloc | refine keep_far ?_ GW212.out _ | refine keep_far ?_ GW219.out _) | exact HK.out)), (by repeat (first | (with_reducible first | exact HB.out | apply below_alloc | apply pw_below_drewN | apply below_drew1 | refine below_set ?_ (IsS67.ge HI0.out) | refine below_set ?_ GE212.out | refine below_set ?_ GE219.out) | exact HB.out))⟩)
  ·skip
   rintro ⟨v214, v217⟩ w12 ⟨h0_, h1_, h2_, h3_, h4_, h5_⟩
   dsimp only at h0_ h1_ h2_ h3_ h4_ h5_
   have HO215 := Aside0.mk h0_
   have HO218 := Aside0.mk h1_
   replace BK212 := Aside0.mk h2_
   replace HI0 := Aside0.mk h3_
   replace HK := Aside0.mk h4_
   replace HB := Aside0.mk h5_
   clear h0_ h1_ h2_ h3_ h4_ h5_
   have hHeld := trivial
   obtain ⟨Ao13, co13, eo13⟩ := Kd.R_slice HO218.out
   (first | subst eo13 | (injection eo13 with f1_ f2_ f3_; have f4_ := f1_.symm; have f5_ := f3_.symm; clear f1_ f2_ f3_; subst f4_; subst f5_))
   obtain ⟨Ao14, co14, eo14⟩ := Kd.R_slice HO215.out
   (first | subst eo14 | (injection eo14 with f1_ f2_ f3_; have f4_ := f1_.symm; have f5_ := f3_.symm; clear f1_ f2_ f3_; subst f4_; subst f5_))
   refine norm_ np_ ?_
   refine on_ 3 (some 3) (h := fun K hK => ?_)
   refine box_step rfl (N := 3) rfl (cs := #[.slice none 0 0, .slice none 0 0]) (t := 27) gs_ ?_
   intro gb219 hg w15 hbox hb
   replace HO215 := rb_ HO215 hb
   replace HO218 := rb_ HO218 hb
   replace HB := Aside0.mk (below_step (by repeat (first | (with_reducible first | exact HB.out | apply below_alloc | apply pw_below_drewN | apply below_drew1 | refine below_set ?_ (IsS67.ge HI0.out) | refine below_set ?_ GE212.out) | exact HB.out)) hb)
   have BK219 := Aside0.mk (hbox)
   have GW219 := Aside0.mk ((by rw [hg]; exact (keep_size (w := w) (g := g) (row := none) (by repeat (first | (with_reducible first | exact HK.out | apply KeepBut.set_ | apply keep_drewN | apply keep_drew | apply keep_alloc | refine keep_far ?_ GW212.out _) | exact HK.out))) : w.heap.size ≤ gb219))
   have GE219 := Aside0.mk ((Nat.le_trans HW0.out (by rw [hg]; exact (keep_size (w := w) (g := g) (row := none) (by repeat (first | (with_reducible first | exact HK.out | apply KeepBut.set_ | apply keep_drewN | apply keep_drew | apply keep_alloc | refine keep_far ?_ GW212.out _) | exact HK.out))) : w.heap.size ≤ gb219) : w0.heap.size ≤ gb219))
   replace HK := Aside0.mk (KeepBut.trans (by repeat (first | (with_reducible first | exact HK.out | apply KeepBut.set_ | apply keep_drewN | apply keep_drew | apply keep_alloc | refine keep_far ?_ GW212.out _) | exact HK.out)) (KeepBut.of_below hb g none) (.inl rfl))
   have NB212_219 := nl_ hg BK212
   have NB219_212 := nm_ hg BK212
   replace BK212 := bb_ BK212 hb
   have NB0_219 := Aside0.mk ((by rw [hg]; exact Nat.ne_of_lt (IsS67.lt (show IsS67 w0 _ g s0_0 s0_1 s0_2 from by repeat (first | (with_reducible first | exact HI0.out | apply IsS67.alloc | apply IsS67.drewN | apply IsS67.drew | apply IsS67.set_1 | apply IsS67.set_2 | refine IsS67.far ?_ NB0_212.out _) | exact HI0.out))) : g ≠ gb219))
   have NB219_0 := Aside0.mk ((by rw [hg]; exact Nat.ne_of_gt (IsS67.lt (show IsS67 w0 _ g s0_0 s0_1 s0_2 from by repeat (first | (with_reducible first | exact HI0.out | apply IsS67.alloc | apply IsS67.drewN | apply IsS67.drew | apply IsS67.set_1 | apply IsS67.set_2 | refine IsS67.far ?_ NB0_212.out _) | exact HI0.out))) : gb219 ≠ g))
   replace HI0 := Aside0.mk (IsS67.below (by repeat (first | (with_reducible first | exact HI0.out | apply IsS67.alloc | apply IsS67.drewN | apply IsS67.drew | apply IsS67.set_1 | apply IsS67.set_2 | refine IsS67.far ?_ NB0_212.out _) | exact HI0.out)) hb)
   clear hb hbox hg
   refine hK.out _ _ trivial (fun hHeld => ?_)
   clear hK K
   refine norm_ nn_ ?_
   exact norm_ nq_ (hJ0_1_3 (.slice Ao14 y213.length co14, .slice Ao13 y216.length co13, gb219) _ ⟨(kr_ HO215.out), kr_ HO218.out, kb_ BK212.out, kb_ BK219.out, GW219.out, GE219.out, NB0_219.out, NB219_0.out, NB212_219.out, NB219_212.out, (by repeat (first | (with_reducible first | exact HI0.out | apply IsS67.alloc | apply IsS67.drewN | apply IsS67.drew | apply IsS67.set_1 | apply IsS67.set_2 | refine IsS67.far ?_ NB0_212.out _ | refine IsS67.far ?_ NB0_219.out _) | exact HI0.out)), (by repeat (first | (with_reducible first | exact HK.out | apply KeepBut.set_ | apply keep_drewN | apply keep_drew | apply keep_alloc | refine keep_far ?_ GW212.out _ | refine keep_far ?_ GW219.out _) | exact HK.out)), (by repeat (first | (with_reducible first | exact HB.out | apply below_alloc | apply pw_below_drewN | apply below_drew1 | refine below_set ?_ (IsS67.ge HI0.out) | refine below_set ?_ GE212.out | refine below_set ?_ GE219.out) | exact HB.out))⟩)
 rintro ⟨v214, v217, gb219⟩ w13 ⟨h0_, h1_, h2_, h3_, h4_, h5_, h6_, h7_, h8_, h9_, h10_, h11_, h12_⟩
 dsimp only at h0_ h1_ h2_ h3_ h4_ h5_ h6_ h7_ h8_ h9_ h10_ h11_ h12_
 have HO215 := Aside0.mk h0_
 have HO218 := Aside0.mk h1_
 replace BK212 := Aside0.mk h2_
 have BK219 := Aside0.mk h3_
 have GW219 := Aside0.mk h4_
 have GE219 := Aside0.mk h5_
 have NB0_219 := Aside0.mk h6_
 have NB219_0 := Aside0.mk h7_
 have NB212_219 := Aside0.mk h8_
 have NB219_212 := Aside0.mk h9_
 replace HI0 := Aside0.mk h10_
 replace HK := Aside0.mk h11_
 replace HB := Aside0.mk h12_
 clear h0_ h1_ h2_ h3_ h4_ h5_ h6_ h7_ h8_ h9_ h10_ h11_ h12_
 have hHeld := trivial
 obtain ⟨Ao14, co14, eo14⟩ := Kd.R_slice HO218.out
 (first | subst eo14 | (injection eo14 with f1_ f2_ f3_; have f4_ := f1_.symm; have f5_ := f3_.symm; clear f1_ f2_ f3_; subst f4_; subst f5_))
 obtain ⟨Ao15, co15, eo15⟩ := Kd.R_slice HO215.out
 (first | subst eo15 | (injection eo15 with f1_ f2_ f3_; have f4_ := f1_.symm; have f5_ := f3_.symm; clear f1_ f2_ f3_; subst f4_; subst f5_))
 refine norm_ np_ ?_
 refine on_ 4 none (h := fun K hK => ?_)
 have hs16 : w13.cell? ⟨gb219, 0, none⟩ = some (.slice none 0 0) := bc_ BK219.out 0
 have hfs16 := blk_frozen BK219.out 0
 have hns16_0 := NB212_219.out
 have hms16_0 := NB219_212.out
 have hs17 : w13.cell? ⟨gb219, 1, none⟩ = some (.slice none 0 0) := bc_ BK219.out 1
 have hfs17 := blk_frozen BK219.out 1
 have hns17_0 := NB212_219.out
 have hms17_0 := NB219_212.out
 refine skip_ (w1 := ?_) (by rfl) rfl ?_ ?_
 rotate_left
 ·go_simp
  rfl
 refine hK.out _ _ trivial (fun hHeld => ?_)
 clear hK K
 refine done_ (by kernel_rfl) ?_
 try go_wp2_with (first | ((with_reducible refine gate_callee (f := 50) rfl ?_); refine goesL_ (some 11) rfl rfl Try.func50 (by kernel_rfl) rfl #[.pointer (some ⟨g, 0, none⟩), .int .i64 6] rfl nc_ ?_; (with_reducible refine (spec_l1Cur_pick.calls g s0_0 s0_1 s0_2 6 t220 t221 t222 w0 _ ?side1 ?side2 A3.out).mono ?_); (case side1 => repeat (first | (with_reducible first | exact HI0.out | apply IsS67.alloc | apply IsS67.drewN | apply IsS67.drew | apply IsS67.set_1 | apply IsS67.set_2 | refine IsS67.far ?_ NB0_212.out _ | refine IsS67.far ?_ NB0_219.out _) | exact HI0.out)); (case side2 => repeat (first | (with_reducible first | exact HB.out | apply below_alloc | apply pw_below_drewN | apply below_drew1 | refine below_set ?_ (IsS67.ge HI0.out) | refine below_set ?_ GE212.out | refine below_set ?_ GE219.out) | exact HB.out)); rintro e w18 ⟨rfl, hi, hb, hk⟩; refine ⟨_, rfl, ?_⟩; replace BK212 := Aside0.mk (KeepBut.blk hk (g' := gb212) (o := .cells #[.slice none 0 0, .slice none 0 0] 27 (0, 0)) kz_ NB212_0.out (by simp)); replace HO215 := Aside0.mk (Kd.R_mono (Kd.R_keep (IsS67.apart (show IsS67 w0 _ g s0_0 s0_1 s0_2 from by repeat (first | (with_reducible first | exact HI0.out | apply IsS67.alloc | apply IsS67.drewN | apply IsS67.drew | apply IsS67.set_1 | apply IsS67.set_2 | refine IsS67.far ?_ NB0_212.out _ | refine IsS67.far ?_ NB0_219.out _) | exact HI0.out)) (kr_ (rs2_ HO215.out BK219.out (.slice Ao15 y213.length co15) (.slice Ao14 y216.length co14))) (by decide)) hk (fun _ h => h.2)) (fun _ h => h.1)); replace HO218 := Aside0.mk (Kd.R_mono (Kd.R_keep (IsS67.apart (show IsS67 w0 _ g s0_0 s0_1 s0_2 from by repeat (first | (with_reducible first | exact HI0.out | apply IsS67.alloc | apply IsS67.drewN | apply IsS67.drew | apply IsS67.set_1 | apply IsS67.set_2 | refine IsS67.far ?_ NB0_212.out _ | refine IsS67.far ?_ NB0_219.out _) | exact HI0.out)) (kr_ (rs2_ HO218.out BK219.out (.slice Ao15 y213.length co15) (.slice Ao14 y216.length co14))) (by decide)) hk (fun _ h => h.2)) (fun _ h => h.1)); replace BK219 := Aside0.mk (KeepBut.blk hk (g' := gb219) (o := .cells #[.slice Ao15 y213.length co15, .slice Ao14 y216.length co14] 27 (0, 0)) (by (with_reducible repeat (first | refine blk_drewN ?_ _ | refine blk_drew ?_ | refine blk_alloc ?_ _)); refine blk_put (cs := #[.slice Ao15 y213.length co15, .slice none 0 0]) ?_ 1 _ rfl; (with_reducible repeat (first | refine blk_drewN ?_ _ | refine blk_drew ?_ | refine blk_alloc ?_ _)); refine blk_put (cs := #[.slice none 0 0, .slice none 0 0]) ?_ 0 _ rfl; exact kb_ BK219.out) NB219_0.out (by simp)); replace HK := Aside0.mk (KeepBut.trans (by repeat (first | (with_reducible first | exact HK.out | apply KeepBut.set_ | apply keep_drewN | apply keep_drew | apply keep_alloc | refine keep_far ?_ GW212.out _ | refine keep_far ?_ GW219.out _) | exact HK.out)) hk (.inl rfl)); replace HB := Aside0.mk (hb); replace HI0 := Aside0.mk (hi); clear hb hk hi))
 go_loopg [4] k (fun kq v4 w' => ∃ (x4_1 : Int) (x1001_1 : Int) (x1002_1 : Int) (x220000_1 : List Int) (x220001_1 : List Int) (u220000 : Value) (u220001 : Value), v4 = .int .i64 x4_1 ∧ Aside0 (spec_l1Cur_counter.l0 kq x4_1 s0_0 x1001_1 x1002_1 x220000_1 x220001_1 = some (r1, r2, r3, r4)) ∧ Aside0 (kq ≤ k) ∧ Aside0 (Kd.R (Kd.int .i64) 3 w' w.heap.size (fun k_ => some k_ ≠ (u220001 : Value).ownBlock) u220000 x220000_1) ∧ Aside0 (Kd.Q (Kd.int .i64) 3 w' w.heap.size (fun k_ => some k_ ≠ (u220000 : Value).ownBlock) u220001 x220001_1) ∧ Aside0 (w'.heap[gb212]? = some (.cells #[(.slice none 0 0), (.slice none 0 0)] 27 (0, 0))) ∧ Aside0 (w'.heap[gb219]? = some (.cells #[u220000, u220001] 27 (0, 0))) ∧ Aside0 (IsS67 w0 w' g s0_0 x1001_1 x1002_1) ∧ Aside0 (KeepBut w w' g none) ∧ Aside0 (Below w0.heap.size w0 w'))
 case atStart => exact ⟨(t220), (t221), (t222), (y213), (y216), (.slice Ao15 y213.length co15), (.slice Ao14 y216.length co14), (by first | rfl | (simp; done) | (simp [*]; done)), H', ⟨Nat.le_refl _⟩, ⟨by exact kr_ HO215.out⟩, ⟨Kd.Q_of_R (kr_ HO218.out)⟩, ⟨by exact kb_ BK212.out⟩, ⟨by exact kb_ BK219.out⟩, ⟨by repeat (first | (with_reducible first | exact HI0.out | apply IsS67.alloc | apply IsS67.drewN | apply IsS67.drew | apply IsS67.set_1 | apply IsS67.set_2 | refine IsS67.far ?_ NB0_212.out _ | refine IsS67.far ?_ NB0_219.out _) | exact HI0.out)⟩, ⟨by repeat (first | (with_reducible first | exact HK.out | apply KeepBut.set_ | apply keep_drewN | apply keep_drew | apply keep_alloc | refine keep_far ?_ GW212.out _ | refine keep_far ?_ GW219.out _) | exact HK.out)⟩, ⟨by repeat (first | (with_reducible first | exact HB.out | apply below_alloc | apply pw_below_drewN | apply below_drew1 | refine below_set ?_ (IsS67.ge HI0.out) | refine below_set ?_ GE212.out | refine below_set ?_ GE219.out) | exact HB.out)⟩⟩
 clear H'
 try clear p2
 try clear c5
 obtain ⟨x4_1, x1001_1, x1002_1, x220000_1, x220001_1, u220000, u220001, rfl, HA, HK1, HO_220000, HO_220001, BK212, BK219, HI0, HK, HB⟩ := hrel
 cases gk with
 | zero => exact absurd HA.out (by simp [spec_l1Cur_counter.l0])
 | succ k1 => ?_
 have H := HA.out
 clear HA
 simp only [spec_l1Cur_counter.l0] at H
 by_cases c19 : x4_1 > 0
 rotate_left
 ·rw [if_neg c19] at H
  have c19b0 : decide (0 < x4_1) = false := decide_eq_false c19
  clear c19
  replace H := Option.bind_eq_some_iff.mp H
  obtain ⟨⟨t237, t238, t239⟩, A550, H⟩ := H
  replace H : (if t237 = 0 then ((spec_l1Cur_among.f s0_0 t238 t239 (([(-1), 1000000, 1000001] : List Int))).bind fun bt243 => (if 0 < (x220000_1.length : Int) then (some ((x220000_1.set (0 : Int).toNat bt243.1), x220001_1, bt243.2.1, bt243.2.2)) else (none))) else (if t237 = 1 then (if 1 ≤ (x220001_1.length : Int) then (some (x220000_1, (x220001_1.drop (1 : Int).toNat), t238, t239)) else (none)) else (some (x220000_1, x220001_1, t238, t239)))) = some (r1, r2, r3, r4) := H
  have A55 := Aside0.mk A550
  clear A550
  by_cases c56 : t237 = 0
  rotate_left
  ·rw [if_neg c56] at H
   have c56b0 : (t237 == 0) = false := beq_eq_false_iff_ne.mpr c56
   have c56b1 : (t237 != 0) = true := bne_iff_ne.mpr c56
   by_cases c74 : t237 = 1
   rotate_left
   ·rw [if_neg c74] at H
    have c74b0 : (t237 == 1) = false := beq_eq_false_iff_ne.mpr c74
    have c74b1 : (t237 != 1) = true := bne_iff_ne.mpr c74
    simp only [Option.some.injEq, Prod.mk.injEq] at H
    obtain ⟨rfl, rfl, rfl, rfl⟩ := H
    go_wp2_with (first | ((with_reducible refine gate_callee (f := 50) rfl ?_); refine goesL_ (some 29) rfl rfl Try.func50 (by kernel_rfl) rfl #[.pointer (some ⟨g, 0, none⟩), .int .i64 40] rfl nc_ ?_; (with_reducible refine (spec_l1Cur_pick.calls g s0_0 x1001_1 x1002_1 40 t237 t238 t239 w0 _ ?side1 ?side2 A55.out).mono ?_); (case side1 => repeat (first | (with_reducible first | exact HI0.out | apply IsS67.alloc | apply IsS67.drewN | apply IsS67.drew | apply IsS67.set_1 | apply IsS67.set_2 | refine IsS67.far ?_ NB0_212.out _ | refine IsS67.far ?_ NB0_219.out _) | exact HI0.out)); (case side2 => repeat (first | (with_reducible first | exact HB.out | apply below_alloc | apply pw_below_drewN | apply below_drew1 | refine below_set ?_ (IsS67.ge HI0.out) | refine below_set ?_ GE212.out | refine below_set ?_ GE219.out) | exact HB.out)); rintro e w85 ⟨rfl, hi, hb, hk⟩; refine ⟨_, rfl, ?_⟩; replace HO_220000 := Aside0.mk (Kd.R_mono (Kd.R_keep (IsS67.apart (show IsS67 w0 _ g s0_0 x1001_1 x1002_1 from by repeat (first | (with_reducible first | exact HI0.out | apply IsS67.alloc | apply IsS67.drewN | apply IsS67.drew | apply IsS67.set_1 | apply IsS67.set_2 | refine IsS67.far ?_ NB0_212.out _ | refine IsS67.far ?_ NB0_219.out _) | exact HI0.out)) (kr_ HO_220000.out) (by decide)) hk (fun _ h => h.2)) (fun _ h => h.1)); replace HO_220001 := Aside0.mk (Kd.Q_mono (Kd.Q_keep (IsS67.apartQ (show IsS67 w0 _ g s0_0 x1001_1 x1002_1 from by repeat (first | (with_reducible first | exact HI0.out | apply IsS67.alloc | apply IsS67.drewN | apply IsS67.drew | apply IsS67.set_1 | apply IsS67.set_2 | refine IsS67.far ?_ NB0_212.out _ | refine IsS67.far ?_ NB0_219.out _) | exact HI0.out)) (kq_ HO_220001.out) (by decide)) hk (fun _ h => h.2)) (fun _ h => h.1)); replace BK212 := Aside0.mk (KeepBut.blk hk (g' := gb212) (o := .cells #[.slice none 0 0, .slice none 0 0] 27 (0, 0)) (kb_ BK212.out) NB212_0.out (by simp)); replace BK219 := Aside0.mk (KeepBut.blk hk (g' := gb219) (o := .cells #[u220000, u220001] 27 (0, 0)) (kb_ BK219.out) NB219_0.out (by simp)); replace HK := Aside0.mk (KeepBut.trans (by repeat (first | (with_reducible first | exact HK.out | apply KeepBut.set_ | apply keep_drewN | apply keep_drew | apply keep_alloc | refine keep_far ?_ GW212.out _ | refine keep_far ?_ GW219.out _) | exact HK.out)) hk (.inl rfl)); replace HB := Aside0.mk (hb); replace HI0 := Aside0.mk (hi); clear hb hk hi; have hnb86 := NB219_212.out; have hnc86 := NB212_219.out; have hnb87 := NB219_0.out; have hnc87 := NB0_219.out; have hcz88_0 : w85.cell? ⟨gb219, 0, none⟩ = some (u220000) := bc_ BK219.out 0; have hcz88_1 : w85.cell? ⟨gb219, 1, none⟩ = some (u220001) := bc_ BK219.out 1; have hfz88_0 := blk_frozen BK219.out 0; have hfz88_1 := blk_frozen BK219.out 1; obtain ⟨Ao89, co89, eo89⟩ := Kd.R_slice HO_220000.out; subst eo89; have hnb90 := NB212_0.out; have hnc90 := NB0_212.out; have hcz91_0 : w85.cell? ⟨gb212, 0, none⟩ = some (.slice none 0 0) := bc_ BK212.out 0; have hcz91_1 : w85.cell? ⟨gb212, 1, none⟩ = some (.slice none 0 0) := bc_ BK212.out 1; have hfz91_0 := blk_frozen BK212.out 0; have hfz91_1 := blk_frozen BK212.out 1; obtain ⟨Ao92, co92, eo92, _⟩ := Kd.Q_slice HO_220001.out; subst eo92))
    refine bodyPost_ret (results_cell_row rfl _ _ gb212 27 #[.slice Ao89 x220000_1.length co89, .slice Ao92 x220001_1.length co92] (0, 0) _ rfl (by (with_reducible repeat (first | refine blk_drewN ?_ _ | refine blk_drew ?_ | refine blk_alloc ?_ _)); refine blk_put (cs := #[.slice Ao89 x220000_1.length co89, .slice none 0 0]) ?_ 1 _ rfl; (with_reducible repeat (first | refine blk_drewN ?_ _ | refine blk_drew ?_ | refine blk_alloc ?_ _)); refine blk_put (cs := #[.slice none 0 0, .slice none 0 0]) ?_ 0 _ rfl; exact kb_ BK212.out) Try.underlying27 rfl (by kernel_rfl)) rfl ?_
    exact ⟨_, _, ng_, by exact kr_ (Kd.R_mono (Kd.R_far (p := ⟨gb212, 1, none⟩) (Kd.R_far (p := ⟨gb212, 0, none⟩) (Kd.R_types HO_220000.out BK212.out (by decide)) (fun _ hk => hk.2) (.slice Ao89 x220000_1.length co89)) (fun _ hk => hk.2) (.slice Ao92 x220001_1.length co92)) (fun _ hk => hk.1)), by exact kq_ (Kd.Q_mono (Kd.Q_far (p := ⟨gb212, 1, none⟩) (Kd.Q_far (p := ⟨gb212, 0, none⟩) (Kd.Q_types HO_220001.out BK212.out (by decide)) (fun _ hk => hk.2) (.slice Ao89 x220000_1.length co89)) (fun _ hk => hk.2) (.slice Ao92 x220001_1.length co92)) (fun _ hk => hk.1)), by repeat (first | (with_reducible first | exact HI0.out | apply IsS67.alloc | apply IsS67.drewN | apply IsS67.drew | apply IsS67.set_1 | apply IsS67.set_2 | refine IsS67.far ?_ NB0_212.out _ | refine IsS67.far ?_ NB0_219.out _) | exact HI0.out), by repeat (first | (with_reducible first | exact HB.out | apply below_alloc | apply pw_below_drewN | apply below_drew1 | refine below_set ?_ (IsS67.ge HI0.out) | refine below_set ?_ GE212.out | refine below_set ?_ GE219.out) | exact HB.out), by repeat (first | (with_reducible first | exact HK.out | apply KeepBut.set_ | apply keep_drewN | apply keep_drew | apply keep_alloc | refine keep_far ?_ GW212.out _ | refine keep_far ?_ GW219.out _) | exact HK.out)⟩
   rw [if_pos c74] at H
   have c74b0 : (t237 == 1) = true := beq_iff_eq.mpr c74
   have c74b1 : (t237 != 1) = false := bne_eq_false_iff_eq.mpr c74
   clear c74
   by_cases c75 : 1 ≤ (x220001_1.length : Int)
   rotate_left
   ·rw [if_neg c75] at H
    exact absurd H (by simp)
   rw [if_pos c75] at H
   have c75b0 := eq_true c75
   have c75b1 : decide (1 ≤ (x220001_1.length : Int)) = true := decide_eq_true c75
   clear c75
   obtain ⟨y247, hy247⟩ : ∃ y_ : List Int, y_ = (x220001_1.drop (1 : Int).toNat) := ⟨_, rfl⟩
   replace H : (some (x220000_1, y247, t238, t239)) = some (r1, r2, r3, r4) := by first | (rw [hy247]; with_reducible exact H) | (have H2_ := (Option.bind_some _ _).symm.trans H; rw [hy247]; with_reducible exact H2_) | (have H2_ := (Option.bind_some _ _).symm.trans H; with_reducible exact H2_) | with_reducible exact H | (rw [hy247]; exact H) | exact H
   have Ny247 := Aside0.mk hy247
   clear hy247
   simp only [Option.some.injEq, Prod.mk.injEq] at H
   obtain ⟨rfl, rfl, rfl, rfl⟩ := H
   go_wp2_with (first | ((with_reducible refine gate_callee (f := 50) rfl ?_); refine goesL_ (some 29) rfl rfl Try.func50 (by kernel_rfl) rfl #[.pointer (some ⟨g, 0, none⟩), .int .i64 40] rfl nc_ ?_; (with_reducible refine (spec_l1Cur_pick.calls g s0_0 x1001_1 x1002_1 40 t237 t238 t239 w0 _ ?side1 ?side2 A55.out).mono ?_); (case side1 => repeat (first | (with_reducible first | exact HI0.out | apply IsS67.alloc | apply IsS67.drewN | apply IsS67.drew | apply IsS67.set_1 | apply IsS67.set_2 | refine IsS67.far ?_ NB0_212.out _ | refine IsS67.far ?_ NB0_219.out _) | exact HI0.out)); (case side2 => repeat (first | (with_reducible first | exact HB.out | apply below_alloc | apply pw_below_drewN | apply below_drew1 | refine below_set ?_ (IsS67.ge HI0.out) | refine below_set ?_ GE212.out | refine below_set ?_ GE219.out) | exact HB.out)); rintro e w76 ⟨rfl, hi, hb, hk⟩; refine ⟨_, rfl, ?_⟩; replace HO_220000 := Aside0.mk (Kd.R_mono (Kd.R_keep (IsS67.apart (show IsS67 w0 _ g s0_0 x1001_1 x1002_1 from by repeat (first | (with_reducible first | exact HI0.out | apply IsS67.alloc | apply IsS67.drewN | apply IsS67.drew | apply IsS67.set_1 | apply IsS67.set_2 | refine IsS67.far ?_ NB0_212.out _ | refine IsS67.far ?_ NB0_219.out _) | exact HI0.out)) (kr_ HO_220000.out) (by decide)) hk (fun _ h => h.2)) (fun _ h => h.1)); replace HO_220001 := Aside0.mk (Kd.Q_mono (Kd.Q_keep (IsS67.apartQ (show IsS67 w0 _ g s0_0 x1001_1 x1002_1 from by repeat (first | (with_reducible first | exact HI0.out | apply IsS67.alloc | apply IsS67.drewN | apply IsS67.drew | apply IsS67.set_1 | apply IsS67.set_2 | refine IsS67.far ?_ NB0_212.out _ | refine IsS67.far ?_ NB0_219.out _) | exact HI0.out)) (kq_ HO_220001.out) (by decide)) hk (fun _ h => h.2)) (fun _ h => h.1)); replace BK212 := Aside0.mk (KeepBut.blk hk (g' := gb212) (o := .cells #[.slice none 0 0, .slice none 0 0] 27 (0, 0)) (kb_ BK212.out) NB212_0.out (by simp)); replace BK219 := Aside0.mk (KeepBut.blk hk (g' := gb219) (o := .cells #[u220000, u220001] 27 (0, 0)) (kb_ BK219.out) NB219_0.out (by simp)); replace HK := Aside0.mk (KeepBut.trans (by repeat (first | (with_reducible first | exact HK.out | apply KeepBut.set_ | apply keep_drewN | apply keep_drew | apply keep_alloc | refine keep_far ?_ GW212.out _ | refine keep_far ?_ GW219.out _) | exact HK.out)) hk (.inl rfl)); replace HB := Aside0.mk (hb); replace HI0 := Aside0.mk (hi); clear hb hk hi; have hnb77 := NB219_212.out; have hnc77 := NB212_219.out; have hnb78 := NB219_0.out; have hnc78 := NB0_219.out; have hcz79_0 : w76.cell? ⟨gb219, 0, none⟩ = some (u220000) := bc_ BK219.out 0; have hcz79_1 : w76.cell? ⟨gb219, 1, none⟩ = some (u220001) := bc_ BK219.out 1; have hfz79_0 := blk_frozen BK219.out 0; have hfz79_1 := blk_frozen BK219.out 1; obtain ⟨Ao80, co80, eo80, _⟩ := Kd.Q_slice HO_220001.out; subst eo80; have q81 : (1 : Int) ≤ ((x220001_1.length : Int) : Int) := of_decide_eq_true (by first | (with_reducible assumption) | assumption); obtain ⟨i081, hi081, _, hsz81, _⟩ := info_parts info3; have hcut81 := cut_from (P := Try.prog) 22 3 .i64 Try.underlying22 hi081 1 hsz81 Ao80 x220001_1.length co80 1 (by omega) q81; have hr81 := Kd.Q_drop (k := (1 : Int).toNat) HO_220001.out (by omega); obtain ⟨A81, hA81⟩ : ∃ A1, A1 = (if co80 = (1 : Int).toNat then Ao80 else (Ao80 : Option Addr).map (·.add ((1 : Int).toNat * 1))) := ⟨_, rfl⟩; obtain ⟨c81, hc81⟩ : ∃ c1, c1 = co80 - (1 : Int).toNat := ⟨_, rfl⟩; have hy81 : y247.length = x220001_1.length - (1 : Int).toNat := (by rw [Ny247.out, List.length_drop]); rw [← Ny247.out] at hr81; rw [← hy81, ← hA81, ← hc81] at hcut81; replace hr81 : Kd.Q (Kd.int .i64) 3 w76 w.heap.size (fun k_ => some k_ ≠ (u220000 : Value).ownBlock) (.slice A81 y247.length c81) y247 := (by rw [hA81, hc81, hy81]; exact hr81); have HE81 : Aside0 ((Value.slice A81 y247.length c81).ownBlock = (.slice Ao80 x220001_1.length co80 : Value).ownBlock) := ⟨by rw [hA81]; split <;> (cases (Ao80 : Option Addr) <;> rfl)⟩; clear hy81 hi081 hsz81 HO_220001 hA81 hc81; have HO249 := Aside0.mk hr81; clear hr81; replace q81 := eq_true q81; have n_ := Aside0.mk (Kd.R_mono (ok' := fun k_ => some k_ ≠ (.slice A81 y247.length c81 : Value).ownBlock) HO_220000.out (fun k_ hk => (by rw [HE81.out]; exact hk))); clear HO_220000; have HO_220000 := n_; clear n_; obtain ⟨Ao82, co82, eo82⟩ := Kd.R_slice HO_220000.out; subst eo82; have hnb83 := NB212_0.out; have hnc83 := NB0_212.out; have hcz84_0 : w76.cell? ⟨gb212, 0, none⟩ = some (.slice none 0 0) := bc_ BK212.out 0; have hcz84_1 : w76.cell? ⟨gb212, 1, none⟩ = some (.slice none 0 0) := bc_ BK212.out 1; have hfz84_0 := blk_frozen BK212.out 0; have hfz84_1 := blk_frozen BK212.out 1))
   refine bodyPost_ret (results_cell_row rfl _ _ gb212 27 #[.slice Ao82 x220000_1.length co82, .slice A81 y247.length c81] (0, 0) _ rfl (by (with_reducible repeat (first | refine blk_drewN ?_ _ | refine blk_drew ?_ | refine blk_alloc ?_ _)); refine blk_put (cs := #[.slice Ao82 x220000_1.length co82, .slice none 0 0]) ?_ 1 _ rfl; (with_reducible repeat (first | refine blk_drewN ?_ _ | refine blk_drew ?_ | refine blk_alloc ?_ _)); refine blk_put (cs := #[.slice none 0 0, .slice none 0 0]) ?_ 0 _ rfl; (with_reducible repeat (first | refine blk_drewN ?_ _ | refine blk_drew ?_ | refine blk_alloc ?_ _)); refine blk_far ?_ NB212_219.out _; exact kb_ BK212.out) Try.underlying27 rfl (by kernel_rfl)) rfl ?_
   exact ⟨_, _, ng_, by exact kr_ (Kd.R_mono (Kd.R_far (p := ⟨gb212, 1, none⟩) (Kd.R_far (p := ⟨gb212, 0, none⟩) (Kd.R_far (p := ⟨gb219, 1, none⟩) (Kd.R_types (Kd.R_types HO_220000.out BK219.out (by decide)) BK212.out (by decide)) (fun _ hk => hk.1.2) (.slice A81 y247.length c81)) (fun _ hk => hk.2) (.slice Ao82 x220000_1.length co82)) (fun _ hk => hk.2) (.slice A81 y247.length c81)) (fun _ hk => hk.1.1)), by exact kq_ (Kd.Q_mono (Kd.Q_far (p := ⟨gb212, 1, none⟩) (Kd.Q_far (p := ⟨gb212, 0, none⟩) (Kd.Q_far (p := ⟨gb219, 1, none⟩) (Kd.Q_types (Kd.Q_types HO249.out BK219.out (by decide)) BK212.out (by decide)) (fun _ hk => hk.1.2) (.slice A81 y247.length c81)) (fun _ hk => hk.2) (.slice Ao82 x220000_1.length co82)) (fun _ hk => hk.2) (.slice A81 y247.length c81)) (fun _ hk => hk.1.1)), by repeat (first | (with_reducible first | exact HI0.out | apply IsS67.alloc | apply IsS67.drewN | apply IsS67.drew | apply IsS67.set_1 | apply IsS67.set_2 | refine IsS67.far ?_ NB0_212.out _ | refine IsS67.far ?_ NB0_219.out _) | exact HI0.out), by repeat (first | (with_reducible first | exact HB.out | apply below_alloc | apply pw_below_drewN | apply below_drew1 | refine below_set ?_ (IsS67.ge HI0.out) | refine below_set ?_ GE212.out | refine below_set ?_ GE219.out) | exact HB.out), by repeat (first | (with_reducible first | exact HK.out | apply KeepBut.set_ | apply keep_drewN | apply keep_drew | apply keep_alloc | refine keep_far ?_ GW212.out _ | refine keep_far ?_ GW219.out _) | exact HK.out)⟩
  rw [if_pos c56] at H
  have c56b0 : (t237 == 0) = true := beq_iff_eq.mpr c56
  have c56b1 : (t237 != 0) = false := bne_eq_false_iff_eq.mpr c56
  clear c56
  obtain ⟨y240, hy240⟩ : ∃ y_ : List Int, y_ = (([(-1), 1000000, 1000001] : List Int)) := ⟨_, rfl⟩
  replace H : ((spec_l1Cur_among.f s0_0 t238 t239 y240).bind fun bt243 => (if 0 < (x220000_1.length : Int) then (some ((x220000_1.set (0 : Int).toNat bt243.1), x220001_1, bt243.2.1, bt243.2.2)) else (none))) = some (r1, r2, r3, r4) := by first | (rw [hy240]; with_reducible exact H) | (have H2_ := (Option.bind_some _ _).symm.trans H; rw [hy240]; with_reducible exact H2_) | (have H2_ := (Option.bind_some _ _).symm.trans H; with_reducible exact H2_) | with_reducible exact H | (rw [hy240]; exact H) | exact H
  have Ny240 := Aside0.mk hy240
  clear hy240
  replace H := Option.bind_eq_some_iff.mp H
  obtain ⟨⟨t243, t244, t245⟩, A570, H⟩ := H
  replace H : (if 0 < (x220000_1.length : Int) then (some ((x220000_1.set (0 : Int).toNat t243), x220001_1, t244, t245)) else (none)) = some (r1, r2, r3, r4) := H
  have A57 := Aside0.mk A570
  clear A570
  by_cases c58 : 0 < (x220000_1.length : Int)
  rotate_left
  ·rw [if_neg c58] at H
   exact absurd H (by simp)
  rw [if_pos c58] at H
  have c58b0 : decide (0 < (x220000_1.length : Int)) = true := decide_eq_true c58
  have c58b1 : decide (0 < x220000_1.length) = true := decide_eq_true (by omega)
  clear c58
  obtain ⟨y246, hy246⟩ : ∃ y_ : List Int, y_ = (x220000_1.set (0 : Int).toNat t243) := ⟨_, rfl⟩
  replace H : (some (y246, x220001_1, t244, t245)) = some (r1, r2, r3, r4) := by first | (rw [hy246]; with_reducible exact H) | (have H2_ := (Option.bind_some _ _).symm.trans H; rw [hy246]; with_reducible exact H2_) | (have H2_ := (Option.bind_some _ _).symm.trans H; with_reducible exact H2_) | with_reducible exact H | (rw [hy246]; exact H) | exact H
  have Ny246 := Aside0.mk hy246
  clear hy246
  simp only [Option.some.injEq, Prod.mk.injEq] at H
  obtain ⟨rfl, rfl, rfl, rfl⟩ := H
  try go_wp2_with (first | ((with_reducible refine gate_callee (f := 50) rfl ?_); refine goesL_ (some 29) rfl rfl Try.func50 (by kernel_rfl) rfl #[.pointer (some ⟨g, 0, none⟩), .int .i64 40] rfl nc_ ?_; (with_reducible refine (spec_l1Cur_pick.calls g s0_0 x1001_1 x1002_1 40 t237 t238 t239 w0 _ ?side1 ?side2 A55.out).mono ?_); (case side1 => repeat (first | (with_reducible first | exact HI0.out | apply IsS67.alloc | apply IsS67.drewN | apply IsS67.drew | apply IsS67.set_1 | apply IsS67.set_2 | refine IsS67.far ?_ NB0_212.out _ | refine IsS67.far ?_ NB0_219.out _) | exact HI0.out)); (case side2 => repeat (first | (with_reducible first | exact HB.out | apply below_alloc | apply pw_below_drewN | apply below_drew1 | refine below_set ?_ (IsS67.ge HI0.out) | refine below_set ?_ GE212.out | refine below_set ?_ GE219.out) | exact HB.out)); rintro e w60 ⟨rfl, hi, hb, hk⟩; refine ⟨_, rfl, ?_⟩; replace HO_220000 := Aside0.mk (Kd.R_mono (Kd.R_keep (IsS67.apart (show IsS67 w0 _ g s0_0 x1001_1 x1002_1 from by repeat (first | (with_reducible first | exact HI0.out | apply IsS67.alloc | apply IsS67.drewN | apply IsS67.drew | apply IsS67.set_1 | apply IsS67.set_2 | refine IsS67.far ?_ NB0_212.out _ | refine IsS67.far ?_ NB0_219.out _) | exact HI0.out)) (kr_ HO_220000.out) (by decide)) hk (fun _ h => h.2)) (fun _ h => h.1)); replace HO_220001 := Aside0.mk (Kd.Q_mono (Kd.Q_keep (IsS67.apartQ (show IsS67 w0 _ g s0_0 x1001_1 x1002_1 from by repeat (first | (with_reducible first | exact HI0.out | apply IsS67.alloc | apply IsS67.drewN | apply IsS67.drew | apply IsS67.set_1 | apply IsS67.set_2 | refine IsS67.far ?_ NB0_212.out _ | refine IsS67.far ?_ NB0_219.out _) | exact HI0.out)) (kq_ HO_220001.out) (by decide)) hk (fun _ h => h.2)) (fun _ h => h.1)); replace BK212 := Aside0.mk (KeepBut.blk hk (g' := gb212) (o := .cells #[.slice none 0 0, .slice none 0 0] 27 (0, 0)) (kb_ BK212.out) NB212_0.out (by simp)); replace BK219 := Aside0.mk (KeepBut.blk hk (g' := gb219) (o := .cells #[u220000, u220001] 27 (0, 0)) (kb_ BK219.out) NB219_0.out (by simp)); replace HK := Aside0.mk (KeepBut.trans (by repeat (first | (with_reducible first | exact HK.out | apply KeepBut.set_ | apply keep_drewN | apply keep_drew | apply keep_alloc | refine keep_far ?_ GW212.out _ | refine keep_far ?_ GW219.out _) | exact HK.out)) hk (.inl rfl)); replace HB := Aside0.mk (hb); replace HI0 := Aside0.mk (hi); clear hb hk hi))
  replace HO_220000 := Aside0.mk (Kd.R_drew HO_220000.out)
  replace HO_220001 := Aside0.mk (Kd.Q_drew HO_220001.out)
  replace BK212 := Aside0.mk (blk_drew BK212.out)
  replace BK219 := Aside0.mk (blk_drew BK219.out)
  replace HI0 := Aside0.mk (IsS67.drew HI0.out)
  replace HK := Aside0.mk (keep_drew HK.out)
  replace HB := Aside0.mk (below_drew1 HB.out)
  refine start_ (n := 7) (S := fun w' => w'.cell? ⟨gb219, 0, none⟩ = some (u220000) ∧ w'.cell? ⟨gb219, 1, none⟩ = some (u220001)) (ds := [6]) #[false, false, false, false, false, false, false] (by kernel_rfl) rfl rfl ⟨bc_ BK219.out 0, bc_ BK219.out 1⟩ (fun hHeld => ?_)
  generalize w60.drew = w61 at HO_220000 HO_220001 BK212 BK219 HI0 HK HB hHeld ⊢
  refine pu_ 0 (some 32) (h := ?_)
  refine pu_ 2 (some 34) (h := ?_)
  refine tk2_ 1 (some 33) (h := ?_)
  refine on_ 3 (some 35) (h := fun K hK => ?_)
  refine Kd.R_lit_step (Kd.int .i64) _ 3 rfl (N := 35) rfl (xs := ([(-1), 1000000, 1000001] : List Int)) (inner := [.int .i64 (-1), .int .i64 1000000, .int .i64 1000001]) (ok := fun _ => True) (okp := fun _ => True) gs_ ?hp (fun _ hk => hk) trivial (Below.refl _ _) (Nat.le_refl _) (by simp) ?_; (case hp => exact (Reps.one (show Kd.M (Kd.int .i64) _ _ _ (-1) [.int .i64 (-1)] from rfl) (Reps.one (show Kd.M (Kd.int .i64) _ _ _ 1000000 [.int .i64 1000000] from rfl) (Reps.one (show Kd.M (Kd.int .i64) _ _ _ 1000001 [.int .i64 1000001] from rfl) (Reps.none _ _)))))
  intro v241 w62 ho63 hb hg_ hnew_
  clear hg_ hnew_
  (first | rw [← Ny240.out] at ho63 | (simp only [Int.reduceToNat] at ho63; rw [← Ny240.out] at ho63))
  have HO242 := Aside0.mk (Kd.R_lower (rnq_ (rn_ ho63 HO_220000.out) HO_220001.out) (keep_size (w := w) (g := g) (row := none) (by repeat (first | (with_reducible first | exact HK.out | apply KeepBut.set_ | apply keep_drewN | apply keep_drew | apply keep_alloc | refine keep_far ?_ GW212.out _ | refine keep_far ?_ GW219.out _) | exact HK.out))))
  replace HO_220000 := Aside0.mk (Kd.R_elder' (kr_ HO_220000.out) (Kd.R_base ho63) hb)
  replace HO_220001 := Aside0.mk (Kd.Q_elder' (kq_ HO_220001.out) (Kd.R_base ho63) hb)
  replace BK212 := bb_ BK212 hb
  replace BK219 := bb_ BK219 hb
  replace HK := Aside0.mk (KeepBut.trans (by repeat (first | (with_reducible first | exact HK.out | apply KeepBut.set_ | apply keep_drewN | apply keep_drew | apply keep_alloc | refine keep_far ?_ GW212.out _ | refine keep_far ?_ GW219.out _) | exact HK.out)) (KeepBut.of_below hb g none) (.inl rfl))
  replace HB := Aside0.mk (below_step (by repeat (first | (with_reducible first | exact HB.out | apply below_alloc | apply pw_below_drewN | apply below_drew1 | refine below_set ?_ (IsS67.ge HI0.out) | refine below_set ?_ GE212.out | refine below_set ?_ GE219.out) | exact HB.out)) hb)
  replace HI0 := Aside0.mk (IsS67.below (by repeat (first | (with_reducible first | exact HI0.out | apply IsS67.alloc | apply IsS67.drewN | apply IsS67.drew | apply IsS67.set_1 | apply IsS67.set_2 | refine IsS67.far ?_ NB0_212.out _ | refine IsS67.far ?_ NB0_219.out _) | exact HI0.out)) hb)
  clear hb ho63
  obtain ⟨Ao64, co64, eo64⟩ := Kd.R_slice HO242.out
  (first | subst eo64 | (injection eo64 with f1_ f2_ f3_; have f4_ := f1_.symm; have f5_ := f3_.symm; clear f1_ f2_ f3_; subst f4_; subst f5_))
  refine hK.out _ _ ⟨bc_ BK219.out 0, bc_ BK219.out 1⟩ (fun hHeld => ?_)
  clear hK K
  refine norm_ nn_ ?_
  refine on_ 4 (some 36) (h := fun K hK => ?_)
  refine goes_ Try.func60 (by kernel_rfl) rfl #[.pointer (some ⟨g, 0, none⟩), .slice Ao64 y240.length co64] (by rfl) rfl rfl nc_ ?_
  with_reducible refine (spec_l1Cur_among.calls g s0_0 t238 t239 _ _ y240 t243 t244 t245 w0 _ ?side1 ?side2 ?side3 ?side4 ?side5 A57.out).mono ?_
  (case side1 => repeat (first | (with_reducible first | exact HI0.out | apply IsS67.alloc | apply IsS67.drewN | apply IsS67.drew | apply IsS67.set_1 | apply IsS67.set_2 | refine IsS67.far ?_ NB0_212.out _ | refine IsS67.far ?_ NB0_219.out _) | exact HI0.out))
  (case side2 => repeat (first | (with_reducible first | exact HB.out | apply below_alloc | apply pw_below_drewN | apply below_drew1 | refine below_set ?_ (IsS67.ge HI0.out) | refine below_set ?_ GE212.out | refine below_set ?_ GE219.out) | exact HB.out))
  (case side3 => exact kc_ (Kd.R_reads' HO242.out).2.2)
  (case side4 => exact (Kd.R_reads' HO242.out).2.1)
  (case side5 => exact far_slice (IsS67.own_ne HI0.out HO242.out (by decide)))
  rintro e w65 ⟨rfl, hi, hb, hk⟩
  refine ⟨_, rfl, ?_⟩
  replace HO_220000 := Aside0.mk (Kd.R_mono (Kd.R_keep (IsS67.apart (show IsS67 w0 _ g s0_0 t238 t239 from by repeat (first | (with_reducible first | exact HI0.out | apply IsS67.alloc | apply IsS67.drewN | apply IsS67.drew | apply IsS67.set_1 | apply IsS67.set_2 | refine IsS67.far ?_ NB0_212.out _ | refine IsS67.far ?_ NB0_219.out _) | exact HI0.out)) (kr_ HO_220000.out) (by decide)) hk (fun _ h => h.2)) (fun _ h => h.1))
  replace HO_220001 := Aside0.mk (Kd.Q_mono (Kd.Q_keep (IsS67.apartQ (show IsS67 w0 _ g s0_0 t238 t239 from by repeat (first | (with_reducible first | exact HI0.out | apply IsS67.alloc | apply IsS67.drewN | apply IsS67.drew | apply IsS67.set_1 | apply IsS67.set_2 | refine IsS67.far ?_ NB0_212.out _ | refine IsS67.far ?_ NB0_219.out _) | exact HI0.out)) (kq_ HO_220001.out) (by decide)) hk (fun _ h => h.2)) (fun _ h => h.1))
  replace BK212 := Aside0.mk (KeepBut.blk hk (g' := gb212) (o := .cells #[.slice none 0 0, .slice none 0 0] 27 (0, 0)) (kb_ BK212.out) NB212_0.out (by simp))
  replace BK219 := Aside0.mk (KeepBut.blk hk (g' := gb219) (o := .cells #[u220000, u220001] 27 (0, 0)) (kb_ BK219.out) NB219_0.out (by simp))
  replace HO242 := Aside0.mk (Kd.R_mono (Kd.R_keep (IsS67.apart (show IsS67 w0 _ g s0_0 t238 t239 from by repeat (first | (with_reducible first | exact HI0.out | apply IsS67.alloc | apply IsS67.drewN | apply IsS67.drew | apply IsS67.set_1 | apply IsS67.set_2 | refine IsS67.far ?_ NB0_212.out _ | refine IsS67.far ?_ NB0_219.out _) | exact HI0.out)) (kr_ HO242.out) (by decide)) hk (fun _ h => h.2)) (fun _ h => h.1))
  replace HK := Aside0.mk (KeepBut.trans (by repeat (first | (with_reducible first | exact HK.out | apply KeepBut.set_ | apply keep_drewN | apply keep_drew | apply keep_alloc | refine keep_far ?_ GW212.out _ | refine keep_far ?_ GW219.out _) | exact HK.out)) hk (.inl rfl))
  replace HB := Aside0.mk (hb)
  replace HI0 := Aside0.mk (hi)
  clear hb hk hi
  have p59 : 0 ≤ (0 : Int) := (by omega)
  have q59 : (0 : Int) < ((x220000_1.length : Int) : Int) := of_decide_eq_true (by first | (with_reducible assumption) | assumption)
  have qi59 : (0 < x220000_1.length) = True := eq_true (by omega)
  obtain ⟨go59, co59, eo59, gb59, gl59, cl59, HG59⟩ := Kd.R_form HO_220000.out (by omega)
  (first | cases eo59 | (injection eo59 with ea_ en_ ec_; (first | subst ea_ | (injection ea_ with ea_; subst ea_)); subst ec_; clear en_))
  have GB59 := Aside0.mk gb59
  have GG59 := Aside0.mk HG59
  clear gb59 gl59 HG59
  obtain ⟨hx59_0, hf59_0⟩ := Kd.R_celln 0 HO_220000.out (0 : Int) p59 q59
  (try rw [show ((0 : Int)).toNat = 0 from rfl] at hx59_0)
  (try simp only [Nat.reduceMul, Nat.zero_mul, Nat.zero_add, Nat.reduceAdd] at hx59_0)
  (try rw [show ((0 : Int)).toNat = 0 from rfl] at hf59_0)
  (try simp only [Nat.reduceMul, Nat.zero_mul, Nat.zero_add, Nat.reduceAdd] at hf59_0)
  replace p59 := eq_true p59
  replace q59 := eq_true q59
  have HN0_go59 := Aside0.mk (show g ≠ go59 from by have h_ := IsS67.own_ne HI0.out HO_220000.out (by decide); intro e_; exact h_ (by rw [e_]; rfl))
  have HP66 := Kd.R_putn HO_220000.out (0 : Int) t243
  rw [← Ny246.out] at HP66
  have HQ66 := Aside0.mk HP66
  clear HP66
  refine hK.out _ _ ⟨bc_ BK219.out 0, bc_ BK219.out 1⟩ (fun hHeld => ?_)
  clear hK K
  refine norm_ nn_ ?_
  refine pu_ 5 (some 37) (h := ?_)
  refine last_ (i := 6) (N := none) #[true, true, true, true, true, true, true] rfl rfl (by kernel_rfl) (by decide) (fun K hK => ?_)
  refine skip_ (w1 := ?_) (by rfl) rfl ?_ ?_
  rotate_left
  ·go_simp
   rfl
  refine hK.out _ _ ?_
  clear hK K
  refine done_ (by kernel_rfl) ?_
  have n0_ : Aside0 (Kd.R (Kd.int .i64) 3 (w65.setCell ⟨go59, 0, none⟩ (.int .i64 t243)) w.heap.size (fun k_ => some k_ ≠ (u220001 : Value).ownBlock ∧ some k_ ≠ (.slice Ao64 y240.length co64 : Value).ownBlock) (.slice (some ⟨go59, 0, none⟩) x220000_1.length co59) y246) := ⟨by first | exact kr_ HQ66.out | exact HQ66.out⟩
  have n1_ : Aside0 (Kd.Q (Kd.int .i64) 3 (w65.setCell ⟨go59, 0, none⟩ (.int .i64 t243)) w.heap.size (fun k_ => some k_ ≠ (.slice (some ⟨go59, 0, none⟩) x220000_1.length co59 : Value).ownBlock ∧ some k_ ≠ (.slice Ao64 y240.length co64 : Value).ownBlock) u220001 x220001_1) := ⟨by exact kq_ (Kd.Q_mono (Kd.Q_far (p := ⟨go59, 0, none⟩) (Kd.Q_mono HO_220001.out (fun k_ hk => (⟨hk, fun e_ => hk.1 (by rw [e_]; rfl)⟩ : _ ∧ k_ ≠ go59))) (fun _ hk => hk.2) (.int .i64 t243)) (fun _ hk => ⟨hk.1.1, hk.1.2⟩))⟩
  have n2_ : Aside0 (Kd.R (Kd.int .i64) 3 (w65.setCell ⟨go59, 0, none⟩ (.int .i64 t243)) w.heap.size (fun k_ => some k_ ≠ (.slice (some ⟨go59, 0, none⟩) x220000_1.length co59 : Value).ownBlock ∧ some k_ ≠ (u220001 : Value).ownBlock) (.slice Ao64 y240.length co64) y240) := ⟨by exact kr_ (Kd.R_mono (Kd.R_far (p := ⟨go59, 0, none⟩) (Kd.R_mono HO242.out (fun k_ hk => (⟨hk, fun e_ => hk.1.2 (by rw [e_]; rfl)⟩ : _ ∧ k_ ≠ go59))) (fun _ hk => hk.2) (.int .i64 t243)) (fun _ hk => ⟨hk.1.1.2, hk.1.2⟩))⟩
  have n3_ : Aside0 ((w65.setCell ⟨go59, 0, none⟩ (.int .i64 t243)).heap[gb212]? = some (.cells #[.slice none 0 0, .slice none 0 0] 27 (0, 0))) := ⟨by (with_reducible repeat (first | refine blk_drewN ?_ _ | refine blk_drew ?_ | refine blk_alloc ?_ _)); refine blk_far ?_ (by have h_ := Kd.R_ne HO_220000.out BK212.out (by decide); intro e_; exact h_ (by rw [e_]; rfl)) _; exact kb_ BK212.out⟩
  have n4_ : Aside0 ((w65.setCell ⟨go59, 0, none⟩ (.int .i64 t243)).heap[gb219]? = some (.cells #[.slice (some ⟨go59, 0, none⟩) x220000_1.length co59, u220001] 27 (0, 0))) := ⟨by (with_reducible repeat (first | refine blk_drewN ?_ _ | refine blk_drew ?_ | refine blk_alloc ?_ _)); refine blk_far ?_ (by have h_ := Kd.R_ne HO_220000.out BK219.out (by decide); intro e_; exact h_ (by rw [e_]; rfl)) _; exact kb_ BK219.out⟩
  have n5_ : Aside0 (IsS67 w0 (w65.setCell ⟨go59, 0, none⟩ (.int .i64 t243)) g s0_0 t244 t245) := ⟨by repeat (first | (with_reducible first | exact HI0.out | apply IsS67.alloc | apply IsS67.drewN | apply IsS67.drew | apply IsS67.set_1 | apply IsS67.set_2 | refine IsS67.far ?_ HN0_go59.out _ | refine IsS67.far ?_ NB0_212.out _ | refine IsS67.far ?_ NB0_219.out _) | exact HI0.out)⟩
  have n6_ : Aside0 (KeepBut w (w65.setCell ⟨go59, 0, none⟩ (.int .i64 t243)) g none) := ⟨by repeat (first | (with_reducible first | exact HK.out | apply KeepBut.set_ | apply keep_drewN | apply keep_drew | apply keep_alloc | refine keep_far ?_ GB59.out _ | refine keep_far ?_ GW212.out _ | refine keep_far ?_ GW219.out _) | exact HK.out)⟩
  have n7_ : Aside0 (Below w0.heap.size w0 (w65.setCell ⟨go59, 0, none⟩ (.int .i64 t243))) := ⟨by repeat (first | (with_reducible first | exact HB.out | apply below_alloc | apply pw_below_drewN | apply below_drew1 | refine below_set ?_ (Nat.le_trans HL.out GB59.out) | refine below_set ?_ (IsS67.ge HI0.out) | refine below_set ?_ GE212.out | refine below_set ?_ GE219.out) | exact HB.out)⟩
  (try clear HO_220000)
  (try clear HO_220001)
  (try clear HO242)
  (try clear BK212)
  (try clear BK219)
  (try clear HI0)
  (try clear HK)
  (try clear HB)
  generalize (w65.setCell ⟨go59, 0, none⟩ (.int .i64 t243)) = w67 at n0_ n1_ n2_ n3_ n4_ n5_ n6_ n7_ ⊢
  have HO_220000 := n0_
  have HO_220001 := n1_
  have HO242 := n2_
  have BK212 := n3_
  have BK219 := n4_
  have HI0 := n5_
  have HK := n6_
  have HB := n7_
  clear n0_ n1_ n2_ n3_ n4_ n5_ n6_ n7_
  have hnb68 := NB219_212.out
  have hnc68 := NB212_219.out
  have hnb69 := NB219_0.out
  have hnc69 := NB0_219.out
  have hcz70_0 : w67.cell? ⟨gb219, 0, none⟩ = some (.slice (some ⟨go59, 0, none⟩) x220000_1.length co59) := bc_ BK219.out 0
  have hcz70_1 : w67.cell? ⟨gb219, 1, none⟩ = some (u220001) := bc_ BK219.out 1
  have hfz70_0 := blk_frozen BK219.out 0
  have hfz70_1 := blk_frozen BK219.out 1
  have hnb71 := NB212_0.out
  have hnc71 := NB0_212.out
  have hcz72_0 : w67.cell? ⟨gb212, 0, none⟩ = some (.slice none 0 0) := bc_ BK212.out 0
  have hcz72_1 : w67.cell? ⟨gb212, 1, none⟩ = some (.slice none 0 0) := bc_ BK212.out 1
  have hfz72_0 := blk_frozen BK212.out 0
  have hfz72_1 := blk_frozen BK212.out 1
  obtain ⟨Ao73, co73, eo73, _⟩ := Kd.Q_slice HO_220001.out
  subst eo73
  try go_wp2
  refine bodyPost_ret (results_cell_row rfl _ _ gb212 27 #[.slice (some ⟨go59, 0, none⟩) x220000_1.length co59, .slice Ao73 x220001_1.length co73] (0, 0) _ rfl (by (with_reducible repeat (first | refine blk_drewN ?_ _ | refine blk_drew ?_ | refine blk_alloc ?_ _)); refine blk_put (cs := #[.slice (some ⟨go59, 0, none⟩) x220000_1.length co59, .slice none 0 0]) ?_ 1 _ rfl; (with_reducible repeat (first | refine blk_drewN ?_ _ | refine blk_drew ?_ | refine blk_alloc ?_ _)); refine blk_put (cs := #[.slice none 0 0, .slice none 0 0]) ?_ 0 _ rfl; exact kb_ BK212.out) Try.underlying27 rfl (by kernel_rfl)) rfl ?_
  exact ⟨_, _, ng_, by exact kr_ (Kd.R_mono (Kd.R_far (p := ⟨gb212, 1, none⟩) (Kd.R_far (p := ⟨gb212, 0, none⟩) (Kd.R_types HO_220000.out BK212.out (by decide)) (fun _ hk => hk.2) (.slice (some ⟨go59, 0, none⟩) x220000_1.length co59)) (fun _ hk => hk.2) (.slice Ao73 x220001_1.length co73)) (fun _ hk => hk.1.1)), by exact kq_ (Kd.Q_mono (Kd.Q_far (p := ⟨gb212, 1, none⟩) (Kd.Q_far (p := ⟨gb212, 0, none⟩) (Kd.Q_types HO_220001.out BK212.out (by decide)) (fun _ hk => hk.2) (.slice (some ⟨go59, 0, none⟩) x220000_1.length co59)) (fun _ hk => hk.2) (.slice Ao73 x220001_1.length co73)) (fun _ hk => hk.1.1)), by repeat (first | (with_reducible first | exact HI0.out | apply IsS67.alloc | apply IsS67.drewN | apply IsS67.drew | apply IsS67.set_1 | apply IsS67.set_2 | refine IsS67.far ?_ NB0_212.out _ | refine IsS67.far ?_ NB0_219.out _) | exact HI0.out), by repeat (first | (with_reducible first | exact HB.out | apply below_alloc | apply pw_below_drewN | apply below_drew1 | refine below_set ?_ (IsS67.ge HI0.out) | refine below_set ?_ GE212.out | refine below_set ?_ GE219.out) | exact HB.out), by repeat (first | (with_reducible first | exact HK.out | apply KeepBut.set_ | apply keep_drewN | apply keep_drew | apply keep_alloc | refine keep_far ?_ GW212.out _ | refine keep_far ?_ GW219.out _) | exact HK.out)⟩
 rw [if_pos c19] at H
 have c19b0 : decide (0 < x4_1) = true := decide_eq_true c19
 clear c19
 replace H := Option.bind_eq_some_iff.mp H
 obtain ⟨⟨t223, t224, t225⟩, A200, H⟩ := H
 replace H : ((spec_l1Cur_pick.f s0_0 t224 t225 40).bind fun bt226 => ((spec_CountBy.f k1 x220000_1 x220001_1 t223 (wrap64 (bt226.1 - 15))).bind fun bt229 => (if bt229.2.2 = true then (spec_l1Cur_counter.l0 k1 (wrap64 (x4_1 - 1)) s0_0 bt226.2.1 bt226.2.2 bt229.1 bt229.2.1) else (spec_l1Cur_counter.l0 k1 (wrap64 (x4_1 - 1)) s0_0 bt226.2.1 bt226.2.2 x220000_1 x220001_1)))) = some (r1, r2, r3, r4) := H
 have A20 := Aside0.mk A200
 clear A200
 replace H := Option.bind_eq_some_iff.mp H
 obtain ⟨⟨t226, t227, t228⟩, A210, H⟩ := H
 replace H : ((spec_CountBy.f k1 x220000_1 x220001_1 t223 (wrap64 (t226 - 15))).bind fun bt229 => (if bt229.2.2 = true then (spec_l1Cur_counter.l0 k1 (wrap64 (x4_1 - 1)) s0_0 t227 t228 bt229.1 bt229.2.1) else (spec_l1Cur_counter.l0 k1 (wrap64 (x4_1 - 1)) s0_0 t227 t228 x220000_1 x220001_1))) = some (r1, r2, r3, r4) := H
 have A21 := Aside0.mk A210
 clear A210
 replace H := Option.bind_eq_some_iff.mp H
 obtain ⟨⟨t229, t232, t235⟩, A220, H⟩ := H
 replace H : (if t235 = true then (spec_l1Cur_counter.l0 k1 (wrap64 (x4_1 - 1)) s0_0 t227 t228 t229 t232) else (spec_l1Cur_counter.l0 k1 (wrap64 (x4_1 - 1)) s0_0 t227 t228 x220000_1 x220001_1)) = some (r1, r2, r3, r4) := H
 have A22 := Aside0.mk A220
 clear A220
 by_cases c23 : t235 = true
 rotate_left
 ·replace c23 := Bool.eq_false_iff.mpr c23
  subst c23
  have H1 : (spec_l1Cur_counter.l0 k1 (wrap64 (x4_1 - 1)) s0_0 t227 t228 x220000_1 x220001_1) = some (r1, r2, r3, r4) := by rw [if_neg (show ¬ (false = true) by decide)] at H; exact H
  clear H
  have H := H1
  clear H1
  have H' := Aside0.mk H
  clear H
  obtain ⟨Ao43, co43, eo43⟩ := Kd.R_slice HO_220000.out
  subst eo43
  obtain ⟨Ao44, co44, eo44, _⟩ := Kd.Q_slice HO_220001.out
  subst eo44
  try go_wp2
  replace HO_220000 := Aside0.mk (Kd.R_drew HO_220000.out)
  replace HO_220001 := Aside0.mk (Kd.Q_drew HO_220001.out)
  replace BK212 := Aside0.mk (blk_drew BK212.out)
  replace BK219 := Aside0.mk (blk_drew BK219.out)
  replace HI0 := Aside0.mk (IsS67.drew HI0.out)
  replace HK := Aside0.mk (keep_drew HK.out)
  replace HB := Aside0.mk (below_drew1 HB.out)
  refine start_ (n := 13) (S := fun w' => w'.cell? ⟨gb219, 0, none⟩ = some (.slice Ao43 x220000_1.length co43) ∧ w'.cell? ⟨gb219, 1, none⟩ = some (.slice Ao44 x220001_1.length co44)) (ds := []) #[false, false, false, false, false, false, false, false, false, false, false, false, false] (by kernel_rfl) rfl rfl ⟨bc_ BK219.out 0, bc_ BK219.out 1⟩ (fun hHeld => ?_); refine with_tabW spec_l1Cur_counter.tab5 spec_l1Cur_counter.bits5 (fun HT_ HW_ => ?_)
  generalize wr.drew = w45 at HO_220000 HO_220001 BK212 BK219 HI0 HK HB hHeld ⊢
  refine pu_ 1 (some 18) (h := ?_)
  refine pu_ 3 (some 20) (h := ?_)
  refine tk2_ 0 (some 17) (h := ?_)
  refine join_ (σ := Value × Value × Nat) 2 #[true, true, true, true, true, true, true, true, true, true, true, false, false] (fun s_ => [(19, .int .i64 t223), (21, .int .i64 t226), (23, .tuple #[.agg #[s_.1, s_.2.1], .bool false]), (5, .pointer (some ⟨s_.2.2, 0, none⟩)), (22, .int .i64 (wrap64 (t226 - 15))), (16, .tuple #[.agg #[s_.1, s_.2.1], .bool false]), (24, .agg #[s_.1, s_.2.1]), (25, .bool false)]) (fun s_ w' => (w'.cell? ⟨gb219, 0, none⟩ = some (.slice Ao43 x220000_1.length co43) ∧ w'.cell? ⟨gb219, 1, none⟩ = some (.slice Ao44 x220001_1.length co44)) ∧ (Kd.R (Kd.int .i64) 3 w' w.heap.size (fun k_ => some k_ ≠ (s_.2.1 : Value).ownBlock ∧ some k_ ≠ (.slice Ao43 x220000_1.length co43 : Value).ownBlock ∧ some k_ ≠ (.slice Ao44 x220001_1.length co44 : Value).ownBlock) s_.1 t229) ∧ (Kd.R (Kd.int .i64) 3 w' w.heap.size (fun k_ => some k_ ≠ (s_.1 : Value).ownBlock ∧ some k_ ≠ (.slice Ao43 x220000_1.length co43 : Value).ownBlock ∧ some k_ ≠ (.slice Ao44 x220001_1.length co44 : Value).ownBlock) s_.2.1 t232) ∧ (Kd.R (Kd.int .i64) 3 w' w.heap.size (fun k_ => some k_ ≠ (s_.1 : Value).ownBlock ∧ some k_ ≠ (s_.2.1 : Value).ownBlock ∧ some k_ ≠ (.slice Ao44 x220001_1.length co44 : Value).ownBlock) (.slice Ao43 x220000_1.length co43) x220000_1) ∧ (Kd.Q (Kd.int .i64) 3 w' w.heap.size (fun k_ => some k_ ≠ (s_.1 : Value).ownBlock ∧ some k_ ≠ (s_.2.1 : Value).ownBlock ∧ some k_ ≠ (.slice Ao43 x220000_1.length co43 : Value).ownBlock) (.slice Ao44 x220001_1.length co44) x220001_1) ∧ (w'.heap[gb212]? = some (.cells #[.slice none 0 0, .slice none 0 0] 27 (0, 0))) ∧ (w'.heap[gb219]? = some (.cells #[.slice Ao43 x220000_1.length co43, .slice Ao44 x220001_1.length co44] 27 (0, 0))) ∧ (w'.heap[s_.2.2]? = some (.cells #[.slice none 0 0, .slice none 0 0] 27 (0, 0))) ∧ (w.heap.size ≤ s_.2.2) ∧ (w0.heap.size ≤ s_.2.2) ∧ (g ≠ s_.2.2) ∧ (s_.2.2 ≠ g) ∧ (gb212 ≠ s_.2.2) ∧ (s_.2.2 ≠ gb212) ∧ (gb219 ≠ s_.2.2) ∧ (s_.2.2 ≠ gb219) ∧ (IsS67 w0 w' g s0_0 t227 t228) ∧ (KeepBut w w' g none) ∧ (Below w0.heap.size w0 w')) ?_ ?_
  rotate_left
  ·intro hCont
   refine tw_ 2 10 (some 19) (some 5) (h1 := fun K hK => ?_) (h2 := fun K hK => ?_)
   ·skip
    refine goes_ Try.func50 (by kernel_rfl) rfl #[.pointer (some ⟨g, 0, none⟩), .int .i64 6] (by rfl) rfl rfl nc_ ?_
    with_reducible refine (spec_l1Cur_pick.calls g s0_0 x1001_1 x1002_1 6 t223 t224 t225 w0 _ ?side1 ?side2 A20.out).mono ?_
    (case side1 => repeat (first | (with_reducible first | exact HI0.out | apply IsS67.alloc | apply IsS67.drewN | apply IsS67.drew | apply IsS67.set_1 | apply IsS67.set_2 | refine IsS67.far ?_ NB0_212.out _ | refine IsS67.far ?_ NB0_219.out _) | exact HI0.out))
    (case side2 => repeat (first | (with_reducible first | exact HB.out | apply below_alloc | apply pw_below_drewN | apply below_drew1 | refine below_set ?_ (IsS67.ge HI0.out) | refine below_set ?_ GE212.out | refine below_set ?_ GE219.out) | exact HB.out))
    rintro e w46 ⟨rfl, hi, hb, hk⟩
    refine ⟨_, rfl, ?_⟩
    replace HO_220000 := Aside0.mk (Kd.R_mono (Kd.R_keep (IsS67.apart (show IsS67 w0 _ g s0_0 x1001_1 x1002_1 from by repeat (first | (with_reducible first | exact HI0.out | apply IsS67.alloc | apply IsS67.drewN | apply IsS67.drew | apply IsS67.set_1 | apply IsS67.set_2 | refine IsS67.far ?_ NB0_212.out _ | refine IsS67.far ?_ NB0_219.out _) | exact HI0.out)) (kr_ HO_220000.out) (by decide)) hk (fun _ h => h.2)) (fun _ h => h.1))
    replace HO_220001 := Aside0.mk (Kd.Q_mono (Kd.Q_keep (IsS67.apartQ (show IsS67 w0 _ g s0_0 x1001_1 x1002_1 from by repeat (first | (with_reducible first | exact HI0.out | apply IsS67.alloc | apply IsS67.drewN | apply IsS67.drew | apply IsS67.set_1 | apply IsS67.set_2 | refine IsS67.far ?_ NB0_212.out _ | refine IsS67.far ?_ NB0_219.out _) | exact HI0.out)) (kq_ HO_220001.out) (by decide)) hk (fun _ h => h.2)) (fun _ h => h.1))
    replace BK212 := Aside0.mk (KeepBut.blk hk (g' := gb212) (o := .cells #[.slice none 0 0, .slice none 0 0] 27 (0, 0)) (kb_ BK212.out) NB212_0.out (by simp))
    replace BK219 := Aside0.mk (KeepBut.blk hk (g' := gb219) (o := .cells #[.slice Ao43 x220000_1.length co43, .slice Ao44 x220001_1.length co44] 27 (0, 0)) (kb_ BK219.out) NB219_0.out (by simp))
    replace HK := Aside0.mk (KeepBut.trans (by repeat (first | (with_reducible first | exact HK.out | apply KeepBut.set_ | apply keep_drewN | apply keep_drew | apply keep_alloc | refine keep_far ?_ GW212.out _ | refine keep_far ?_ GW219.out _) | exact HK.out)) hk (.inl rfl))
    replace HB := Aside0.mk (hb)
    replace HI0 := Aside0.mk (hi)
    clear hb hk hi
    refine hK.out _ _ ⟨bc_ BK219.out 0, bc_ BK219.out 1⟩ (fun hHeld => ?_)
    clear hK K
    refine norm_ nn_ ?_
    refine tw_ 4 10 (some 21) (some 5) (h1 := fun K hK => ?_) (h2 := fun K hK => ?_)
    ·skip
     refine goes_ Try.func50 (by kernel_rfl) rfl #[.pointer (some ⟨g, 0, none⟩), .int .i64 40] (by rfl) rfl rfl nc_ ?_
     with_reducible refine (spec_l1Cur_pick.calls g s0_0 t224 t225 40 t226 t227 t228 w0 _ ?side1 ?side2 A21.out).mono ?_
     (case side1 => repeat (first | (with_reducible first | exact HI0.out | apply IsS67.alloc | apply IsS67.drewN | apply IsS67.drew | apply IsS67.set_1 | apply IsS67.set_2 | refine IsS67.far ?_ NB0_212.out _ | refine IsS67.far ?_ NB0_219.out _) | exact HI0.out))
     (case side2 => repeat (first | (with_reducible first | exact HB.out | apply below_alloc | apply pw_below_drewN | apply below_drew1 | refine below_set ?_ (IsS67.ge HI0.out) | refine below_set ?_ GE212.out | refine below_set ?_ GE219.out) | exact HB.out))
     rintro e w47 ⟨rfl, hi, hb, hk⟩
     refine ⟨_, rfl, ?_⟩
     replace HO_220000 := Aside0.mk (Kd.R_mono (Kd.R_keep (IsS67.apart (show IsS67 w0 _ g s0_0 t224 t225 from by repeat (first | (with_reducible first | exact HI0.out | apply IsS67.alloc | apply IsS67.drewN | apply IsS67.drew | apply IsS67.set_1 | apply IsS67.set_2 | refine IsS67.far ?_ NB0_212.out _ | refine IsS67.far ?_ NB0_219.out _) | exact HI0.out)) (kr_ HO_220000.out) (by decide)) hk (fun _ h => h.2)) (fun _ h => h.1))
     replace HO_220001 := Aside0.mk (Kd.Q_mono (Kd.Q_keep (IsS67.apartQ (show IsS67 w0 _ g s0_0 t224 t225 from by repeat (first | (with_reducible first | exact HI0.out | apply IsS67.alloc | apply IsS67.drewN | apply IsS67.drew | apply IsS67.set_1 | apply IsS67.set_2 | refine IsS67.far ?_ NB0_212.out _ | refine IsS67.far ?_ NB0_219.out _) | exact HI0.out)) (kq_ HO_220001.out) (by decide)) hk (fun _ h => h.2)) (fun _ h => h.1))
     replace BK212 := Aside0.mk (KeepBut.blk hk (g' := gb212) (o := .cells #[.slice none 0 0, .slice none 0 0] 27 (0, 0)) (kb_ BK212.out) NB212_0.out (by simp))
     replace BK219 := Aside0.mk (KeepBut.blk hk (g' := gb219) (o := .cells #[.slice Ao43 x220000_1.length co43, .slice Ao44 x220001_1.length co44] 27 (0, 0)) (kb_ BK219.out) NB219_0.out (by simp))
     replace HK := Aside0.mk (KeepBut.trans (by repeat (first | (with_reducible first | exact HK.out | apply KeepBut.set_ | apply keep_drewN | apply keep_drew | apply keep_alloc | refine keep_far ?_ GW212.out _ | refine keep_far ?_ GW219.out _) | exact HK.out)) hk (.inl rfl))
     replace HB := Aside0.mk (hb)
     replace HI0 := Aside0.mk (hi)
     clear hb hk hi
     refine hK.out _ _ ⟨bc_ BK219.out 0, bc_ BK219.out 1⟩ (fun hHeld => ?_)
     clear hK K
     refine norm_ nn_ ?_
     refine pu_ 5 (some 22) (h := ?_)
     refine tw_ 6 10 (some 23) (some 5) (h1 := fun K hK => ?_) (h2 := fun K hK => ?_)
     ·skip
      refine goes_ Try.func27 (by kernel_rfl) rfl #[.agg #[.slice Ao43 x220000_1.length co43, .slice Ao44 x220001_1.length co44], .int .i64 t223, .int .i64 (wrap64 (t226 - 15))] (by rfl) rfl rfl nc_ ?_
      with_reducible refine (spec_CountBy.calls k1 _ _ x220000_1 _ _ x220001_1 t223 (wrap64 (t226 - 15)) t229 t232 false _ ?side1 ?side2 ?side3 ?side4 A22.out).mono ?_
      (case side1 => exact kc_ (Kd.R_reads' HO_220000.out).2.2)
      (case side2 => exact (Kd.R_reads' HO_220000.out).2.1)
      (case side3 => exact kc_ (Kd.Q_reads' HO_220001.out).2.2)
      (case side4 => exact (Kd.Q_reads' HO_220001.out).2.1)
      rintro e w48 ⟨v230, v233, rfl, ho0, ho1, hb⟩
      refine ⟨_, rfl, ?_⟩
      have HO231 := Aside0.mk (Kd.R_lower (rnq_ (rn_ ho0 HO_220000.out) HO_220001.out) (keep_size (w := w) (g := g) (row := none) (by repeat (first | (with_reducible first | exact HK.out | apply KeepBut.set_ | apply keep_drewN | apply keep_drew | apply keep_alloc | refine keep_far ?_ GW212.out _ | refine keep_far ?_ GW219.out _) | exact HK.out))))
      have HO234 := Aside0.mk (Kd.R_lower (rnq_ (rn_ ho1 HO_220000.out) HO_220001.out) (keep_size (w := w) (g := g) (row := none) (by repeat (first | (with_reducible first | exact HK.out | apply KeepBut.set_ | apply keep_drewN | apply keep_drew | apply keep_alloc | refine keep_far ?_ GW212.out _ | refine keep_far ?_ GW219.out _) | exact HK.out))))
      replace HO_220000 := rp2_ HO_220000 hb ho0 ho1
      replace HO_220001 := qp2_ HO_220001 hb ho0 ho1
      replace BK212 := bb_ BK212 hb
      replace BK219 := bb_ BK219 hb
      replace HK := Aside0.mk (KeepBut.trans (by repeat (first | (with_reducible first | exact HK.out | apply KeepBut.set_ | apply keep_drewN | apply keep_drew | apply keep_alloc | refine keep_far ?_ GW212.out _ | refine keep_far ?_ GW219.out _) | exact HK.out)) (KeepBut.of_below hb g none) (.inl rfl))
      replace HB := Aside0.mk (below_step (by repeat (first | (with_reducible first | exact HB.out | apply below_alloc | apply pw_below_drewN | apply below_drew1 | refine below_set ?_ (IsS67.ge HI0.out) | refine below_set ?_ GE212.out | refine below_set ?_ GE219.out) | exact HB.out)) hb)
      replace HI0 := Aside0.mk (IsS67.below (by repeat (first | (with_reducible first | exact HI0.out | apply IsS67.alloc | apply IsS67.drewN | apply IsS67.drew | apply IsS67.set_1 | apply IsS67.set_2 | refine IsS67.far ?_ NB0_212.out _ | refine IsS67.far ?_ NB0_219.out _) | exact HI0.out)) hb)
      clear hb ho0 ho1
      refine hK.out _ _ ⟨bc_ BK219.out 0, bc_ BK219.out 1⟩ (fun hHeld => ?_)
      clear hK K
      refine norm_ nn_ ?_
      refine pu_ 7 (some 16) (h := ?_)
      refine pu_ 8 (some 24) (h := ?_)
      refine pu_ 9 (some 25) (h := ?_)
      refine on_ 10 (some 5) (h := fun K hK => ?_)
      refine box_step rfl (N := 5) rfl (cs := #[.slice none 0 0, .slice none 0 0]) (t := 27) gs_ ?_
      intro gb236 hg w49 hbox hb
      replace HO_220000 := rb_ HO_220000 hb
      replace HO_220001 := qb_ HO_220001 hb
      replace HO231 := rb_ HO231 hb
      replace HO234 := rb_ HO234 hb
      replace HB := Aside0.mk (below_step (by repeat (first | (with_reducible first | exact HB.out | apply below_alloc | apply pw_below_drewN | apply below_drew1 | refine below_set ?_ (IsS67.ge HI0.out) | refine below_set ?_ GE212.out | refine below_set ?_ GE219.out) | exact HB.out)) hb)
      have BK236 := Aside0.mk (hbox)
      have GW236 := Aside0.mk ((by rw [hg]; exact (keep_size (w := w) (g := g) (row := none) (by repeat (first | (with_reducible first | exact HK.out | apply KeepBut.set_ | apply keep_drewN | apply keep_drew | apply keep_alloc | refine keep_far ?_ GW212.out _ | refine keep_far ?_ GW219.out _) | exact HK.out))) : w.heap.size ≤ gb236))
      have GE236 := Aside0.mk ((Nat.le_trans HW0.out (by rw [hg]; exact (keep_size (w := w) (g := g) (row := none) (by repeat (first | (with_reducible first | exact HK.out | apply KeepBut.set_ | apply keep_drewN | apply keep_drew | apply keep_alloc | refine keep_far ?_ GW212.out _ | refine keep_far ?_ GW219.out _) | exact HK.out))) : w.heap.size ≤ gb236) : w0.heap.size ≤ gb236))
      replace HK := Aside0.mk (KeepBut.trans (by repeat (first | (with_reducible first | exact HK.out | apply KeepBut.set_ | apply keep_drewN | apply keep_drew | apply keep_alloc | refine keep_far ?_ GW212.out _ | refine keep_far ?_ GW219.out _) | exact HK.out)) (KeepBut.of_below hb g none) (.inl rfl))
      have NB212_236 := nl_ hg BK212
      have NB236_212 := nm_ hg BK212
      replace BK212 := bb_ BK212 hb
      have NB219_236 := nl_ hg BK219
      have NB236_219 := nm_ hg BK219
      replace BK219 := bb_ BK219 hb
      have NB0_236 := Aside0.mk ((by rw [hg]; exact Nat.ne_of_lt (IsS67.lt (show IsS67 w0 _ g s0_0 t227 t228 from by repeat (first | (with_reducible first | exact HI0.out | apply IsS67.alloc | apply IsS67.drewN | apply IsS67.drew | apply IsS67.set_1 | apply IsS67.set_2 | refine IsS67.far ?_ NB0_212.out _ | refine IsS67.far ?_ NB0_219.out _) | exact HI0.out))) : g ≠ gb236))
      have NB236_0 := Aside0.mk ((by rw [hg]; exact Nat.ne_of_gt (IsS67.lt (show IsS67 w0 _ g s0_0 t227 t228 from by repeat (first | (with_reducible first | exact HI0.out | apply IsS67.alloc | apply IsS67.drewN | apply IsS67.drew | apply IsS67.set_1 | apply IsS67.set_2 | refine IsS67.far ?_ NB0_212.out _ | refine IsS67.far ?_ NB0_219.out _) | exact HI0.out))) : gb236 ≠ g))
      replace HI0 := Aside0.mk (IsS67.below (by repeat (first | (with_reducible first | exact HI0.out | apply IsS67.alloc | apply IsS67.drewN | apply IsS67.drew | apply IsS67.set_1 | apply IsS67.set_2 | refine IsS67.far ?_ NB0_212.out _ | refine IsS67.far ?_ NB0_219.out _) | exact HI0.out)) hb)
      clear hb hbox hg
      refine hK.out _ _ ⟨bc_ BK219.out 0, bc_ BK219.out 1⟩ (fun hHeld => ?_)
      clear hK K
      refine norm_ nn_ ?_
      exact norm_ (by simp only [putAll, Act.put, List.setIfInBounds_toArray, List.set_cons_zero, List.set_cons_succ]) (hCont (v230, v233, gb236) _ ⟨hHeld, kp_ HO231.out, kp_ HO234.out, kp_ HO_220000.out, (kpq_ HO_220001.out), kb_ BK212.out, kb_ BK219.out, kb_ BK236.out, GW236.out, GE236.out, NB0_236.out, NB236_0.out, NB212_236.out, NB236_212.out, NB219_236.out, NB236_219.out, (by repeat (first | (with_reducible first | exact HI0.out | apply IsS67.alloc | apply IsS67.drewN | apply IsS67.drew | apply IsS67.set_1 | apply IsS67.set_2 | refine IsS67.far ?_ NB0_212.out _ | refine IsS67.far ?_ NB0_219.out _ | refine IsS67.far ?_ NB0_236.out _) | exact HI0.out)), (by repeat (first | (with_reducible first | exact HK.out | apply KeepBut.set_ | apply keep_drewN | apply keep_drew | apply keep_alloc | refine keep_far ?_ GW212.out _ | refine keep_far ?_ GW219.out _ | refine keep_far ?_ GW236.out _) | exact HK.out)), (by repeat (first | (with_reducible first | exact HB.out | apply below_alloc | apply pw_below_drewN | apply below_drew1 | refine below_set ?_ (IsS67.ge HI0.out) | refine below_set ?_ GE212.out | refine below_set ?_ GE219.out | refine below_set ?_ GE236.out) | exact HB.out))⟩)
     ·skip
      refine box_step rfl (N := 5) rfl (cs := #[.slice none 0 0, .slice none 0 0]) (t := 27) gs_ ?_
      intro gb236 hg w48 hbox hb
      replace HO_220000 := rb_ HO_220000 hb
      replace HO_220001 := qb_ HO_220001 hb
      replace HB := Aside0.mk (below_step (by repeat (first | (with_reducible first | exact HB.out | apply below_alloc | apply pw_below_drewN | apply below_drew1 | refine below_set ?_ (IsS67.ge HI0.out) | refine below_set ?_ GE212.out | refine below_set ?_ GE219.out) | exact HB.out)) hb)
      have BK236 := Aside0.mk (hbox)
      have GW236 := Aside0.mk ((by rw [hg]; exact (keep_size (w := w) (g := g) (row := none) (by repeat (first | (with_reducible first | exact HK.out | apply KeepBut.set_ | apply keep_drewN | apply keep_drew | apply keep_alloc | refine keep_far ?_ GW212.out _ | refine keep_far ?_ GW219.out _) | exact HK.out))) : w.heap.size ≤ gb236))
      have GE236 := Aside0.mk ((Nat.le_trans HW0.out (by rw [hg]; exact (keep_size (w := w) (g := g) (row := none) (by repeat (first | (with_reducible first | exact HK.out | apply KeepBut.set_ | apply keep_drewN | apply keep_drew | apply keep_alloc | refine keep_far ?_ GW212.out _ | refine keep_far ?_ GW219.out _) | exact HK.out))) : w.heap.size ≤ gb236) : w0.heap.size ≤ gb236))
      replace HK := Aside0.mk (KeepBut.trans (by repeat (first | (with_reducible first | exact HK.out | apply KeepBut.set_ | apply keep_drewN | apply keep_drew | apply keep_alloc | refine keep_far ?_ GW212.out _ | refine keep_far ?_ GW219.out _) | exact HK.out)) (KeepBut.of_below hb g none) (.inl rfl))
      have NB212_236 := nl_ hg BK212
      have NB236_212 := nm_ hg BK212
      replace BK212 := bb_ BK212 hb
      have NB219_236 := nl_ hg BK219
      have NB236_219 := nm_ hg BK219
      replace BK219 := bb_ BK219 hb
      have NB0_236 := Aside0.mk ((by rw [hg]; exact Nat.ne_of_lt (IsS67.lt (show IsS67 w0 _ g s0_0 t227 t228 from by repeat (first | (with_reducible first | exact HI0.out | apply IsS67.alloc | apply IsS67.drewN | apply IsS67.drew | apply IsS67.set_1 | apply IsS67.set_2 | refine IsS67.far ?_ NB0_212.out _ | refine IsS67.far ?_ NB0_219.out _) | exact HI0.out))) : g ≠ gb236))
      have NB236_0 := Aside0.mk ((by rw [hg]; exact Nat.ne_of_gt (IsS67.lt (show IsS67 w0 _ g s0_0 t227 t228 from by repeat (first | (with_reducible first | exact HI0.out | apply IsS67.alloc | apply IsS67.drewN | apply IsS67.drew | apply IsS67.set_1 | apply IsS67.set_2 | refine IsS67.far ?_ NB0_212.out _ | refine IsS67.far ?_ NB0_219.out _) | exact HI0.out))) : gb236 ≠ g))
      replace HI0 := Aside0.mk (IsS67.below (by repeat (first | (with_reducible first | exact HI0.out | apply IsS67.alloc | apply IsS67.drewN | apply IsS67.drew | apply IsS67.set_1 | apply IsS67.set_2 | refine IsS67.far ?_ NB0_212.out _ | refine IsS67.far ?_ NB0_219.out _) | exact HI0.out)) hb)
      clear hb hbox hg
      refine hK.out _ _ ⟨bc_ BK219.out 0, bc_ BK219.out 1⟩ (fun hHeld => ?_)
      clear hK K
      refine norm_ nn_ ?_
      refine on_ 6 (some 23) (h := fun K hK => ?_)
      refine goes_ Try.func27 (by kernel_rfl) rfl #[.agg #[.slice Ao43 x220000_1.length co43, .slice Ao44 x220001_1.length co44], .int .i64 t223, .int .i64 (wrap64 (t226 - 15))] (by rfl) rfl rfl nc_ ?_
      with_reducible refine (spec_CountBy.calls k1 _ _ x220000_1 _ _ x220001_1 t223 (wrap64 (t226 - 15)) t229 t232 false _ ?side1 ?side2 ?side3 ?side4 A22.out).mono ?_
      (case side1 => exact kc_ (Kd.R_reads' HO_220000.out).2.2)
      (case side2 => exact (Kd.R_reads' HO_220000.out).2.1)
      (case side3 => exact kc_ (Kd.Q_reads' HO_220001.out).2.2)
      (case side4 => exact (Kd.Q_reads' HO_220001.out).2.1)
      rintro e w49 ⟨v230, v233, rfl, ho0, ho1, hb⟩
      refine ⟨_, rfl, ?_⟩
      have HO231 := Aside0.mk (Kd.R_lower (rnq_ (rn_ ho0 HO_220000.out) HO_220001.out) (keep_size (w := w) (g := g) (row := none) (by repeat (first | (with_reducible first | exact HK.out | apply KeepBut.set_ | apply keep_drewN | apply keep_drew | apply keep_alloc | refine keep_far ?_ GW212.out _ | refine keep_far ?_ GW219.out _ | refine keep_far ?_ GW236.out _) | exact HK.out))))
      have HO234 := Aside0.mk (Kd.R_lower (rnq_ (rn_ ho1 HO_220000.out) HO_220001.out) (keep_size (w := w) (g := g) (row := none) (by repeat (first | (with_reducible first | exact HK.out | apply KeepBut.set_ | apply keep_drewN | apply keep_drew | apply keep_alloc | refine keep_far ?_ GW212.out _ | refine keep_far ?_ GW219.out _ | refine keep_far ?_ GW236.out _) | exact HK.out))))
      replace HO_220000 := rp2_ HO_220000 hb ho0 ho1
      replace HO_220001 := qp2_ HO_220001 hb ho0 ho1
      replace BK212 := bb_ BK212 hb
      replace BK219 := bb_ BK219 hb
      replace BK236 := bb_ BK236 hb
      replace HK := Aside0.mk (KeepBut.trans (by repeat (first | (with_reducible first | exact HK.out | apply KeepBut.set_ | apply keep_drewN | apply keep_drew | apply keep_alloc | refine keep_far ?_ GW212.out _ | refine keep_far ?_ GW219.out _ | refine keep_far ?_ GW236.out _) | exact HK.out)) (KeepBut.of_below hb g none) (.inl rfl))
      replace HB := Aside0.mk (below_step (by repeat (first | (with_reducible first | exact HB.out | apply below_alloc | apply pw_below_drewN | apply below_drew1 | refine below_set ?_ (IsS67.ge HI0.out) | refine below_set ?_ GE212.out | refine below_set ?_ GE219.out | refine below_set ?_ GE236.out) | exact HB.out)) hb)
      replace HI0 := Aside0.mk (IsS67.below (by repeat (first | (with_reducible first | exact HI0.out | apply IsS67.alloc | apply IsS67.drewN | apply IsS67.drew | apply IsS67.set_1 | apply IsS67.set_2 | refine IsS67.far ?_ NB0_212.out _ | refine IsS67.far ?_ NB0_219.out _ | refine IsS67.far ?_ NB0_236.out _) | exact HI0.out)) hb)
      clear hb ho0 ho1
      refine hK.out _ _ ⟨bc_ BK219.out 0, bc_ BK219.out 1⟩ (fun hHeld => ?_)
      clear hK K
      refine norm_ nn_ ?_
      refine pu_ 7 (some 16) (h := ?_)
      refine pu_ 8 (some 24) (h := ?_)
      refine pu_ 9 (some 25) (h := ?_)
      exact norm_ (by simp only [putAll, Act.put, List.setIfInBounds_toArray, List.set_cons_zero, List.set_cons_succ]) (hCont (v230, v233, gb236) _ ⟨hHeld, kp_ HO231.out, kp_ HO234.out, kp_ HO_220000.out, (kpq_ HO_220001.out), kb_ BK212.out, kb_ BK219.out, kb_ BK236.out, GW236.out, GE236.out, NB0_236.out, NB236_0.out, NB212_236.out, NB236_212.out, NB219_236.out, NB236_219.out, (by repeat (first | (with_reducible first | exact HI0.out | apply IsS67.alloc | apply IsS67.drewN | apply IsS67.drew | apply IsS67.set_1 | apply IsS67.set_2 | refine IsS67.far ?_ NB0_212.out _ | refine IsS67.far ?_ NB0_219.out _ | refine IsS67.far ?_ NB0_236.out _) | exact HI0.out)), (by repeat (first | (with_reducible first | exact HK.out | apply KeepBut.set_ | apply keep_drewN | apply keep_drew | apply keep_alloc | refine keep_far ?_ GW212.out _ | refine keep_far ?_ GW219.out _ | refine keep_far ?_ GW236.out _) | exact HK.out)), (by repeat (first | (with_reducible first | exact HB.out | apply below_alloc | apply pw_below_drewN | apply below_drew1 | refine below_set ?_ (IsS67.ge HI0.out) | refine below_set ?_ GE212.out | refine below_set ?_ GE219.out | refine below_set ?_ GE236.out) | exact HB.out))⟩)
    ·skip
     refine box_step rfl (N := 5) rfl (cs := #[.slice none 0 0, .slice none 0 0]) (t := 27) gs_ ?_
     intro gb236 hg w47 hbox hb
     replace HO_220000 := rb_ HO_220000 hb
     replace HO_220001 := qb_ HO_220001 hb
     replace HB := Aside0.mk (below_step (by repeat (first | (with_reducible first | exact HB.out | apply below_alloc | apply pw_below_drewN | apply below_drew1 | refine below_set ?_ (IsS67.ge HI0.out) | refine below_set ?_ GE212.out | refine below_set ?_ GE219.out) | exact HB.out)) hb)
     have BK236 := Aside0.mk (hbox)
     have GW236 := Aside0.mk ((by rw [hg]; exact (keep_size (w := w) (g := g) (row := none) (by repeat (first | (with_reducible first | exact HK.out | apply KeepBut.set_ | apply keep_drewN | apply keep_drew | apply keep_alloc | refine keep_far ?_ GW212.out _ | refine keep_far ?_ GW219.out _) | exact HK.out))) : w.heap.size ≤ gb236))
     have GE236 := Aside0.mk ((Nat.le_trans HW0.out (by rw [hg]; exact (keep_size (w := w) (g := g) (row := none) (by repeat (first | (with_reducible first | exact HK.out | apply KeepBut.set_ | apply keep_drewN | apply keep_drew | apply keep_alloc | refine keep_far ?_ GW212.out _ | refine keep_far ?_ GW219.out _) | exact HK.out))) : w.heap.size ≤ gb236) : w0.heap.size ≤ gb236))
     replace HK := Aside0.mk (KeepBut.trans (by repeat (first | (with_reducible first | exact HK.out | apply KeepBut.set_ | apply keep_drewN | apply keep_drew | apply keep_alloc | refine keep_far ?_ GW212.out _ | refine keep_far ?_ GW219.out _) | exact HK.out)) (KeepBut.of_below hb g none) (.inl rfl))
     have NB212_236 := nl_ hg BK212
     have NB236_212 := nm_ hg BK212
     replace BK212 := bb_ BK212 hb
     have NB219_236 := nl_ hg BK219
     have NB236_219 := nm_ hg BK219
     replace BK219 := bb_ BK219 hb
     have NB0_236 := Aside0.mk ((by rw [hg]; exact Nat.ne_of_lt (IsS67.lt (show IsS67 w0 _ g s0_0 t224 t225 from by repeat (first | (with_reducible first | exact HI0.out | apply IsS67.alloc | apply IsS67.drewN | apply IsS67.drew | apply IsS67.set_1 | apply IsS67.set_2 | refine IsS67.far ?_ NB0_212.out _ | refine IsS67.far ?_ NB0_219.out _) | exact HI0.out))) : g ≠ gb236))
     have NB236_0 := Aside0.mk ((by rw [hg]; exact Nat.ne_of_gt (IsS67.lt (show IsS67 w0 _ g s0_0 t224 t225 from by repeat (first | (with_reducible first | exact HI0.out | apply IsS67.alloc | apply IsS67.drewN | apply IsS67.drew | apply IsS67.set_1 | apply IsS67.set_2 | refine IsS67.far ?_ NB0_212.out _ | refine IsS67.far ?_ NB0_219.out _) | exact HI0.out))) : gb236 ≠ g))
     replace HI0 := Aside0.mk (IsS67.below (by repeat (first | (with_reducible first | exact HI0.out | apply IsS67.alloc | apply IsS67.drewN | apply IsS67.drew | apply IsS67.set_1 | apply IsS67.set_2 | refine IsS67.far ?_ NB0_212.out _ | refine IsS67.far ?_ NB0_219.out _) | exact HI0.out)) hb)
     clear hb hbox hg
     refine hK.out _ _ ⟨bc_ BK219.out 0, bc_ BK219.out 1⟩ (fun hHeld => ?_)
     clear hK K
     refine norm_ nn_ ?_
     refine on_ 4 (some 21) (h := fun K hK => ?_)
     refine goes_ Try.func50 (by kernel_rfl) rfl #[.pointer (some ⟨g, 0, none⟩), .int .i64 40] (by rfl) rfl rfl nc_ ?_
     with_reducible refine (spec_l1Cur_pick.calls g s0_0 t224 t225 40 t226 t227 t228 w0 _ ?side1 ?side2 A21.out).mono ?_
     (case side1 => repeat (first | (with_reducible first | exact HI0.out | apply IsS67.alloc | apply IsS67.drewN | apply IsS67.drew | apply IsS67.set_1 | apply IsS67.set_2 | refine IsS67.far ?_ NB0_212.out _ | refine IsS67.far ?_ NB0_219.out _ | refine IsS67.far ?_ NB0_236.out _) | exact HI0.out))
     (case side2 => repeat (first | (with_reducible first | exact HB.out | apply below_alloc | apply pw_below_drewN | apply below_drew1 | refine below_set ?_ (IsS67.ge HI0.out) | refine below_set ?_ GE212.out | refine below_set ?_ GE219.out | refine below_set ?_ GE236.out) | exact HB.out))
     rintro e w48 ⟨rfl, hi, hb, hk⟩
     refine ⟨_, rfl, ?_⟩
     replace HO_220000 := Aside0.mk (Kd.R_mono (Kd.R_keep (IsS67.apart (show IsS67 w0 _ g s0_0 t224 t225 from by repeat (first | (with_reducible first | exact HI0.out | apply IsS67.alloc | apply IsS67.drewN | apply IsS67.drew | apply IsS67.set_1 | apply IsS67.set_2 | refine IsS67.far ?_ NB0_212.out _ | refine IsS67.far ?_ NB0_219.out _ | refine IsS67.far ?_ NB0_236.out _) | exact HI0.out)) (kr_ HO_220000.out) (by decide)) hk (fun _ h => h.2)) (fun _ h => h.1))
     replace HO_220001 := Aside0.mk (Kd.Q_mono (Kd.Q_keep (IsS67.apartQ (show IsS67 w0 _ g s0_0 t224 t225 from by repeat (first | (with_reducible first | exact HI0.out | apply IsS67.alloc | apply IsS67.drewN | apply IsS67.drew | apply IsS67.set_1 | apply IsS67.set_2 | refine IsS67.far ?_ NB0_212.out _ | refine IsS67.far ?_ NB0_219.out _ | refine IsS67.far ?_ NB0_236.out _) | exact HI0.out)) (kq_ HO_220001.out) (by decide)) hk (fun _ h => h.2)) (fun _ h => h.1))
     replace BK212 := Aside0.mk (KeepBut.blk hk (g' := gb212) (o := .cells #[.slice none 0 0, .slice none 0 0] 27 (0, 0)) (kb_ BK212.out) NB212_0.out (by simp))
     replace BK219 := Aside0.mk (KeepBut.blk hk (g' := gb219) (o := .cells #[.slice Ao43 x220000_1.length co43, .slice Ao44 x220001_1.length co44] 27 (0, 0)) (kb_ BK219.out) NB219_0.out (by simp))
     replace BK236 := Aside0.mk (KeepBut.blk hk (g' := gb236) (o := .cells #[.slice none 0 0, .slice none 0 0] 27 (0, 0)) (kb_ BK236.out) NB236_0.out (by simp))
     replace HK := Aside0.mk (KeepBut.trans (by repeat (first | (with_reducible first | exact HK.out | apply KeepBut.set_ | apply keep_drewN | apply keep_drew | apply keep_alloc | refine keep_far ?_ GW212.out _ | refine keep_far ?_ GW219.out _ | refine keep_far ?_ GW236.out _) | exact HK.out)) hk (.inl rfl))
     replace HB := Aside0.mk (hb)
     replace HI0 := Aside0.mk (hi)
     clear hb hk hi
     refine hK.out _ _ ⟨bc_ BK219.out 0, bc_ BK219.out 1⟩ (fun hHeld => ?_)
     clear hK K
     refine norm_ nn_ ?_
     refine pu_ 5 (some 22) (h := ?_)
     refine on_ 6 (some 23) (h := fun K hK => ?_)
     refine goes_ Try.func27 (by kernel_rfl) rfl #[.agg #[.slice Ao43 x220000_1.length co43, .slice Ao44 x220001_1.length co44], .int .i64 t223, .int .i64 (wrap64 (t226 - 15))] (by rfl) rfl rfl nc_ ?_
     with_reducible refine (spec_CountBy.calls k1 _ _ x220000_1 _ _ x220001_1 t223 (wrap64 (t226 - 15)) t229 t232 false _ ?side1 ?side2 ?side3 ?side4 A22.out).mono ?_
     (case side1 => exact kc_ (Kd.R_reads' HO_220000.out).2.2)
     (case side2 => exact (Kd.R_reads' HO_220000.out).2.1)
     (case side3 => exact kc_ (Kd.Q_reads' HO_220001.out).2.2)
     (case side4 => exact (Kd.Q_reads' HO_220001.out).2.1)
     rintro e w49 ⟨v230, v233, rfl, ho0, ho1, hb⟩
     refine ⟨_, rfl, ?_⟩
     have HO231 := Aside0.mk (Kd.R_lower (rnq_ (rn_ ho0 HO_220000.out) HO_220001.out) (keep_size (w := w) (g := g) (row := none) (by repeat (first | (with_reducible first | exact HK.out | apply KeepBut.set_ | apply keep_drewN | apply keep_drew | apply keep_alloc | refine keep_far ?_ GW212.out _ | refine keep_far ?_ GW219.out _ | refine keep_far ?_ GW236.out _) | exact HK.out))))
     have HO234 := Aside0.mk (Kd.R_lower (rnq_ (rn_ ho1 HO_220000.out) HO_220001.out) (keep_size (w := w) (g := g) (row := none) (by repeat (first | (with_reducible first | exact HK.out | apply KeepBut.set_ | apply keep_drewN | apply keep_drew | apply keep_alloc | refine keep_far ?_ GW212.out _ | refine keep_far ?_ GW219.out _ | refine keep_far ?_ GW236.out _) | exact HK.out))))
     replace HO_220000 := rp2_ HO_220000 hb ho0 ho1
     replace HO_220001 := qp2_ HO_220001 hb ho0 ho1
     replace BK212 := bb_ BK212 hb
     replace BK219 := bb_ BK219 hb
     replace BK236 := bb_ BK236 hb
     replace HK := Aside0.mk (KeepBut.trans (by repeat (first | (with_reducible first | exact HK.out | apply KeepBut.set_ | apply keep_drewN | apply keep_drew | apply keep_alloc | refine keep_far ?_ GW212.out _ | refine keep_far ?_ GW219.out _ | refine keep_far ?_ GW236.out _) | exact HK.out)) (KeepBut.of_below hb g none) (.inl rfl))
     replace HB := Aside0.mk (below_step (by repeat (first | (with_reducible first | exact HB.out | apply below_alloc | apply pw_below_drewN | apply below_drew1 | refine below_set ?_ (IsS67.ge HI0.out) | refine below_set ?_ GE212.out | refine below_set ?_ GE219.out | refine below_set ?_ GE236.out) | exact HB.out)) hb)
     replace HI0 := Aside0.mk (IsS67.below (by repeat (first | (with_reducible first | exact HI0.out | apply IsS67.alloc | apply IsS67.drewN | apply IsS67.drew | apply IsS67.set_1 | apply IsS67.set_2 | refine IsS67.far ?_ NB0_212.out _ | refine IsS67.far ?_ NB0_219.out _ | refine IsS67.far ?_ NB0_236.out _) | exact HI0.out)) hb)
     clear hb ho0 ho1
     refine hK.out _ _ ⟨bc_ BK219.out 0, bc_ BK219.out 1⟩ (fun hHeld => ?_)
     clear hK K
     refine norm_ nn_ ?_
     refine pu_ 7 (some 16) (h := ?_)
     refine pu_ 8 (some 24) (h := ?_)
     refine pu_ 9 (some 25) (h := ?_)
     exact norm_ (by simp only [putAll, Act.put, List.setIfInBounds_toArray, List.set_cons_zero, List.set_cons_succ]) (hCont (v230, v233, gb236) _ ⟨hHeld, kp_ HO231.out, kp_ HO234.out, kp_ HO_220000.out, (kpq_ HO_220001.out), kb_ BK212.out, kb_ BK219.out, kb_ BK236.out, GW236.out, GE236.out, NB0_236.out, NB236_0.out, NB212_236.out, NB236_212.out, NB219_236.out, NB236_219.out, (by repeat (first | (with_reducible first | exact HI0.out | apply IsS67.alloc | apply IsS67.drewN | apply IsS67.drew | apply IsS67.set_1 | apply IsS67.set_2 | refine IsS67.far ?_ NB0_212.out _ | refine IsS67.far ?_ NB0_219.out _ | refine IsS67.far ?_ NB0_236.out _) | exact HI0.out)), (by repeat (first | (with_reducible first | exact HK.out | apply KeepBut.set_ | apply keep_drewN | apply keep_drew | apply keep_alloc | refine keep_far ?_ GW212.out _ | refine keep_far ?_ GW219.out _ | refine keep_far ?_ GW236.out _) | exact HK.out)), (by repeat (first | (with_reducible first | exact HB.out | apply below_alloc | apply pw_below_drewN | apply below_drew1 | refine below_set ?_ (IsS67.ge HI0.out) | refine below_set ?_ GE212.out | refine below_set ?_ GE219.out | refine below_set ?_ GE236.out) | exact HB.out))⟩)
   ·skip
    refine box_step rfl (N := 5) rfl (cs := #[.slice none 0 0, .slice none 0 0]) (t := 27) gs_ ?_
    intro gb236 hg w46 hbox hb
    replace HO_220000 := rb_ HO_220000 hb
    replace HO_220001 := qb_ HO_220001 hb
    replace HB := Aside0.mk (below_step (by repeat (first | (with_reducible first | exact HB.out | apply below_alloc | apply pw_below_drewN | apply below_drew1 | refine below_set ?_ (IsS67.ge HI0.out) | refine below_set ?_ GE212.out | refine below_set ?_ GE219.out) | exact HB.out)) hb)
    have BK236 := Aside0.mk (hbox)
    have GW236 := Aside0.mk ((by rw [hg]; exact (keep_size (w := w) (g := g) (row := none) (by repeat (first | (with_reducible first | exact HK.out | apply KeepBut.set_ | apply keep_drewN | apply keep_drew | apply keep_alloc | refine keep_far ?_ GW212.out _ | refine keep_far ?_ GW219.out _) | exact HK.out))) : w.heap.size ≤ gb236))
    have GE236 := Aside0.mk ((Nat.le_trans HW0.out (by rw [hg]; exact (keep_size (w := w) (g := g) (row := none) (by repeat (first | (with_reducible first | exact HK.out | apply KeepBut.set_ | apply keep_drewN | apply keep_drew | apply keep_alloc | refine keep_far ?_ GW212.out _ | refine keep_far ?_ GW219.out _) | exact HK.out))) : w.heap.size ≤ gb236) : w0.heap.size ≤ gb236))
    replace HK := Aside0.mk (KeepBut.trans (by repeat (first | (with_reducible first | exact HK.out | apply KeepBut.set_ | apply keep_drewN | apply keep_drew | apply keep_alloc | refine keep_far ?_ GW212.out _ | refine keep_far ?_ GW219.out _) | exact HK.out)) (KeepBut.of_below hb g none) (.inl rfl))
    have NB212_236 := nl_ hg BK212
    have NB236_212 := nm_ hg BK212
    replace BK212 := bb_ BK212 hb
    have NB219_236 := nl_ hg BK219
    have NB236_219 := nm_ hg BK219
    replace BK219 := bb_ BK219 hb
    have NB0_236 := Aside0.mk ((by rw [hg]; exact Nat.ne_of_lt (IsS67.lt (show IsS67 w0 _ g s0_0 x1001_1 x1002_1 from by repeat (first | (with_reducible first | exact HI0.out | apply IsS67.alloc | apply IsS67.drewN | apply IsS67.drew | apply IsS67.set_1 | apply IsS67.set_2 | refine IsS67.far ?_ NB0_212.out _ | refine IsS67.far ?_ NB0_219.out _) | exact HI0.out))) : g ≠ gb236))
    have NB236_0 := Aside0.mk ((by rw [hg]; exact Nat.ne_of_gt (IsS67.lt (show IsS67 w0 _ g s0_0 x1001_1 x1002_1 from by repeat (first | (with_reducible first | exact HI0.out | apply IsS67.alloc | apply IsS67.drewN | apply IsS67.drew | apply IsS67.set_1 | apply IsS67.set_2 | refine IsS67.far ?_ NB0_212.out _ | refine IsS67.far ?_ NB0_219.out _) | exact HI0.out))) : gb236 ≠ g))
    replace HI0 := Aside0.mk (IsS67.below (by repeat (first | (with_reducible first | exact HI0.out | apply IsS67.alloc | apply IsS67.drewN | apply IsS67.drew | apply IsS67.set_1 | apply IsS67.set_2 | refine IsS67.far ?_ NB0_212.out _ | refine IsS67.far ?_ NB0_219.out _) | exact HI0.out)) hb)
    clear hb hbox hg
    refine hK.out _ _ ⟨bc_ BK219.out 0, bc_ BK219.out 1⟩ (fun hHeld => ?_)
    clear hK K
    refine norm_ nn_ ?_
    refine on_ 2 (some 19) (h := fun K hK => ?_)
    refine goes_ Try.func50 (by kernel_rfl) rfl #[.pointer (some ⟨g, 0, none⟩), .int .i64 6] (by rfl) rfl rfl nc_ ?_
    with_reducible refine (spec_l1Cur_pick.calls g s0_0 x1001_1 x1002_1 6 t223 t224 t225 w0 _ ?side1 ?side2 A20.out).mono ?_
    (case side1 => repeat (first | (with_reducible first | exact HI0.out | apply IsS67.alloc | apply IsS67.drewN | apply IsS67.drew | apply IsS67.set_1 | apply IsS67.set_2 | refine IsS67.far ?_ NB0_212.out _ | refine IsS67.far ?_ NB0_219.out _ | refine IsS67.far ?_ NB0_236.out _) | exact HI0.out))
    (case side2 => repeat (first | (with_reducible first | exact HB.out | apply below_alloc | apply pw_below_drewN | apply below_drew1 | refine below_set ?_ (IsS67.ge HI0.out) | refine below_set ?_ GE212.out | refine below_set ?_ GE219.out | refine below_set ?_ GE236.out) | exact HB.out))
    rintro e w47 ⟨rfl, hi, hb, hk⟩
    refine ⟨_, rfl, ?_⟩
    replace HO_220000 := Aside0.mk (Kd.R_mono (Kd.R_keep (IsS67.apart (show IsS67 w0 _ g s0_0 x1001_1 x1002_1 from by repeat (first | (with_reducible first | exact HI0.out | apply IsS67.alloc | apply IsS67.drewN | apply IsS67.drew | apply IsS67.set_1 | apply IsS67.set_2 | refine IsS67.far ?_ NB0_212.out _ | refine IsS67.far ?_ NB0_219.out _ | refine IsS67.far ?_ NB0_236.out _) | exact HI0.out)) (kr_ HO_220000.out) (by decide)) hk (fun _ h => h.2)) (fun _ h => h.1))
    replace HO_220001 := Aside0.mk (Kd.Q_mono (Kd.Q_keep (IsS67.apartQ (show IsS67 w0 _ g s0_0 x1001_1 x1002_1 from by repeat (first | (with_reducible first | exact HI0.out | apply IsS67.alloc | apply IsS67.drewN | apply IsS67.drew | apply IsS67.set_1 | apply IsS67.set_2 | refine IsS67.far ?_ NB0_212.out _ | refine IsS67.far ?_ NB0_219.out _ | refine IsS67.far ?_ NB0_236.out _) | exact HI0.out)) (kq_ HO_220001.out) (by decide)) hk (fun _ h => h.2)) (fun _ h => h.1))
    replace BK212 := Aside0.mk (KeepBut.blk hk (g' := gb212) (o := .cells #[.slice none 0 0, .slice none 0 0] 27 (0, 0)) (kb_ BK212.out) NB212_0.out (by simp))
    replace BK219 := Aside0.mk (KeepBut.blk hk (g' := gb219) (o := .cells #[.slice Ao43 x220000_1.length co43, .slice Ao44 x220001_1.length co44] 27 (0, 0)) (kb_ BK219.out) NB219_0.out (by simp))
    replace BK236 := Aside0.mk (KeepBut.blk hk (g' := gb236) (o := .cells #[.slice none 0 0, .slice none 0 0] 27 (0, 0)) (kb_ BK236.out) NB236_0.out (by simp))
    replace HK := Aside0.mk (KeepBut.trans (by repeat (first | (with_reducible first | exact HK.out | apply KeepBut.set_ | apply keep_drewN | apply keep_drew | apply keep_alloc | refine keep_far ?_ GW212.out _ | refine keep_far ?_ GW219.out _ | refine keep_far ?_ GW236.out _) | exact HK.out)) hk (.inl rfl))
    replace HB := Aside0.mk (hb)
    replace HI0 := Aside0.mk (hi)
    clear hb hk hi
    refine hK.out _ _ ⟨bc_ BK219.out 0, bc_ BK219.out 1⟩ (fun hHeld => ?_)
    clear hK K
    refine norm_ nn_ ?_
    refine on_ 4 (some 21) (h := fun K hK => ?_)
    refine goes_ Try.func50 (by kernel_rfl) rfl #[.pointer (some ⟨g, 0, none⟩), .int .i64 40] (by rfl) rfl rfl nc_ ?_
    with_reducible refine (spec_l1Cur_pick.calls g s0_0 t224 t225 40 t226 t227 t228 w0 _ ?side1 ?side2 A21.out).mono ?_
    (case side1 => repeat (first | (with_reducible first | exact HI0.out | apply IsS67.alloc | apply IsS67.drewN | apply IsS67.drew | apply IsS67.set_1 | apply IsS67.set_2 | refine IsS67.far ?_ NB0_212.out _ | refine IsS67.far ?_ NB0_219.out _ | refine IsS67.far ?_ NB0_236.out _) | exact HI0.out))
    (case side2 => repeat (first | (with_reducible first | exact HB.out | apply below_alloc | apply pw_below_drewN | apply below_drew1 | refine below_set ?_ (IsS67.ge HI0.out) | refine below_set ?_ GE212.out | refine below_set ?_ GE219.out | refine below_set ?_ GE236.out) | exact HB.out))
    rintro e w48 ⟨rfl, hi, hb, hk⟩
    refine ⟨_, rfl, ?_⟩
    replace HO_220000 := Aside0.mk (Kd.R_mono (Kd.R_keep (IsS67.apart (show IsS67 w0 _ g s0_0 t224 t225 from by repeat (first | (with_reducible first | exact HI0.out | apply IsS67.alloc | apply IsS67.drewN | apply IsS67.drew | apply IsS67.set_1 | apply IsS67.set_2 | refine IsS67.far ?_ NB0_212.out _ | refine IsS67.far ?_ NB0_219.out _ | refine IsS67.far ?_ NB0_236.out _) | exact HI0.out)) (kr_ HO_220000.out) (by decide)) hk (fun _ h => h.2)) (fun _ h => h.1))
    replace HO_220001 := Aside0.mk (Kd.Q_mono (Kd.Q_keep (IsS67.apartQ (show IsS67 w0 _ g s0_0 t224 t225 from by repeat (first | (with_reducible first | exact HI0.out | apply IsS67.alloc | apply IsS67.drewN | apply IsS67.drew | apply IsS67.set_1 | apply IsS67.set_2 | refine IsS67.far ?_ NB0_212.out _ | refine IsS67.far ?_ NB0_219.out _ | refine IsS67.far ?_ NB0_236.out _) | exact HI0.out)) (kq_ HO_220001.out) (by decide)) hk (fun _ h => h.2)) (fun _ h => h.1))
    replace BK212 := Aside0.mk (KeepBut.blk hk (g' := gb212) (o := .cells #[.slice none 0 0, .slice none 0 0] 27 (0, 0)) (kb_ BK212.out) NB212_0.out (by simp))
    replace BK219 := Aside0.mk (KeepBut.blk hk (g' := gb219) (o := .cells #[.slice Ao43 x220000_1.length co43, .slice Ao44 x220001_1.length co44] 27 (0, 0)) (kb_ BK219.out) NB219_0.out (by simp))
    replace BK236 := Aside0.mk (KeepBut.blk hk (g' := gb236) (o := .cells #[.slice none 0 0, .slice none 0 0] 27 (0, 0)) (kb_ BK236.out) NB236_0.out (by simp))
    replace HK := Aside0.mk (KeepBut.trans (by repeat (first | (with_reducible first | exact HK.out | apply KeepBut.set_ | apply keep_drewN | apply keep_drew | apply keep_alloc | refine keep_far ?_ GW212.out _ | refine keep_far ?_ GW219.out _ | refine keep_far ?_ GW236.out _) | exact HK.out)) hk (.inl rfl))
    replace HB := Aside0.mk (hb)
    replace HI0 := Aside0.mk (hi)
    clear hb hk hi
    refine hK.out _ _ ⟨bc_ BK219.out 0, bc_ BK219.out 1⟩ (fun hHeld => ?_)
    clear hK K
    refine norm_ nn_ ?_
    refine pu_ 5 (some 22) (h := ?_)
    refine on_ 6 (some 23) (h := fun K hK => ?_)
    refine goes_ Try.func27 (by kernel_rfl) rfl #[.agg #[.slice Ao43 x220000_1.length co43, .slice Ao44 x220001_1.length co44], .int .i64 t223, .int .i64 (wrap64 (t226 - 15))] (by rfl) rfl rfl nc_ ?_
    with_reducible refine (spec_CountBy.calls k1 _ _ x220000_1 _ _ x220001_1 t223 (wrap64 (t226 - 15)) t229 t232 false _ ?side1 ?side2 ?side3 ?side4 A22.out).mono ?_
    (case side1 => exact kc_ (Kd.R_reads' HO_220000.out).2.2)
    (case side2 => exact (Kd.R_reads' HO_220000.out).2.1)
    (case side3 => exact kc_ (Kd.Q_reads' HO_220001.out).2.2)
    (case side4 => exact (Kd.Q_reads' HO_220001.out).2.1)
    rintro e w49 ⟨v230, v233, rfl, ho0, ho1, hb⟩
    refine ⟨_, rfl, ?_⟩
    have HO231 := Aside0.mk (Kd.R_lower (rnq_ (rn_ ho0 HO_220000.out) HO_220001.out) (keep_size (w := w) (g := g) (row := none) (by repeat (first | (with_reducible first | exact HK.out | apply KeepBut.set_ | apply keep_drewN | apply keep_drew | apply keep_alloc | refine keep_far ?_ GW212.out _ | refine keep_far ?_ GW219.out _ | refine keep_far ?_ GW236.out _) | exact HK.out))))
    have HO234 := Aside0.mk (Kd.R_lower (rnq_ (rn_ ho1 HO_220000.out) HO_220001.out) (keep_size (w := w) (g := g) (row := none) (by repeat (first | (with_reducible first | exact HK.out | apply KeepBut.set_ | apply keep_drewN | apply keep_drew | apply keep_alloc | refine keep_far ?_ GW212.out _ | refine keep_far ?_ GW219.out _ | refine keep_far ?_ GW236.out _) | exact HK.out))))
    replace HO_220000 := rp2_ HO_220000 hb ho0 ho1
    replace HO_220001 := qp2_ HO_220001 hb ho0 ho1
    replace BK212 := bb_ BK212 hb
    replace BK219 := bb_ BK219 hb
    replace BK236 := bb_ BK236 hb
    replace HK := Aside0.mk (KeepBut.trans (by repeat (first | (with_reducible first | exact HK.out | apply KeepBut.set_ | apply keep_drewN | apply keep_drew | apply keep_alloc | refine keep_far ?_ GW212.out _ | refine keep_far ?_ GW219.out _ | refine keep_far ?_ GW236.out _) | exact HK.out)) (KeepBut.of_below hb g none) (.inl rfl))
    replace HB := Aside0.mk (below_step (by repeat (first | (with_reducible first | exact HB.out | apply below_alloc | apply pw_below_drewN | apply below_drew1 | refine below_set ?_ (IsS67.ge HI0.out) | refine below_set ?_ GE212.out | refine below_set ?_ GE219.out | refine below_set ?_ GE236.out) | exact HB.out)) hb)
    replace HI0 := Aside0.mk (IsS67.below (by repeat (first | (with_reducible first | exact HI0.out | apply IsS67.alloc | apply IsS67.drewN | apply IsS67.drew | apply IsS67.set_1 | apply IsS67.set_2 | refine IsS67.far ?_ NB0_212.out _ | refine IsS67.far ?_ NB0_219.out _ | refine IsS67.far ?_ NB0_236.out _) | exact HI0.out)) hb)
    clear hb ho0 ho1
    refine hK.out _ _ ⟨bc_ BK219.out 0, bc_ BK219.out 1⟩ (fun hHeld => ?_)
    clear hK K
    refine norm_ nn_ ?_
    refine pu_ 7 (some 16) (h := ?_)
    refine pu_ 8 (some 24) (h := ?_)
    refine pu_ 9 (some 25) (h := ?_)
    exact norm_ (by simp only [putAll, Act.put, List.setIfInBounds_toArray, List.set_cons_zero, List.set_cons_succ]) (hCont (v230, v233, gb236) _ ⟨hHeld, kp_ HO231.out, kp_ HO234.out, kp_ HO_220000.out, (kpq_ HO_220001.out), kb_ BK212.out, kb_ BK219.out, kb_ BK236.out, GW236.out, GE236.out, NB0_236.out, NB236_0.out, NB212_236.out, NB236_212.out, NB219_236.out, NB236_219.out, (by repeat (first | (with_reducible first | exact HI0.out | apply IsS67.alloc | apply IsS67.drewN | apply IsS67.drew | apply IsS67.set_1 | apply IsS67.set_2 | refine IsS67.far ?_ NB0_212.out _ | refine IsS67.far ?_ NB0_219.out _ | refine IsS67.far ?_ NB0_236.out _) | exact HI0.out)), (by repeat (first | (with_reducible first | exact HK.out | apply KeepBut.set_ | apply keep_drewN | apply keep_drew | apply keep_alloc | refine keep_far ?_ GW212.out _ | refine keep_far ?_ GW219.out _ | refine keep_far ?_ GW236.out _) | exact HK.out)), (by repeat (first | (with_reducible first | exact HB.out | apply below_alloc | apply pw_below_drewN | apply below_drew1 | refine below_set ?_ (IsS67.ge HI0.out) | refine below_set ?_ GE212.out | refine below_set ?_ GE219.out | refine below_set ?_ GE236.out) | exact HB.out))⟩)
  rintro ⟨v230, v233, gb236⟩ w50 ⟨hS_, h0_, h1_, h2_, h3_, h4_, h5_, h6_, h7_, h8_, h9_, h10_, h11_, h12_, h13_, h14_, h15_, h16_, h17_⟩
  dsimp only at h0_ h1_ h2_ h3_ h4_ h5_ h6_ h7_ h8_ h9_ h10_ h11_ h12_ h13_ h14_ h15_ h16_ h17_
  have HO231 := Aside0.mk h0_
  have HO234 := Aside0.mk h1_
  replace HO_220000 := Aside0.mk h2_
  replace HO_220001 := Aside0.mk h3_
  replace BK212 := Aside0.mk h4_
  replace BK219 := Aside0.mk h5_
  have BK236 := Aside0.mk h6_
  have GW236 := Aside0.mk h7_
  have GE236 := Aside0.mk h8_
  have NB0_236 := Aside0.mk h9_
  have NB236_0 := Aside0.mk h10_
  have NB212_236 := Aside0.mk h11_
  have NB236_212 := Aside0.mk h12_
  have NB219_236 := Aside0.mk h13_
  have NB236_219 := Aside0.mk h14_
  replace HI0 := Aside0.mk h15_
  replace HK := Aside0.mk h16_
  replace HB := Aside0.mk h17_
  clear h0_ h1_ h2_ h3_ h4_ h5_ h6_ h7_ h8_ h9_ h10_ h11_ h12_ h13_ h14_ h15_ h16_ h17_
  try dsimp only at hS_
  have hHeld := hS_
  obtain ⟨Ao51, co51, eo51⟩ := Kd.R_slice HO231.out
  (first | subst eo51 | (injection eo51 with f1_ f2_ f3_; have f4_ := f1_.symm; have f5_ := f3_.symm; clear f1_ f2_ f3_; subst f4_; subst f5_))
  obtain ⟨Ao53, co53, eo53⟩ := Kd.R_slice HO234.out
  (first | subst eo53 | (injection eo53 with f1_ f2_ f3_; have f4_ := f1_.symm; have f5_ := f3_.symm; clear f1_ f2_ f3_; subst f4_; subst f5_))
  refine norm_ np_ ?_
  refine on_ 11 none (h := fun K hK => ?_)
  have hs52 : w50.cell? ⟨gb236, 0, none⟩ = some (.slice none 0 0) := bc_ BK236.out 0
  have hfs52 := blk_frozen BK236.out 0
  have hns52_0 := NB212_236.out
  have hns52_1 := NB219_236.out
  have hms52_0 := NB236_212.out
  have hms52_1 := NB236_219.out
  have hs54 : w50.cell? ⟨gb236, 1, none⟩ = some (.slice none 0 0) := bc_ BK236.out 1
  have hfs54 := blk_frozen BK236.out 1
  have hns54_0 := NB212_236.out
  have hns54_1 := NB219_236.out
  have hms54_0 := NB236_212.out
  have hms54_1 := NB236_219.out
  refine skip_ (w1 := ?_) (by rfl) rfl ?_ ?_
  rotate_left
  ·go_simp
   rfl
  refine hK.out _ _ ⟨((cell_far (p := ⟨gb236, _, none⟩) NB219_236.out _).trans (((cell_far (p := ⟨gb236, _, none⟩) NB219_236.out _).trans (hHeld.1)))), ((cell_far (p := ⟨gb236, _, none⟩) NB219_236.out _).trans (((cell_far (p := ⟨gb236, _, none⟩) NB219_236.out _).trans (hHeld.2))))⟩ (fun hHeld => ?_)
  clear hK K
  refine pu_ 12 (some 6) (h := ?_)
  refine done_ (done_of HT_.out (by kernel_rfl)) ?_
  try go_wp2
  go_roundg k1
  case measure => have := HK1.out; omega
  case rel => exact ⟨(wrap64 (x4_1 - 1)), (t227), (t228), (x220000_1), (x220001_1), (.slice Ao43 x220000_1.length co43), (.slice Ao44 x220001_1.length co44), (by first | rfl | (simp; done) | (simp [*]; done)), H', ⟨by have := HK1.out; omega⟩, ⟨by exact kr_ (Kd.R_mono (Kd.R_far (p := ⟨gb236, 1, none⟩) (Kd.R_far (p := ⟨gb236, 0, none⟩) (Kd.R_types HO_220000.out BK236.out (by decide)) (fun _ hk => hk.2) (.slice Ao51 t229.length co51)) (fun _ hk => hk.2) (.slice Ao53 t232.length co53)) (fun _ hk => hk.1.2.2))⟩, ⟨by exact kq_ (Kd.Q_mono (Kd.Q_far (p := ⟨gb236, 1, none⟩) (Kd.Q_far (p := ⟨gb236, 0, none⟩) (Kd.Q_types HO_220001.out BK236.out (by decide)) (fun _ hk => hk.2) (.slice Ao51 t229.length co51)) (fun _ hk => hk.2) (.slice Ao53 t232.length co53)) (fun _ hk => hk.1.2.2))⟩, ⟨kz_⟩, ⟨kz_⟩, ⟨by repeat (first | (with_reducible first | exact HI0.out | apply IsS67.alloc | apply IsS67.drewN | apply IsS67.drew | apply IsS67.set_1 | apply IsS67.set_2 | refine IsS67.far ?_ NB0_212.out _ | refine IsS67.far ?_ NB0_219.out _ | refine IsS67.far ?_ NB0_236.out _) | exact HI0.out)⟩, ⟨by repeat (first | (with_reducible first | exact HK.out | apply KeepBut.set_ | apply keep_drewN | apply keep_drew | apply keep_alloc | refine keep_far ?_ GW212.out _ | refine keep_far ?_ GW219.out _ | refine keep_far ?_ GW236.out _) | exact HK.out)⟩, ⟨by repeat (first | (with_reducible first | exact HB.out | apply below_alloc | apply pw_below_drewN | apply below_drew1 | refine below_set ?_ (IsS67.ge HI0.out) | refine below_set ?_ GE212.out | refine below_set ?_ GE219.out | refine below_set ?_ GE236.out) | exact HB.out)⟩⟩
 subst c23
 have H1 : (spec_l1Cur_counter.l0 k1 (wrap64 (x4_1 - 1)) s0_0 t227 t228 t229 t232) = some (r1, r2, r3, r4) := by rw [if_pos rfl] at H; exact H
 clear H
 have H := H1
 clear H1
 have H' := Aside0.mk H
 clear H
 obtain ⟨Ao24, co24, eo24⟩ := Kd.R_slice HO_220000.out
 subst eo24
 obtain ⟨Ao25, co25, eo25, _⟩ := Kd.Q_slice HO_220001.out
 subst eo25
 try go_wp2
 replace HO_220000 := Aside0.mk (Kd.R_drew HO_220000.out)
 replace HO_220001 := Aside0.mk (Kd.Q_drew HO_220001.out)
 replace BK212 := Aside0.mk (blk_drew BK212.out)
 replace BK219 := Aside0.mk (blk_drew BK219.out)
 replace HI0 := Aside0.mk (IsS67.drew HI0.out)
 replace HK := Aside0.mk (keep_drew HK.out)
 replace HB := Aside0.mk (below_drew1 HB.out)
 refine start_ (n := 13) (S := fun w' => w'.cell? ⟨gb219, 0, none⟩ = some (.slice Ao24 x220000_1.length co24) ∧ w'.cell? ⟨gb219, 1, none⟩ = some (.slice Ao25 x220001_1.length co25)) (ds := []) #[false, false, false, false, false, false, false, false, false, false, false, false, false] (by kernel_rfl) rfl rfl ⟨bc_ BK219.out 0, bc_ BK219.out 1⟩ (fun hHeld => ?_); refine with_tabW spec_l1Cur_counter.tab5 spec_l1Cur_counter.bits5 (fun HT_ HW_ => ?_)
 generalize wr.drew = w26 at HO_220000 HO_220001 BK212 BK219 HI0 HK HB hHeld ⊢
 refine pu_ 1 (some 18) (h := ?_)
 refine pu_ 3 (some 20) (h := ?_)
 refine tk2_ 0 (some 17) (h := ?_)
 refine join_ (σ := Value × Value × Nat) 2 #[true, true, true, true, true, true, true, true, true, true, true, false, false] (fun s_ => [(19, .int .i64 t223), (21, .int .i64 t226), (23, .tuple #[.agg #[s_.1, s_.2.1], .bool true]), (5, .pointer (some ⟨s_.2.2, 0, none⟩)), (22, .int .i64 (wrap64 (t226 - 15))), (16, .tuple #[.agg #[s_.1, s_.2.1], .bool true]), (24, .agg #[s_.1, s_.2.1]), (25, .bool true)]) (fun s_ w' => (w'.cell? ⟨gb219, 0, none⟩ = some (.slice Ao24 x220000_1.length co24) ∧ w'.cell? ⟨gb219, 1, none⟩ = some (.slice Ao25 x220001_1.length co25)) ∧ (Kd.R (Kd.int .i64) 3 w' w.heap.size (fun k_ => some k_ ≠ (s_.2.1 : Value).ownBlock ∧ some k_ ≠ (.slice Ao24 x220000_1.length co24 : Value).ownBlock ∧ some k_ ≠ (.slice Ao25 x220001_1.length co25 : Value).ownBlock) s_.1 t229) ∧ (Kd.R (Kd.int .i64) 3 w' w.heap.size (fun k_ => some k_ ≠ (s_.1 : Value).ownBlock ∧ some k_ ≠ (.slice Ao24 x220000_1.length co24 : Value).ownBlock ∧ some k_ ≠ (.slice Ao25 x220001_1.length co25 : Value).ownBlock) s_.2.1 t232) ∧ (Kd.R (Kd.int .i64) 3 w' w.heap.size (fun k_ => some k_ ≠ (s_.1 : Value).ownBlock ∧ some k_ ≠ (s_.2.1 : Value).ownBlock ∧ some k_ ≠ (.slice Ao25 x220001_1.length co25 : Value).ownBlock) (.slice Ao24 x220000_1.length co24) x220000_1) ∧ (Kd.Q (Kd.int .i64) 3 w' w.heap.size (fun k_ => some k_ ≠ (s_.1 : Value).ownBlock ∧ some k_ ≠ (s_.2.1 : Value).ownBlock ∧ some k_ ≠ (.slice Ao24 x220000_1.length co24 : Value).ownBlock) (.slice Ao25 x220001_1.length co25) x220001_1) ∧ (w'.heap[gb212]? = some (.cells #[.slice none 0 0, .slice none 0 0] 27 (0, 0))) ∧ (w'.heap[gb219]? = some (.cells #[.slice Ao24 x220000_1.length co24, .slice Ao25 x220001_1.length co25] 27 (0, 0))) ∧ (w'.heap[s_.2.2]? = some (.cells #[.slice none 0 0, .slice none 0 0] 27 (0, 0))) ∧ (w.heap.size ≤ s_.2.2) ∧ (w0.heap.size ≤ s_.2.2) ∧ (g ≠ s_.2.2) ∧ (s_.2.2 ≠ g) ∧ (gb212 ≠ s_.2.2) ∧ (s_.2.2 ≠ gb212) ∧ (gb219 ≠ s_.2.2) ∧ (s_.2.2 ≠ gb219) ∧ (IsS67 w0 w' g s0_0 t227 t228) ∧ (KeepBut w w' g none) ∧ (Below w0.heap.size w0 w')) ?_ ?_
 rotate_left
 ·intro hCont
  refine tw_ 2 10 (some 19) (some 5) (h1 := fun K hK => ?_) (h2 := fun K hK => ?_)
  ·skip
   refine goes_ Try.func50 (by kernel_rfl) rfl #[.pointer (some ⟨g, 0, none⟩), .int .i64 6] (by rfl) rfl rfl nc_ ?_
   with_reducible refine (spec_l1Cur_pick.calls g s0_0 x1001_1 x1002_1 6 t223 t224 t225 w0 _ ?side1 ?side2 A20.out).mono ?_
   (case side1 => repeat (first | (with_reducible first | exact HI0.out | apply IsS67.alloc | apply IsS67.drewN | apply IsS67.drew | apply IsS67.set_1 | apply IsS67.set_2 | refine IsS67.far ?_ NB0_212.out _ | refine IsS67.far ?_ NB0_219.out _) | exact HI0.out))
   (case side2 => repeat (first | (with_reducible first | exact HB.out | apply below_alloc | apply pw_below_drewN | apply below_drew1 | refine below_set ?_ (IsS67.ge HI0.out) | refine below_set ?_ GE212.out | refine below_set ?_ GE219.out) | exact HB.out))
   rintro e w27 ⟨rfl, hi, hb, hk⟩
   refine ⟨_, rfl, ?_⟩
   replace HO_220000 := Aside0.mk (Kd.R_mono (Kd.R_keep (IsS67.apart (show IsS67 w0 _ g s0_0 x1001_1 x1002_1 from by repeat (first | (with_reducible first | exact HI0.out | apply IsS67.alloc | apply IsS67.drewN | apply IsS67.drew | apply IsS67.set_1 | apply IsS67.set_2 | refine IsS67.far ?_ NB0_212.out _ | refine IsS67.far ?_ NB0_219.out _) | exact HI0.out)) (kr_ HO_220000.out) (by decide)) hk (fun _ h => h.2)) (fun _ h => h.1))
   replace HO_220001 := Aside0.mk (Kd.Q_mono (Kd.Q_keep (IsS67.apartQ (show IsS67 w0 _ g s0_0 x1001_1 x1002_1 from by repeat (first | (with_reducible first | exact HI0.out | apply IsS67.alloc | apply IsS67.drewN | apply IsS67.drew | apply IsS67.set_1 | apply IsS67.set_2 | refine IsS67.far ?_ NB0_212.out _ | refine IsS67.far ?_ NB0_219.out _) | exact HI0.out)) (kq_ HO_220001.out) (by decide)) hk (fun _ h => h.2)) (fun _ h => h.1))
   replace BK212 := Aside0.mk (KeepBut.blk hk (g' := gb212) (o := .cells #[.slice none 0 0, .slice none 0 0] 27 (0, 0)) (kb_ BK212.out) NB212_0.out (by simp))
   replace BK219 := Aside0.mk (KeepBut.blk hk (g' := gb219) (o := .cells #[.slice Ao24 x220000_1.length co24, .slice Ao25 x220001_1.length co25] 27 (0, 0)) (kb_ BK219.out) NB219_0.out (by simp))
   replace HK := Aside0.mk (KeepBut.trans (by repeat (first | (with_reducible first | exact HK.out | apply KeepBut.set_ | apply keep_drewN | apply keep_drew | apply keep_alloc | refine keep_far ?_ GW212.out _ | refine keep_far ?_ GW219.out _) | exact HK.out)) hk (.inl rfl))
   replace HB := Aside0.mk (hb)
   replace HI0 := Aside0.mk (hi)
   clear hb hk hi
   refine hK.out _ _ ⟨bc_ BK219.out 0, bc_ BK219.out 1⟩ (fun hHeld => ?_)
   clear hK K
   refine norm_ nn_ ?_
   refine tw_ 4 10 (some 21) (some 5) (h1 := fun K hK => ?_) (h2 := fun K hK => ?_)
   ·skip
    refine goes_ Try.func50 (by kernel_rfl) rfl #[.pointer (some ⟨g, 0, none⟩), .int .i64 40] (by rfl) rfl rfl nc_ ?_
    with_reducible refine (spec_l1Cur_pick.calls g s0_0 t224 t225 40 t226 t227 t228 w0 _ ?side1 ?side2 A21.out).mono ?_
    (case side1 => repeat (first | (with_reducible first | exact HI0.out | apply IsS67.alloc | apply IsS67.drewN | apply IsS67.drew | apply IsS67.set_1 | apply IsS67.set_2 | refine IsS67.far ?_ NB0_212.out _ | refine IsS67.far ?_ NB0_219.out _) | exact HI0.out))
    (case side2 => repeat (first | (with_reducible first | exact HB.out | apply below_alloc | apply pw_below_drewN | apply below_drew1 | refine below_set ?_ (IsS67.ge HI0.out) | refine below_set ?_ GE212.out | refine below_set ?_ GE219.out) | exact HB.out))
    rintro e w28 ⟨rfl, hi, hb, hk⟩
    refine ⟨_, rfl, ?_⟩
    replace HO_220000 := Aside0.mk (Kd.R_mono (Kd.R_keep (IsS67.apart (show IsS67 w0 _ g s0_0 t224 t225 from by repeat (first | (with_reducible first | exact HI0.out | apply IsS67.alloc | apply IsS67.drewN | apply IsS67.drew | apply IsS67.set_1 | apply IsS67.set_2 | refine IsS67.far ?_ NB0_212.out _ | refine IsS67.far ?_ NB0_219.out _) | exact HI0.out)) (kr_ HO_220000.out) (by decide)) hk (fun _ h => h.2)) (fun _ h => h.1))
    replace HO_220001 := Aside0.mk (Kd.Q_mono (Kd.Q_keep (IsS67.apartQ (show IsS67 w0 _ g s0_0 t224 t225 from by repeat (first | (with_reducible first | exact HI0.out | apply IsS67.alloc | apply IsS67.drewN | apply IsS67.drew | apply IsS67.set_1 | apply IsS67.set_2 | refine IsS67.far ?_ NB0_212.out _ | refine IsS67.far ?_ NB0_219.out _) | exact HI0.out)) (kq_ HO_220001.out) (by decide)) hk (fun _ h => h.2)) (fun _ h => h.1))
    replace BK212 := Aside0.mk (KeepBut.blk hk (g' := gb212) (o := .cells #[.slice none 0 0, .slice none 0 0] 27 (0, 0)) (kb_ BK212.out) NB212_0.out (by simp))
    replace BK219 := Aside0.mk (KeepBut.blk hk (g' := gb219) (o := .cells #[.slice Ao24 x220000_1.length co24, .slice Ao25 x220001_1.length co25] 27 (0, 0)) (kb_ BK219.out) NB219_0.out (by simp))
    replace HK := Aside0.mk (KeepBut.trans (by repeat (first | (with_reducible first | exact HK.out | apply KeepBut.set_ | apply keep_drewN | apply keep_drew | apply keep_alloc | refine keep_far ?_ GW212.out _ | refine keep_far ?_ GW219.out _) | exact HK.out)) hk (.inl rfl))
    replace HB := Aside0.mk (hb)
    replace HI0 := Aside0.mk (hi)
    clear hb hk hi
    refine hK.out _ _ ⟨bc_ BK219.out 0, bc_ BK219.out 1⟩ (fun hHeld => ?_)
    clear hK K
    refine norm_ nn_ ?_
    refine pu_ 5 (some 22) (h := ?_)
    refine tw_ 6 10 (some 23) (some 5) (h1 := fun K hK => ?_) (h2 := fun K hK => ?_)
    ·skip
     refine goes_ Try.func27 (by kernel_rfl) rfl #[.agg #[.slice Ao24 x220000_1.length co24, .slice Ao25 x220001_1.length co25], .int .i64 t223, .int .i64 (wrap64 (t226 - 15))] (by rfl) rfl rfl nc_ ?_
     with_reducible refine (spec_CountBy.calls k1 _ _ x220000_1 _ _ x220001_1 t223 (wrap64 (t226 - 15)) t229 t232 true _ ?side1 ?side2 ?side3 ?side4 A22.out).mono ?_
     (case side1 => exact kc_ (Kd.R_reads' HO_220000.out).2.2)
     (case side2 => exact (Kd.R_reads' HO_220000.out).2.1)
     (case side3 => exact kc_ (Kd.Q_reads' HO_220001.out).2.2)
     (case side4 => exact (Kd.Q_reads' HO_220001.out).2.1)
     rintro e w29 ⟨v230, v233, rfl, ho0, ho1, hb⟩
     refine ⟨_, rfl, ?_⟩
     have HO231 := Aside0.mk (Kd.R_lower (rnq_ (rn_ ho0 HO_220000.out) HO_220001.out) (keep_size (w := w) (g := g) (row := none) (by repeat (first | (with_reducible first | exact HK.out | apply KeepBut.set_ | apply keep_drewN | apply keep_drew | apply keep_alloc | refine keep_far ?_ GW212.out _ | refine keep_far ?_ GW219.out _) | exact HK.out))))
     have HO234 := Aside0.mk (Kd.R_lower (rnq_ (rn_ ho1 HO_220000.out) HO_220001.out) (keep_size (w := w) (g := g) (row := none) (by repeat (first | (with_reducible first | exact HK.out | apply KeepBut.set_ | apply keep_drewN | apply keep_drew | apply keep_alloc | refine keep_far ?_ GW212.out _ | refine keep_far ?_ GW219.out _) | exact HK.out))))
     replace HO_220000 := rp2_ HO_220000 hb ho0 ho1
     replace HO_220001 := qp2_ HO_220001 hb ho0 ho1
     replace BK212 := bb_ BK212 hb
     replace BK219 := bb_ BK219 hb
     replace HK := Aside0.mk (KeepBut.trans (by repeat (first | (with_reducible first | exact HK.out | apply KeepBut.set_ | apply keep_drewN | apply keep_drew | apply keep_alloc | refine keep_far ?_ GW212.out _ | refine keep_far ?_ GW219.out _) | exact HK.out)) (KeepBut.of_below hb g none) (.inl rfl))
     replace HB := Aside0.mk (below_step (by repeat (first | (with_reducible first | exact HB.out | apply below_alloc | apply pw_below_drewN | apply below_drew1 | refine below_set ?_ (IsS67.ge HI0.out) | refine below_set ?_ GE212.out | refine below_set ?_ GE219.out) | exact HB.out)) hb)
     replace HI0 := Aside0.mk (IsS67.below (by repeat (first | (with_reducible first | exact HI0.out | apply IsS67.alloc | apply IsS67.drewN | apply IsS67.drew | apply IsS67.set_1 | apply IsS67.set_2 | refine IsS67.far ?_ NB0_212.out _ | refine IsS67.far ?_ NB0_219.out _) | exact HI0.out)) hb)
     clear hb ho0 ho1
     refine hK.out _ _ ⟨bc_ BK219.out 0, bc_ BK219.out 1⟩ (fun hHeld => ?_)
     clear hK K
     refine norm_ nn_ ?_
     refine pu_ 7 (some 16) (h := ?_)
     refine pu_ 8 (some 24) (h := ?_)
     refine pu_ 9 (some 25) (h := ?_)
     refine on_ 10 (some 5) (h := fun K hK => ?_)
     refine box_step rfl (N := 5) rfl (cs := #[.slice none 0 0, .slice none 0 0]) (t := 27) gs_ ?_
     intro gb236 hg w30 hbox hb
     replace HO_220000 := rb_ HO_220000 hb
     replace HO_220001 := qb_ HO_220001 hb
     replace HO231 := rb_ HO231 hb
     replace HO234 := rb_ HO234 hb
     replace HB := Aside0.mk (below_step (by repeat (first | (with_reducible first | exact HB.out | apply below_alloc | apply pw_below_drewN | apply below_drew1 | refine below_set ?_ (IsS67.ge HI0.out) | refine below_set ?_ GE212.out | refine below_set ?_ GE219.out) | exact HB.out)) hb)
     have BK236 := Aside0.mk (hbox)
     have GW236 := Aside0.mk ((by rw [hg]; exact (keep_size (w := w) (g := g) (row := none) (by repeat (first | (with_reducible first | exact HK.out | apply KeepBut.set_ | apply keep_drewN | apply keep_drew | apply keep_alloc | refine keep_far ?_ GW212.out _ | refine keep_far ?_ GW219.out _) | exact HK.out))) : w.heap.size ≤ gb236))
     have GE236 := Aside0.mk ((Nat.le_trans HW0.out (by rw [hg]; exact (keep_size (w := w) (g := g) (row := none) (by repeat (first | (with_reducible first | exact HK.out | apply KeepBut.set_ | apply keep_drewN | apply keep_drew | apply keep_alloc | refine keep_far ?_ GW212.out _ | refine keep_far ?_ GW219.out _) | exact HK.out))) : w.heap.size ≤ gb236) : w0.heap.size ≤ gb236))
     replace HK := Aside0.mk (KeepBut.trans (by repeat (first | (with_reducible first | exact HK.out | apply KeepBut.set_ | apply keep_drewN | apply keep_drew | apply keep_alloc | refine keep_far ?_ GW212.out _ | refine keep_far ?_ GW219.out _) | exact HK.out)) (KeepBut.of_below hb g none) (.inl rfl))
     have NB212_236 := nl_ hg BK212
     have NB236_212 := nm_ hg BK212
     replace BK212 := bb_ BK212 hb
     have NB219_236 := nl_ hg BK219
     have NB236_219 := nm_ hg BK219
     replace BK219 := bb_ BK219 hb
     have NB0_236 := Aside0.mk ((by rw [hg]; exact Nat.ne_of_lt (IsS67.lt (show IsS67 w0 _ g s0_0 t227 t228 from by repeat (first | (with_reducible first | exact HI0.out | apply IsS67.alloc | apply IsS67.drewN | apply IsS67.drew | apply IsS67.set_1 | apply IsS67.set_2 | refine IsS67.far ?_ NB0_212.out _ | refine IsS67.far ?_ NB0_219.out _) | exact HI0.out))) : g ≠ gb236))
     have NB236_0 := Aside0.mk ((by rw [hg]; exact Nat.ne_of_gt (IsS67.lt (show IsS67 w0 _ g s0_0 t227 t228 from by repeat (first | (with_reducible first | exact HI0.out | apply IsS67.alloc | apply IsS67.drewN | apply IsS67.drew | apply IsS67.set_1 | apply IsS67.set_2 | refine IsS67.far ?_ NB0_212.out _ | refine IsS67.far ?_ NB0_219.out _) | exact HI0.out))) : gb236 ≠ g))
     replace HI0 := Aside0.mk (IsS67.below (by repeat (first | (with_reducible first | exact HI0.out | apply IsS67.alloc | apply IsS67.drewN | apply IsS67.drew | apply IsS67.set_1 | apply IsS67.set_2 | refine IsS67.far ?_ NB0_212.out _ | refine IsS67.far ?_ NB0_219.out _) | exact HI0.out)) hb)
     clear hb hbox hg
     refine hK.out _ _ ⟨bc_ BK219.out 0, bc_ BK219.out 1⟩ (fun hHeld => ?_)
     clear hK K
     refine norm_ nn_ ?_
     exact norm_ (by simp only [putAll, Act.put, List.setIfInBounds_toArray, List.set_cons_zero, List.set_cons_succ]) (hCont (v230, v233, gb236) _ ⟨hHeld, kp_ HO231.out, kp_ HO234.out, kp_ HO_220000.out, (kpq_ HO_220001.out), kb_ BK212.out, kb_ BK219.out, kb_ BK236.out, GW236.out, GE236.out, NB0_236.out, NB236_0.out, NB212_236.out, NB236_212.out, NB219_236.out, NB236_219.out, (by repeat (first | (with_reducible first | exact HI0.out | apply IsS67.alloc | apply IsS67.drewN | apply IsS67.drew | apply IsS67.set_1 | apply IsS67.set_2 | refine IsS67.far ?_ NB0_212.out _ | refine IsS67.far ?_ NB0_219.out _ | refine IsS67.far ?_ NB0_236.out _) | exact HI0.out)), (by repeat (first | (with_reducible first | exact HK.out | apply KeepBut.set_ | apply keep_drewN | apply keep_drew | apply keep_alloc | refine keep_far ?_ GW212.out _ | refine keep_far ?_ GW219.out _ | refine keep_far ?_ GW236.out _) | exact HK.out)), (by repeat (first | (with_reducible first | exact HB.out | apply below_alloc | apply pw_below_drewN | apply below_drew1 | refine below_set ?_ (IsS67.ge HI0.out) | refine below_set ?_ GE212.out | refine below_set ?_ GE219.out | refine below_set ?_ GE236.out) | exact HB.out))⟩)
    ·skip
     refine box_step rfl (N := 5) rfl (cs := #[.slice none 0 0, .slice none 0 0]) (t := 27) gs_ ?_
     intro gb236 hg w29 hbox hb
     replace HO_220000 := rb_ HO_220000 hb
     replace HO_220001 := qb_ HO_220001 hb
     replace HB := Aside0.mk (below_step (by repeat (first | (with_reducible first | exact HB.out | apply below_alloc | apply pw_below_drewN | apply below_drew1 | refine below_set ?_ (IsS67.ge HI0.out) | refine below_set ?_ GE212.out | refine below_set ?_ GE219.out) | exact HB.out)) hb)
     have BK236 := Aside0.mk (hbox)
     have GW236 := Aside0.mk ((by rw [hg]; exact (keep_size (w := w) (g := g) (row := none) (by repeat (first | (with_reducible first | exact HK.out | apply KeepBut.set_ | apply keep_drewN | apply keep_drew | apply keep_alloc | refine keep_far ?_ GW212.out _ | refine keep_far ?_ GW219.out _) | exact HK.out))) : w.heap.size ≤ gb236))
     have GE236 := Aside0.mk ((Nat.le_trans HW0.out (by rw [hg]; exact (keep_size (w := w) (g := g) (row := none) (by repeat (first | (with_reducible first | exact HK.out | apply KeepBut.set_ | apply keep_drewN | apply keep_drew | apply keep_alloc | refine keep_far ?_ GW212.out _ | refine keep_far ?_ GW219.out _) | exact HK.out))) : w.heap.size ≤ gb236) : w0.heap.size ≤ gb236))
     replace HK := Aside0.mk (KeepBut.trans (by repeat (first | (with_reducible first | exact HK.out | apply KeepBut.set_ | apply keep_drewN | apply keep_drew | apply keep_alloc | refine keep_far ?_ GW212.out _ | refine keep_far ?_ GW219.out _) | exact HK.out)) (KeepBut.of_below hb g none) (.inl rfl))
     have NB212_236 := nl_ hg BK212
     have NB236_212 := nm_ hg BK212
     replace BK212 := bb_ BK212 hb
     have NB219_236 := nl_ hg BK219
     have NB236_219 := nm_ hg BK219
     replace BK219 := bb_ BK219 hb
     have NB0_236 := Aside0.mk ((by rw [hg]; exact Nat.ne_of_lt (IsS67.lt (show IsS67 w0 _ g s0_0 t227 t228 from by repeat (first | (with_reducible first | exact HI0.out | apply IsS67.alloc | apply IsS67.drewN | apply IsS67.drew | apply IsS67.set_1 | apply IsS67.set_2 | refine IsS67.far ?_ NB0_212.out _ | refine IsS67.far ?_ NB0_219.out _) | exact HI0.out))) : g ≠ gb236))
     have NB236_0 := Aside0.mk ((by rw [hg]; exact Nat.ne_of_gt (IsS67.lt (show IsS67 w0 _ g s0_0 t227 t228 from by repeat (first | (with_reducible first | exact HI0.out | apply IsS67.alloc | apply IsS67.drewN | apply IsS67.drew | apply IsS67.set_1 | apply IsS67.set_2 | refine IsS67.far ?_ NB0_212.out _ | refine IsS67.far ?_ NB0_219.out _) | exact HI0.out))) : gb236 ≠ g))
     replace HI0 := Aside0.mk (IsS67.below (by repeat (first | (with_reducible first | exact HI0.out | apply IsS67.alloc | apply IsS67.drewN | apply IsS67.drew | apply IsS67.set_1 | apply IsS67.set_2 | refine IsS67.far ?_ NB0_212.out _ | refine IsS67.far ?_ NB0_219.out _) | exact HI0.out)) hb)
     clear hb hbox hg
     refine hK.out _ _ ⟨bc_ BK219.out 0, bc_ BK219.out 1⟩ (fun hHeld => ?_)
     clear hK K
     refine norm_ nn_ ?_
     refine on_ 6 (some 23) (h := fun K hK => ?_)
     refine goes_ Try.func27 (by kernel_rfl) rfl #[.agg #[.slice Ao24 x220000_1.length co24, .slice Ao25 x220001_1.length co25], .int .i64 t223, .int .i64 (wrap64 (t226 - 15))] (by rfl) rfl rfl nc_ ?_
     with_reducible refine (spec_CountBy.calls k1 _ _ x220000_1 _ _ x220001_1 t223 (wrap64 (t226 - 15)) t229 t232 true _ ?side1 ?side2 ?side3 ?side4 A22.out).mono ?_
     (case side1 => exact kc_ (Kd.R_reads' HO_220000.out).2.2)
     (case side2 => exact (Kd.R_reads' HO_220000.out).2.1)
     (case side3 => exact kc_ (Kd.Q_reads' HO_220001.out).2.2)
     (case side4 => exact (Kd.Q_reads' HO_220001.out).2.1)
     rintro e w30 ⟨v230, v233, rfl, ho0, ho1, hb⟩
     refine ⟨_, rfl, ?_⟩
     have HO231 := Aside0.mk (Kd.R_lower (rnq_ (rn_ ho0 HO_220000.out) HO_220001.out) (keep_size (w := w) (g := g) (row := none) (by repeat (first | (with_reducible first | exact HK.out | apply KeepBut.set_ | apply keep_drewN | apply keep_drew | apply keep_alloc | refine keep_far ?_ GW212.out _ | refine keep_far ?_ GW219.out _ | refine keep_far ?_ GW236.out _) | exact HK.out))))
     have HO234 := Aside0.mk (Kd.R_lower (rnq_ (rn_ ho1 HO_220000.out) HO_220001.out) (keep_size (w := w) (g := g) (row := none) (by repeat (first | (with_reducible first | exact HK.out | apply KeepBut.set_ | apply keep_drewN | apply keep_drew | apply keep_alloc | refine keep_far ?_ GW212.out _ | refine keep_far ?_ GW219.out _ | refine keep_far ?_ GW236.out _) | exact HK.out))))
     replace HO_220000 := rp2_ HO_220000 hb ho0 ho1
     replace HO_220001 := qp2_ HO_220001 hb ho0 ho1
     replace BK212 := bb_ BK212 hb
     replace BK219 := bb_ BK219 hb
     replace BK236 := bb_ BK236 hb
     replace HK := Aside0.mk (KeepBut.trans (by repeat (first | (with_reducible first | exact HK.out | apply KeepBut.set_ | apply keep_drewN | apply keep_drew | apply keep_alloc | refine keep_far ?_ GW212.out _ | refine keep_far ?_ GW219.out _ | refine keep_far ?_ GW236.out _) | exact HK.out)) (KeepBut.of_below hb g none) (.inl rfl))
     replace HB := Aside0.mk (below_step (by repeat (first | (with_reducible first | exact HB.out | apply below_alloc | apply pw_below_drewN | apply below_drew1 | refine below_set ?_ (IsS67.ge HI0.out) | refine below_set ?_ GE212.out | refine below_set ?_ GE219.out | refine below_set ?_ GE236.out) | exact HB.out)) hb)
     replace HI0 := Aside0.mk (IsS67.below (by repeat (first | (with_reducible first | exact HI0.out | apply IsS67.alloc | apply IsS67.drewN | apply IsS67.drew | apply IsS67.set_1 | apply IsS67.set_2 | refine IsS67.far ?_ NB0_212.out _ | refine IsS67.far ?_ NB0_219.out _ | refine IsS67.far ?_ NB0_236.out _) | exact HI0.out)) hb)
     clear hb ho0 ho1
     refine hK.out _ _ ⟨bc_ BK219.out 0, bc_ BK219.out 1⟩ (fun hHeld => ?_)
     clear hK K
     refine norm_ nn_ ?_
     refine pu_ 7 (some 16) (h := ?_)
     refine pu_ 8 (some 24) (h := ?_)
     refine pu_ 9 (some 25) (h := ?_)
     exact norm_ (by simp only [putAll, Act.put, List.setIfInBounds_toArray, List.set_cons_zero, List.set_cons_succ]) (hCont (v230, v233, gb236) _ ⟨hHeld, kp_ HO231.out, kp_ HO234.out, kp_ HO_220000.out, (kpq_ HO_220001.out), kb_ BK212.out, kb_ BK219.out, kb_ BK236.out, GW236.out, GE236.out, NB0_236.out, NB236_0.out, NB212_236.out, NB236_212.out, NB219_236.out, NB236_219.out, (by repeat (first | (with_reducible first | exact HI0.out | apply IsS67.alloc | apply IsS67.drewN | apply IsS67.drew | apply IsS67.set_1 | apply IsS67.set_2 | refine IsS67.far ?_ NB0_212.out _ | refine IsS67.far ?_ NB0_219.out _ | refine IsS67.far ?_ NB0_236.out _) | exact HI0.out)), (by repeat (first | (with_reducible first | exact HK.out | apply KeepBut.set_ | apply keep_drewN | apply keep_drew | apply keep_alloc | refine keep_far ?_ GW212.out _ | refine keep_far ?_ GW219.out _ | refine keep_far ?_ GW236.out _) | exact HK.out)), (by repeat (first | (with_reducible first | exact HB.out | apply below_alloc | apply pw_below_drewN | apply below_drew1 | refine below_set ?_ (IsS67.ge HI0.out) | refine below_set ?_ GE212.out | refine below_set ?_ GE219.out | refine below_set ?_ GE236.out) | exact HB.out))⟩)
   ·skip
    refine box_step rfl (N := 5) rfl (cs := #[.slice none 0 0, .slice none 0 0]) (t := 27) gs_ ?_
    intro gb236 hg w28 hbox hb
    replace HO_220000 := rb_ HO_220000 hb
    replace HO_220001 := qb_ HO_220001 hb
    replace HB := Aside0.mk (below_step (by repeat (first | (with_reducible first | exact HB.out | apply below_alloc | apply pw_below_drewN | apply below_drew1 | refine below_set ?_ (IsS67.ge HI0.out) | refine below_set ?_ GE212.out | refine below_set ?_ GE219.out) | exact HB.out)) hb)
    have BK236 := Aside0.mk (hbox)
    have GW236 := Aside0.mk ((by rw [hg]; exact (keep_size (w := w) (g := g) (row := none) (by repeat (first | (with_reducible first | exact HK.out | apply KeepBut.set_ | apply keep_drewN | apply keep_drew | apply keep_alloc | refine keep_far ?_ GW212.out _ | refine keep_far ?_ GW219.out _) | exact HK.out))) : w.heap.size ≤ gb236))
    have GE236 := Aside0.mk ((Nat.le_trans HW0.out (by rw [hg]; exact (keep_size (w := w) (g := g) (row := none) (by repeat (first | (with_reducible first | exact HK.out | apply KeepBut.set_ | apply keep_drewN | apply keep_drew | apply keep_alloc | refine keep_far ?_ GW212.out _ | refine keep_far ?_ GW219.out _) | exact HK.out))) : w.heap.size ≤ gb236) : w0.heap.size ≤ gb236))
    replace HK := Aside0.mk (KeepBut.trans (by repeat (first | (with_reducible first | exact HK.out | apply KeepBut.set_ | apply keep_drewN | apply keep_drew | apply keep_alloc | refine keep_far ?_ GW212.out _ | refine keep_far ?_ GW219.out _) | exact HK.out)) (KeepBut.of_below hb g none) (.inl rfl))
    have NB212_236 := nl_ hg BK212
    have NB236_212 := nm_ hg BK212
    replace BK212 := bb_ BK212 hb
    have NB219_236 := nl_ hg BK219
    have NB236_219 := nm_ hg BK219
    replace BK219 := bb_ BK219 hb
    have NB0_236 := Aside0.mk ((by rw [hg]; exact Nat.ne_of_lt (IsS67.lt (show IsS67 w0 _ g s0_0 t224 t225 from by repeat (first | (with_reducible first | exact HI0.out | apply IsS67.alloc | apply IsS67.drewN | apply IsS67.drew | apply IsS67.set_1 | apply IsS67.set_2 | refine IsS67.far ?_ NB0_212.out _ | refine IsS67.far ?_ NB0_219.out _) | exact HI0.out))) : g ≠ gb236))
    have NB236_0 := Aside0.mk ((by rw [hg]; exact Nat.ne_of_gt (IsS67.lt (show IsS67 w0 _ g s0_0 t224 t225 from by repeat (first | (with_reducible first | exact HI0.out | apply IsS67.alloc | apply IsS67.drewN | apply IsS67.drew | apply IsS67.set_1 | apply IsS67.set_2 | refine IsS67.far ?_ NB0_212.out _ | refine IsS67.far ?_ NB0_219.out _) | exact HI0.out))) : gb236 ≠ g))
    replace HI0 := Aside0.mk (IsS67.below (by repeat (first | (with_reducible first | exact HI0.out | apply IsS67.alloc | apply IsS67.drewN | apply IsS67.drew | apply IsS67.set_1 | apply IsS67.set_2 | refine IsS67.far ?_ NB0_212.out _ | refine IsS67.far ?_ NB0_219.out _) | exact HI0.out)) hb)
    clear hb hbox hg
    refine hK.out _ _ ⟨bc_ BK219.out 0, bc_ BK219.out 1⟩ (fun hHeld => ?_)
    clear hK K
    refine norm_ nn_ ?_
    refine on_ 4 (some 21) (h := fun K hK => ?_)
    refine goes_ Try.func50 (by kernel_rfl) rfl #[.pointer (some ⟨g, 0, none⟩), .int .i64 40] (by rfl) rfl rfl nc_ ?_
    with_reducible refine (spec_l1Cur_pick.calls g s0_0 t224 t225 40 t226 t227 t228 w0 _ ?side1 ?side2 A21.out).mono ?_
    (case side1 => repeat (first | (with_reducible first | exact HI0.out | apply IsS67.alloc | apply IsS67.drewN | apply IsS67.drew | apply IsS67.set_1 | apply IsS67.set_2 | refine IsS67.far ?_ NB0_212.out _ | refine IsS67.far ?_ NB0_219.out _ | refine IsS67.far ?_ NB0_236.out _) | exact HI0.out))
    (case side2 => repeat (first | (with_reducible first | exact HB.out | apply below_alloc | apply pw_below_drewN | apply below_drew1 | refine below_set ?_ (IsS67.ge HI0.out) | refine below_set ?_ GE212.out | refine below_set ?_ GE219.out | refine below_set ?_ GE236.out) | exact HB.out))
    rintro e w29 ⟨rfl, hi, hb, hk⟩
    refine ⟨_, rfl, ?_⟩
    replace HO_220000 := Aside0.mk (Kd.R_mono (Kd.R_keep (IsS67.apart (show IsS67 w0 _ g s0_0 t224 t225 from by repeat (first | (with_reducible first | exact HI0.out | apply IsS67.alloc | apply IsS67.drewN | apply IsS67.drew | apply IsS67.set_1 | apply IsS67.set_2 | refine IsS67.far ?_ NB0_212.out _ | refine IsS67.far ?_ NB0_219.out _ | refine IsS67.far ?_ NB0_236.out _) | exact HI0.out)) (kr_ HO_220000.out) (by decide)) hk (fun _ h => h.2)) (fun _ h => h.1))
    replace HO_220001 := Aside0.mk (Kd.Q_mono (Kd.Q_keep (IsS67.apartQ (show IsS67 w0 _ g s0_0 t224 t225 from by repeat (first | (with_reducible first | exact HI0.out | apply IsS67.alloc | apply IsS67.drewN | apply IsS67.drew | apply IsS67.set_1 | apply IsS67.set_2 | refine IsS67.far ?_ NB0_212.out _ | refine IsS67.far ?_ NB0_219.out _ | refine IsS67.far ?_ NB0_236.out _) | exact HI0.out)) (kq_ HO_220001.out) (by decide)) hk (fun _ h => h.2)) (fun _ h => h.1))
    replace BK212 := Aside0.mk (KeepBut.blk hk (g' := gb212) (o := .cells #[.slice none 0 0, .slice none 0 0] 27 (0, 0)) (kb_ BK212.out) NB212_0.out (by simp))
    replace BK219 := Aside0.mk (KeepBut.blk hk (g' := gb219) (o := .cells #[.slice Ao24 x220000_1.length co24, .slice Ao25 x220001_1.length co25] 27 (0, 0)) (kb_ BK219.out) NB219_0.out (by simp))
    replace BK236 := Aside0.mk (KeepBut.blk hk (g' := gb236) (o := .cells #[.slice none 0 0, .slice none 0 0] 27 (0, 0)) (kb_ BK236.out) NB236_0.out (by simp))
    replace HK := Aside0.mk (KeepBut.trans (by repeat (first | (with_reducible first | exact HK.out | apply KeepBut.set_ | apply keep_drewN | apply keep_drew | apply keep_alloc | refine keep_far ?_ GW212.out _ | refine keep_far ?_ GW219.out _ | refine keep_far ?_ GW236.out _) | exact HK.out)) hk (.inl rfl))
    replace HB := Aside0.mk (hb)
    replace HI0 := Aside0.mk (hi)
    clear hb hk hi
    refine hK.out _ _ ⟨bc_ BK219.out 0, bc_ BK219.out 1⟩ (fun hHeld => ?_)
    clear hK K
    refine norm_ nn_ ?_
    refine pu_ 5 (some 22) (h := ?_)
    refine on_ 6 (some 23) (h := fun K hK => ?_)
    refine goes_ Try.func27 (by kernel_rfl) rfl #[.agg #[.slice Ao24 x220000_1.length co24, .slice Ao25 x220001_1.length co25], .int .i64 t223, .int .i64 (wrap64 (t226 - 15))] (by rfl) rfl rfl nc_ ?_
    with_reducible refine (spec_CountBy.calls k1 _ _ x220000_1 _ _ x220001_1 t223 (wrap64 (t226 - 15)) t229 t232 true _ ?side1 ?side2 ?side3 ?side4 A22.out).mono ?_
    (case side1 => exact kc_ (Kd.R_reads' HO_220000.out).2.2)
    (case side2 => exact (Kd.R_reads' HO_220000.out).2.1)
    (case side3 => exact kc_ (Kd.Q_reads' HO_220001.out).2.2)
    (case side4 => exact (Kd.Q_reads' HO_220001.out).2.1)
    rintro e w30 ⟨v230, v233, rfl, ho0, ho1, hb⟩
    refine ⟨_, rfl, ?_⟩
    have HO231 := Aside0.mk (Kd.R_lower (rnq_ (rn_ ho0 HO_220000.out) HO_220001.out) (keep_size (w := w) (g := g) (row := none) (by repeat (first | (with_reducible first | exact HK.out | apply KeepBut.set_ | apply keep_drewN | apply keep_drew | apply keep_alloc | refine keep_far ?_ GW212.out _ | refine keep_far ?_ GW219.out _ | refine keep_far ?_ GW236.out _) | exact HK.out))))
    have HO234 := Aside0.mk (Kd.R_lower (rnq_ (rn_ ho1 HO_220000.out) HO_220001.out) (keep_size (w := w) (g := g) (row := none) (by repeat (first | (with_reducible first | exact HK.out | apply KeepBut.set_ | apply keep_drewN | apply keep_drew | apply keep_alloc | refine keep_far ?_ GW212.out _ | refine keep_far ?_ GW219.out _ | refine keep_far ?_ GW236.out _) | exact HK.out))))
    replace HO_220000 := rp2_ HO_220000 hb ho0 ho1
    replace HO_220001 := qp2_ HO_220001 hb ho0 ho1
    replace BK212 := bb_ BK212 hb
    replace BK219 := bb_ BK219 hb
    replace BK236 := bb_ BK236 hb
    replace HK := Aside0.mk (KeepBut.trans (by repeat (first | (with_reducible first | exact HK.out | apply KeepBut.set_ | apply keep_drewN | apply keep_drew | apply keep_alloc | refine keep_far ?_ GW212.out _ | refine keep_far ?_ GW219.out _ | refine keep_far ?_ GW236.out _) | exact HK.out)) (KeepBut.of_below hb g none) (.inl rfl))
    replace HB := Aside0.mk (below_step (by repeat (first | (with_reducible first | exact HB.out | apply below_alloc | apply pw_below_drewN | apply below_drew1 | refine below_set ?_ (IsS67.ge HI0.out) | refine below_set ?_ GE212.out | refine below_set ?_ GE219.out | refine below_set ?_ GE236.out) | exact HB.out)) hb)
    replace HI0 := Aside0.mk (IsS67.below (by repeat (first | (with_reducible first | exact HI0.out | apply IsS67.alloc | apply IsS67.drewN | apply IsS67.drew | apply IsS67.set_1 | apply IsS67.set_2 | refine IsS67.far ?_ NB0_212.out _ | refine IsS67.far ?_ NB0_219.out _ | refine IsS67.far ?_ NB0_236.out _) | exact HI0.out)) hb)
    clear hb ho0 ho1
    refine hK.out _ _ ⟨bc_ BK219.out 0, bc_ BK219.out 1⟩ (fun hHeld => ?_)
    clear hK K
    refine norm_ nn_ ?_
    refine pu_ 7 (some 16) (h := ?_)
    refine pu_ 8 (some 24) (h := ?_)
    refine pu_ 9 (some 25) (h := ?_)
    exact norm_ (by simp only [putAll, Act.put, List.setIfInBounds_toArray, List.set_cons_zero, List.set_cons_succ]) (hCont (v230, v233, gb236) _ ⟨hHeld, kp_ HO231.out, kp_ HO234.out, kp_ HO_220000.out, (kpq_ HO_220001.out), kb_ BK212.out, kb_ BK219.out, kb_ BK236.out, GW236.out, GE236.out, NB0_236.out, NB236_0.out, NB212_236.out, NB236_212.out, NB219_236.out, NB236_219.out, (by repeat (first | (with_reducible first | exact HI0.out | apply IsS67.alloc | apply IsS67.drewN | apply IsS67.drew | apply IsS67.set_1 | apply IsS67.set_2 | refine IsS67.far ?_ NB0_212.out _ | refine IsS67.far ?_ NB0_219.out _ | refine IsS67.far ?_ NB0_236.out _) | exact HI0.out)), (by repeat (first | (with_reducible first | exact HK.out | apply KeepBut.set_ | apply keep_drewN | apply keep_drew | apply keep_alloc | refine keep_far ?_ GW212.out _ | refine keep_far ?_ GW219.out _ | refine keep_far ?_ GW236.out _) | exact HK.out)), (by repeat (first | (with_reducible first | exact HB.out | apply below_alloc | apply pw_below_drewN | apply below_drew1 | refine below_set ?_ (IsS67.ge HI0.out) | refine below_set ?_ GE212.out | refine below_set ?_ GE219.out | refine below_set ?_ GE236.out) | exact HB.out))⟩)
  ·skip
   refine box_step rfl (N := 5) rfl (cs := #[.slice none 0 0, .slice none 0 0]) (t := 27) gs_ ?_
   intro gb236 hg w27 hbox hb
   replace HO_220000 := rb_ HO_220000 hb
   replace HO_220001 := qb_ HO_220001 hb
   replace HB := Aside0.mk (below_step (by repeat (first | (with_reducible first | exact HB.out | apply below_alloc | apply pw_below_drewN | apply below_drew1 | refine below_set ?_ (IsS67.ge HI0.out) | refine below_set ?_ GE212.out | refine below_set ?_ GE219.out) | exact HB.out)) hb)
   have BK236 := Aside0.mk (hbox)
   have GW236 := Aside0.mk ((by rw [hg]; exact (keep_size (w := w) (g := g) (row := none) (by repeat (first | (with_reducible first | exact HK.out | apply KeepBut.set_ | apply keep_drewN | apply keep_drew | apply keep_alloc | refine keep_far ?_ GW212.out _ | refine keep_far ?_ GW219.out _) | exact HK.out))) : w.heap.size ≤ gb236))
   have GE236 := Aside0.mk ((Nat.le_trans HW0.out (by rw [hg]; exact (keep_size (w := w) (g := g) (row := none) (by repeat (first | (with_reducible first | exact HK.out | apply KeepBut.set_ | apply keep_drewN | apply keep_drew | apply keep_alloc | refine keep_far ?_ GW212.out _ | refine keep_far ?_ GW219.out _) | exact HK.out))) : w.heap.size ≤ gb236) : w0.heap.size ≤ gb236))
   replace HK := Aside0.mk (KeepBut.trans (by repeat (first | (with_reducible first | exact HK.out | apply KeepBut.set_ | apply keep_drewN | apply keep_drew | apply keep_alloc | refine keep_far ?_ GW212.out _ | refine keep_far ?_ GW219.out _) | exact HK.out)) (KeepBut.of_below hb g none) (.inl rfl))
   have NB212_236 := nl_ hg BK212
   have NB236_212 := nm_ hg BK212
   replace BK212 := bb_ BK212 hb
   have NB219_236 := nl_ hg BK219
   have NB236_219 := nm_ hg BK219
   replace BK219 := bb_ BK219 hb
   have NB0_236 := Aside0.mk ((by rw [hg]; exact Nat.ne_of_lt (IsS67.lt (show IsS67 w0 _ g s0_0 x1001_1 x1002_1 from by repeat (first | (with_reducible first | exact HI0.out | apply IsS67.alloc | apply IsS67.drewN | apply IsS67.drew | apply IsS67.set_1 | apply IsS67.set_2 | refine IsS67.far ?_ NB0_212.out _ | refine IsS67.far ?_ NB0_219.out _) | exact HI0.out))) : g ≠ gb236))
   have NB236_0 := Aside0.mk ((by rw [hg]; exact Nat.ne_of_gt (IsS67.lt (show IsS67 w0 _ g s0_0 x1001_1 x1002_1 from by repeat (first | (with_reducible first | exact HI0.out | apply IsS67.alloc | apply IsS67.drewN | apply IsS67.drew | apply IsS67.set_1 | apply IsS67.set_2 | refine IsS67.far ?_ NB0_212.out _ | refine IsS67.far ?_ NB0_219.out _) | exact HI0.out))) : gb236 ≠ g))
   replace HI0 := Aside0.mk (IsS67.below (by repeat (first | (with_reducible first | exact HI0.out | apply IsS67.alloc | apply IsS67.drewN | apply IsS67.drew | apply IsS67.set_1 | apply IsS67.set_2 | refine IsS67.far ?_ NB0_212.out _ | refine IsS67.far ?_ NB0_219.out _) | exact HI0.out)) hb)
   clear hb hbox hg
   refine hK.out _ _ ⟨bc_ BK219.out 0, bc_ BK219.out 1⟩ (fun hHeld => ?_)
   clear hK K
   refine norm_ nn_ ?_
   refine on_ 2 (some 19) (h := fun K hK => ?_)
   refine goes_ Try.func50 (by kernel_rfl) rfl #[.pointer (some ⟨g, 0, none⟩), .int .i64 6] (by rfl) rfl rfl nc_ ?_
   with_reducible refine (spec_l1Cur_pick.calls g s0_0 x1001_1 x1002_1 6 t223 t224 t225 w0 _ ?side1 ?side2 A20.out).mono ?_
   (case side1 => repeat (first | (with_reducible first | exact HI0.out | apply IsS67.alloc | apply IsS67.drewN | apply IsS67.drew | apply IsS67.set_1 | apply IsS67.set_2 | refine IsS67.far ?_ NB0_212.out _ | refine IsS67.far ?_ NB0_219.out _ | refine IsS67.far ?_ NB0_236.out _) | exact HI0.out))
   (case side2 => repeat (first | (with_reducible first | exact HB.out | apply below_alloc | apply pw_below_drewN | apply below_drew1 | refine below_set ?_ (IsS67.ge HI0.out) | refine below_set ?_ GE212.out | refine below_set ?_ GE219.out | refine below_set ?_ GE236.out) | exact HB.out))
   rintro e w28 ⟨rfl, hi, hb, hk⟩
   refine ⟨_, rfl, ?_⟩
   replace HO_220000 := Aside0.mk (Kd.R_mono (Kd.R_keep (IsS67.apart (show IsS67 w0 _ g s0_0 x1001_1 x1002_1 from by repeat (first | (with_reducible first | exact HI0.out | apply IsS67.alloc | apply IsS67.drewN | apply IsS67.drew | apply IsS67.set_1 | apply IsS67.set_2 | refine IsS67.far ?_ NB0_212.out _ | refine IsS67.far ?_ NB0_219.out _ | refine IsS67.far ?_ NB0_236.out _) | exact HI0.out)) (kr_ HO_220000.out) (by decide)) hk (fun _ h => h.2)) (fun _ h => h.1))
   replace HO_220001 := Aside0.mk (Kd.Q_mono (Kd.Q_keep (IsS67.apartQ (show IsS67 w0 _ g s0_0 x1001_1 x1002_1 from by repeat (first | (with_reducible first | exact HI0.out | apply IsS67.alloc | apply IsS67.drewN | apply IsS67.drew | apply IsS67.set_1 | apply IsS67.set_2 | refine IsS67.far ?_ NB0_212.out _ | refine IsS67.far ?_ NB0_219.out _ | refine IsS67.far ?_ NB0_236.out _) | exact HI0.out)) (kq_ HO_220001.out) (by decide)) hk (fun _ h => h.2)) (fun _ h => h.1))
   replace BK212 := Aside0.mk (KeepBut.blk hk (g' := gb212) (o := .cells #[.slice none 0 0, .slice none 0 0] 27 (0, 0)) (kb_ BK212.out) NB212_0.out (by simp))
   replace BK219 := Aside0.mk (KeepBut.blk hk (g' := gb219) (o := .cells #[.slice Ao24 x220000_1.length co24, .slice Ao25 x220001_1.length co25] 27 (0, 0)) (kb_ BK219.out) NB219_0.out (by simp))
   replace BK236 := Aside0.mk (KeepBut.blk hk (g' := gb236) (o := .cells #[.slice none 0 0, .slice none 0 0] 27 (0, 0)) (kb_ BK236.out) NB236_0.out (by simp))
   replace HK := Aside0.mk (KeepBut.trans (by repeat (first | (with_reducible first | exact HK.out | apply KeepBut.set_ | apply keep_drewN | apply keep_drew | apply keep_alloc | refine keep_far ?_ GW212.out _ | refine keep_far ?_ GW219.out _ | refine keep_far ?_ GW236.out _) | exact HK.out)) hk (.inl rfl))
   replace HB := Aside0.mk (hb)
   replace HI0 := Aside0.mk (hi)
   clear hb hk hi
   refine hK.out _ _ ⟨bc_ BK219.out 0, bc_ BK219.out 1⟩ (fun hHeld => ?_)
   clear hK K
   refine norm_ nn_ ?_
   refine on_ 4 (some 21) (h := fun K hK => ?_)
   refine goes_ Try.func50 (by kernel_rfl) rfl #[.pointer (some ⟨g, 0, none⟩), .int .i64 40] (by rfl) rfl rfl nc_ ?_
   with_reducible refine (spec_l1Cur_pick.calls g s0_0 t224 t225 40 t226 t227 t228 w0 _ ?side1 ?side2 A21.out).mono ?_
   (case side1 => repeat (first | (with_reducible first | exact HI0.out | apply IsS67.alloc | apply IsS67.drewN | apply IsS67.drew | apply IsS67.set_1 | apply IsS67.set_2 | refine IsS67.far ?_ NB0_212.out _ | refine IsS67.far ?_ NB0_219.out _ | refine IsS67.far ?_ NB0_236.out _) | exact HI0.out))
   (case side2 => repeat (first | (with_reducible first | exact HB.out | apply below_alloc | apply pw_below_drewN | apply below_drew1 | refine below_set ?_ (IsS67.ge HI0.out) | refine below_set ?_ GE212.out | refine below_set ?_ GE219.out | refine below_set ?_ GE236.out) | exact HB.out))
   rintro e w29 ⟨rfl, hi, hb, hk⟩
   refine ⟨_, rfl, ?_⟩
   replace HO_220000 := Aside0.mk (Kd.R_mono (Kd.R_keep (IsS67.apart (show IsS67 w0 _ g s0_0 t224 t225 from by repeat (first | (with_reducible first | exact HI0.out | apply IsS67.alloc | apply IsS67.drewN | apply IsS67.drew | apply IsS67.set_1 | apply IsS67.set_2 | refine IsS67.far ?_ NB0_212.out _ | refine IsS67.far ?_ NB0_219.out _ | refine IsS67.far ?_ NB0_236.out _) | exact HI0.out)) (kr_ HO_220000.out) (by decide)) hk (fun _ h => h.2)) (fun _ h => h.1))
   replace HO_220001 := Aside0.mk (Kd.Q_mono (Kd.Q_keep (IsS67.apartQ (show IsS67 w0 _ g s0_0 t224 t225 from by repeat (first | (with_reducible first | exact HI0.out | apply IsS67.alloc | apply IsS67.drewN | apply IsS67.drew | apply IsS67.set_1 | apply IsS67.set_2 | refine IsS67.far ?_ NB0_212.out _ | refine IsS67.far ?_ NB0_219.out _ | refine IsS67.far ?_ NB0_236.out _) | exact HI0.out)) (kq_ HO_220001.out) (by decide)) hk (fun _ h => h.2)) (fun _ h => h.1))
   replace BK212 := Aside0.mk (KeepBut.blk hk (g' := gb212) (o := .cells #[.slice none 0 0, .slice none 0 0] 27 (0, 0)) (kb_ BK212.out) NB212_0.out (by simp))
   replace BK219 := Aside0.mk (KeepBut.blk hk (g' := gb219) (o := .cells #[.slice Ao24 x220000_1.length co24, .slice Ao25 x220001_1.length co25] 27 (0, 0)) (kb_ BK219.out) NB219_0.out (by simp))
   replace BK236 := Aside0.mk (KeepBut.blk hk (g' := gb236) (o := .cells #[.slice none 0 0, .slice none 0 0] 27 (0, 0)) (kb_ BK236.out) NB236_0.out (by simp))
   replace HK := Aside0.mk (KeepBut.trans (by repeat (first | (with_reducible first | exact HK.out | apply KeepBut.set_ | apply keep_drewN | apply keep_drew | apply keep_alloc | refine keep_far ?_ GW212.out _ | refine keep_far ?_ GW219.out _ | refine keep_far ?_ GW236.out _) | exact HK.out)) hk (.inl rfl))
   replace HB := Aside0.mk (hb)
   replace HI0 := Aside0.mk (hi)
   clear hb hk hi
   refine hK.out _ _ ⟨bc_ BK219.out 0, bc_ BK219.out 1⟩ (fun hHeld => ?_)
   clear hK K
   refine norm_ nn_ ?_
   refine pu_ 5 (some 22) (h := ?_)
   refine on_ 6 (some 23) (h := fun K hK => ?_)
   refine goes_ Try.func27 (by kernel_rfl) rfl #[.agg #[.slice Ao24 x220000_1.length co24, .slice Ao25 x220001_1.length co25], .int .i64 t223, .int .i64 (wrap64 (t226 - 15))] (by rfl) rfl rfl nc_ ?_
   with_reducible refine (spec_CountBy.calls k1 _ _ x220000_1 _ _ x220001_1 t223 (wrap64 (t226 - 15)) t229 t232 true _ ?side1 ?side2 ?side3 ?side4 A22.out).mono ?_
   (case side1 => exact kc_ (Kd.R_reads' HO_220000.out).2.2)
   (case side2 => exact (Kd.R_reads' HO_220000.out).2.1)
   (case side3 => exact kc_ (Kd.Q_reads' HO_220001.out).2.2)
   (case side4 => exact (Kd.Q_reads' HO_220001.out).2.1)
   rintro e w30 ⟨v230, v233, rfl, ho0, ho1, hb⟩
   refine ⟨_, rfl, ?_⟩
   have HO231 := Aside0.mk (Kd.R_lower (rnq_ (rn_ ho0 HO_220000.out) HO_220001.out) (keep_size (w := w) (g := g) (row := none) (by repeat (first | (with_reducible first | exact HK.out | apply KeepBut.set_ | apply keep_drewN | apply keep_drew | apply keep_alloc | refine keep_far ?_ GW212.out _ | refine keep_far ?_ GW219.out _ | refine keep_far ?_ GW236.out _) | exact HK.out))))
   have HO234 := Aside0.mk (Kd.R_lower (rnq_ (rn_ ho1 HO_220000.out) HO_220001.out) (keep_size (w := w) (g := g) (row := none) (by repeat (first | (with_reducible first | exact HK.out | apply KeepBut.set_ | apply keep_drewN | apply keep_drew | apply keep_alloc | refine keep_far ?_ GW212.out _ | refine keep_far ?_ GW219.out _ | refine keep_far ?_ GW236.out _) | exact HK.out))))
   replace HO_220000 := rp2_ HO_220000 hb ho0 ho1
   replace HO_220001 := qp2_ HO_220001 hb ho0 ho1
   replace BK212 := bb_ BK212 hb
   replace BK219 := bb_ BK219 hb
   replace BK236 := bb_ BK236 hb
   replace HK := Aside0.mk (KeepBut.trans (by repeat (first | (with_reducible first | exact HK.out | apply KeepBut.set_ | apply keep_drewN | apply keep_drew | apply keep_alloc | refine keep_far ?_ GW212.out _ | refine keep_far ?_ GW219.out _ | refine keep_far ?_ GW236.out _) | exact HK.out)) (KeepBut.of_below hb g none) (.inl rfl))
   replace HB := Aside0.mk (below_step (by repeat (first | (with_reducible first | exact HB.out | apply below_alloc | apply pw_below_drewN | apply below_drew1 | refine below_set ?_ (IsS67.ge HI0.out) | refine below_set ?_ GE212.out | refine below_set ?_ GE219.out | refine below_set ?_ GE236.out) | exact HB.out)) hb)
   replace HI0 := Aside0.mk (IsS67.below (by repeat (first | (with_reducible first | exact HI0.out | apply IsS67.alloc | apply IsS67.drewN | apply IsS67.drew | apply IsS67.set_1 | apply IsS67.set_2 | refine IsS67.far ?_ NB0_212.out _ | refine IsS67.far ?_ NB0_219.out _ | refine IsS67.far ?_ NB0_236.out _) | exact HI0.out)) hb)
   clear hb ho0 ho1
   refine hK.out _ _ ⟨bc_ BK219.out 0, bc_ BK219.out 1⟩ (fun hHeld => ?_)
   clear hK K
   refine norm_ nn_ ?_
   refine pu_ 7 (some 16) (h := ?_)
   refine pu_ 8 (some 24) (h := ?_)
   refine pu_ 9 (some 25) (h := ?_)
   exact norm_ (by simp only [putAll, Act.put, List.setIfInBounds_toArray, List.set_cons_zero, List.set_cons_succ]) (hCont (v230, v233, gb236) _ ⟨hHeld, kp_ HO231.out, kp_ HO234.out, kp_ HO_220000.out, (kpq_ HO_220001.out), kb_ BK212.out, kb_ BK219.out, kb_ BK236.out, GW236.out, GE236.out, NB0_236.out, NB236_0.out, NB212_236.out, NB236_212.out, NB219_236.out, NB236_219.out, (by repeat (first | (with_reducible first | exact HI0.out | apply IsS67.alloc | apply IsS67.drewN | apply IsS67.drew | apply IsS67.set_1 | apply IsS67.set_2 | refine IsS67.far ?_ NB0_212.out _ | refine IsS67.far ?_ NB0_219.out _ | refine IsS67.far ?_ NB0_236.out _) | exact HI0.out)), (by repeat (first | (with_reducible first | exact HK.out | apply KeepBut.set_ | apply keep_drewN | apply keep_drew | apply keep_alloc | refine keep_far ?_ GW212.out _ | refine keep_far ?_ GW219.out _ | refine keep_far ?_ GW236.out _) | exact HK.out)), (by repeat (first | (with_reducible first | exact HB.out | apply below_alloc | apply pw_below_drewN | apply below_drew1 | refine below_set ?_ (IsS67.ge HI0.out) | refine below_set ?_ GE212.out | refine below_set ?_ GE219.out | refine below_set ?_ GE236.out) | exact HB.out))⟩)
 rintro ⟨v230, v233, gb236⟩ w31 ⟨hS_, h0_, h1_, h2_, h3_, h4_, h5_, h6_, h7_, h8_, h9_, h10_, h11_, h12_, h13_, h14_, h15_, h16_, h17_⟩
 dsimp only at h0_ h1_ h2_ h3_ h4_ h5_ h6_ h7_ h8_ h9_ h10_ h11_ h12_ h13_ h14_ h15_ h16_ h17_
 have HO231 := Aside0.mk h0_
 have HO234 := Aside0.mk h1_
 replace HO_220000 := Aside0.mk h2_
 replace HO_220001 := Aside0.mk h3_
 replace BK212 := Aside0.mk h4_
 replace BK219 := Aside0.mk h5_
 have BK236 := Aside0.mk h6_
 have GW236 := Aside0.mk h7_
 have GE236 := Aside0.mk h8_
 have NB0_236 := Aside0.mk h9_
 have NB236_0 := Aside0.mk h10_
 have NB212_236 := Aside0.mk h11_
 have NB236_212 := Aside0.mk h12_
 have NB219_236 := Aside0.mk h13_
 have NB236_219 := Aside0.mk h14_
 replace HI0 := Aside0.mk h15_
 replace HK := Aside0.mk h16_
 replace HB := Aside0.mk h17_
 clear h0_ h1_ h2_ h3_ h4_ h5_ h6_ h7_ h8_ h9_ h10_ h11_ h12_ h13_ h14_ h15_ h16_ h17_
 try dsimp only at hS_
 have hHeld := hS_
 obtain ⟨Ao32, co32, eo32⟩ := Kd.R_slice HO231.out
 (first | subst eo32 | (injection eo32 with f1_ f2_ f3_; have f4_ := f1_.symm; have f5_ := f3_.symm; clear f1_ f2_ f3_; subst f4_; subst f5_))
 obtain ⟨Ao34, co34, eo34⟩ := Kd.R_slice HO234.out
 (first | subst eo34 | (injection eo34 with f1_ f2_ f3_; have f4_ := f1_.symm; have f5_ := f3_.symm; clear f1_ f2_ f3_; subst f4_; subst f5_))
 refine norm_ np_ ?_
 refine on_ 11 none (h := fun K hK => ?_)
 have hs33 : w31.cell? ⟨gb236, 0, none⟩ = some (.slice none 0 0) := bc_ BK236.out 0
 have hfs33 := blk_frozen BK236.out 0
 have hns33_0 := NB212_236.out
 have hns33_1 := NB219_236.out
 have hms33_0 := NB236_212.out
 have hms33_1 := NB236_219.out
 have hs35 : w31.cell? ⟨gb236, 1, none⟩ = some (.slice none 0 0) := bc_ BK236.out 1
 have hfs35 := blk_frozen BK236.out 1
 have hns35_0 := NB212_236.out
 have hns35_1 := NB219_236.out
 have hms35_0 := NB236_212.out
 have hms35_1 := NB236_219.out
 refine skip_ (w1 := ?_) (by rfl) rfl ?_ ?_
 rotate_left
 ·go_simp
  rfl
 refine hK.out _ _ ⟨((cell_far (p := ⟨gb236, _, none⟩) NB219_236.out _).trans (((cell_far (p := ⟨gb236, _, none⟩) NB219_236.out _).trans (hHeld.1)))), ((cell_far (p := ⟨gb236, _, none⟩) NB219_236.out _).trans (((cell_far (p := ⟨gb236, _, none⟩) NB219_236.out _).trans (hHeld.2))))⟩ (fun hHeld => ?_)
 clear hK K
 refine pu_ 12 (some 6) (h := ?_)
 refine done_ (done_of HT_.out (by kernel_rfl)) ?_
 have hnb36 := NB236_212.out
 have hnc36 := NB212_236.out
 have hnb37 := NB236_219.out
 have hnc37 := NB219_236.out
 have hnb38 := NB236_0.out
 have hnc38 := NB0_236.out
 have hcz39_0 : w31.cell? ⟨gb236, 0, none⟩ = some (.slice none 0 0) := bc_ BK236.out 0
 have hcz39_1 : w31.cell? ⟨gb236, 1, none⟩ = some (.slice none 0 0) := bc_ BK236.out 1
 have hfz39_0 := blk_frozen BK236.out 0
 have hfz39_1 := blk_frozen BK236.out 1
 have hnb40 := NB219_212.out
 have hnc40 := NB212_219.out
 have hnb41 := NB219_0.out
 have hnc41 := NB0_219.out
 have hcz42_0 : w31.cell? ⟨gb219, 0, none⟩ = some (.slice Ao24 x220000_1.length co24) := bc_ BK219.out 0
 have hcz42_1 : w31.cell? ⟨gb219, 1, none⟩ = some (.slice Ao25 x220001_1.length co25) := bc_ BK219.out 1
 have hfz42_0 := blk_frozen BK219.out 0
 have hfz42_1 := blk_frozen BK219.out 1
 try go_wp2
 go_roundg k1
 case measure => have := HK1.out; omega
 case rel => exact ⟨(wrap64 (x4_1 - 1)), (t227), (t228), (t229), (t232), (.slice Ao32 t229.length co32), (.slice Ao34 t232.length co34), (by first | rfl | (simp; done) | (simp [*]; done)), H', ⟨by have := HK1.out; omega⟩, ⟨by exact kr_ (Kd.R_mono (Kd.R_far (p := ⟨gb219, 1, none⟩) (Kd.R_far (p := ⟨gb219, 0, none⟩) (Kd.R_far (p := ⟨gb236, 1, none⟩) (Kd.R_far (p := ⟨gb236, 0, none⟩) (Kd.R_types (Kd.R_types HO231.out BK236.out (by decide)) BK219.out (by decide)) (fun _ hk => hk.1.2) (.slice Ao32 t229.length co32)) (fun _ hk => hk.1.2) (.slice Ao34 t232.length co34)) (fun _ hk => hk.2) (.slice Ao32 t229.length co32)) (fun _ hk => hk.2) (.slice Ao34 t232.length co34)) (fun _ hk => hk.1.1.1))⟩, ⟨Kd.Q_of_R (by exact kr_ (Kd.R_mono (Kd.R_far (p := ⟨gb219, 1, none⟩) (Kd.R_far (p := ⟨gb219, 0, none⟩) (Kd.R_far (p := ⟨gb236, 1, none⟩) (Kd.R_far (p := ⟨gb236, 0, none⟩) (Kd.R_types (Kd.R_types HO234.out BK236.out (by decide)) BK219.out (by decide)) (fun _ hk => hk.1.2) (.slice Ao32 t229.length co32)) (fun _ hk => hk.1.2) (.slice Ao34 t232.length co34)) (fun _ hk => hk.2) (.slice Ao32 t229.length co32)) (fun _ hk => hk.2) (.slice Ao34 t232.length co34)) (fun _ hk => hk.1.1.1)))⟩, ⟨kz_⟩, ⟨by (with_reducible repeat (first | refine blk_drewN ?_ _ | refine blk_drew ?_ | refine blk_alloc ?_ _)); refine blk_put (cs := #[.slice Ao32 t229.length co32, .slice Ao25 x220001_1.length co25]) ?_ 1 _ rfl; (with_reducible repeat (first | refine blk_drewN ?_ _ | refine blk_drew ?_ | refine blk_alloc ?_ _)); refine blk_put (cs := #[.slice Ao24 x220000_1.length co24, .slice Ao25 x220001_1.length co25]) ?_ 0 _ rfl; (with_reducible repeat (first | refine blk_drewN ?_ _ | refine blk_drew ?_ | refine blk_alloc ?_ _)); refine blk_far ?_ NB219_236.out _; (with_reducible repeat (first | refine blk_drewN ?_ _ | refine blk_drew ?_ | refine blk_alloc ?_ _)); refine blk_far ?_ NB219_236.out _; exact kb_ BK219.out⟩, ⟨by repeat (first | (with_reducible first | exact HI0.out | apply IsS67.alloc | apply IsS67.drewN | apply IsS67.drew | apply IsS67.set_1 | apply IsS67.set_2 | refine IsS67.far ?_ NB0_212.out _ | refine IsS67.far ?_ NB0_219.out _ | refine IsS67.far ?_ NB0_236.out _) | exact HI0.out)⟩, ⟨by repeat (first | (with_reducible first | exact HK.out | apply KeepBut.set_ | apply keep_drewN | apply keep_drew | apply keep_alloc | refine keep_far ?_ GW212.out _ | refine keep_far ?_ GW219.out _ | refine keep_far ?_ GW236.out _) | exact HK.out)⟩, ⟨by repeat (first | (with_reducible first | exact HB.out | apply below_alloc | apply pw_below_drewN | apply below_drew1 | refine below_set ?_ (IsS67.ge HI0.out) | refine below_set ?_ GE212.out | refine below_set ?_ GE219.out | refine below_set ?_ GE236.out) | exact HB.out)⟩⟩

end Go.Proofs.Ytcloilddgimamaa.PFC
