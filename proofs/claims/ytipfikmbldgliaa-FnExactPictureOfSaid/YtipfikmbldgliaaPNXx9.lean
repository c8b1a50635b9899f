/- What this text proves: the machine calls of these functions return what the plain functions say. Conditions: as each theorem says. Printed by a program of this session out of the translation. -/
import Derived.Test.YtipfikmbldgliaaPNXx0
import Derived.Test.YtipfikmbldgliaaPNXx6
import Derived.Test.YtipfikmbldgliaaPNXx7
import Derived.Test.YtipfikmbldgliaaPNXx8
namespace Go.Proofs.Ytipfikmbldgliaa.PNX
open Go.RowKit Go.Proofs.YtipfikmbldgliaaW.PrintWords Go.Proofs.YtipfikmbldgliaaW.PrintLast Go.Proofs.YtipfikmbldgliaaW.PrintMore
attribute [local go_sem] max2_int min2_int max_two min_two max_three min_three max_four min_four   -- for this text's walks alone
set_option linter.unusedVariables false
set_option linter.unusedSimpArgs false

/-! ### impl_isNet: function 76 -/
mutual
def impl_isNet.l0 : Nat → List Int → List (S92) → Int → Int → List (S92) → List (S95) → Option (Bool)
 | 0, _, _, _, _, _, _ => none
 | k + 1, x3, x12, x13, x14, x230000, x230001 => if x14 < x13 then (if 0 ≤ x14 then (if x14 < (x12.length : Int) then ((impl_in.f ((rd_T92 x12 x14).f2) 0 1000000).bind fun t235 => (if t235 = true then (if ((rd_T92 x12 x14).f1 = true) then (impl_isNet.j1 k x3 x12 x13 x14 false x230000 x230001 ((rd_T92 x12 x14).f0) ((rd_T92 x12 x14).f1) ((rd_T92 x12 x14).f2)) else (impl_isNet.j1 k x3 x12 x13 x14 (((rd_T92 x12 x14).f2) != 0) x230000 x230001 ((rd_T92 x12 x14).f0) ((rd_T92 x12 x14).f1) ((rd_T92 x12 x14).f2))) else (impl_isNet.j1 k x3 x12 x13 x14 true x230000 x230001 ((rd_T92 x12 x14).f0) ((rd_T92 x12 x14).f1) ((rd_T92 x12 x14).f2)))) else (none)) else (none)) else ((impl_newNet.f k x3).bind fun bt239 => (if bt239.2.2 = true then (impl_isNet.j2 k ((x230001.length : Int) != (bt239.2.1.length : Int)) x230000 x230001 bt239.1 bt239.2.1) else (impl_isNet.j2 k true x230000 x230001 bt239.1 bt239.2.1)))
def impl_isNet.j1 : Nat → List Int → List (S92) → Int → Int → Bool → List (S92) → List (S95) → Int → Bool → Int → Option (Bool)
 | 0, _, _, _, _, _, _, _, _, _, _ => none
 | k + 1, x3, x12, x13, x14, x31, x230000, x230001, x235000, x235001, x235002 => if x31 = true then (some false) else (if x3.length < 17592186044416 then (impl_isNet.l0 k (x3 ++ [x235000]) x12 x13 (wrap64 (x14 + 1)) x230000 x230001) else (none))
def impl_isNet.j2 : Nat → Bool → List (S92) → List (S95) → List (S92) → List (S95) → Option (Bool)
 | 0, _, _, _, _, _ => none
 | k + 1, x53, x230000, x230001, x247000, x247001 => if x53 = true then (some false) else (impl_isNet.l1 k x230001 (x230001.length : Int) 0 x230000 x230001 x247000 x247001)
def impl_isNet.l1 : Nat → List (S95) → Int → Int → List (S92) → List (S95) → List (S92) → List (S95) → Option (Bool)
 | 0, _, _, _, _, _, _, _ => none
 | k + 1, x55, x56, x57, x230000, x230001, x247000, x247001 => if x57 < x56 then (if 0 ≤ x57 then (if x57 < (x55.length : Int) then (if x57 < (x247001.length : Int) then (if ((rd_T95 x55 x57).f0) = ((rd_T95 x247001 x57).f0) then (if ((rd_T95 x55 x57).f1) = ((rd_T95 x247001 x57).f1) then (if 0 ≤ ((rd_T95 x55 x57).f0) then (if ((rd_T95 x55 x57).f0) < (x230000.length : Int) then (if 0 ≤ ((rd_T95 x55 x57).f1) then (if ((rd_T95 x55 x57).f1) < (x230000.length : Int) then ((impl_isWay.f k ((rd_T95 x55 x57).f0) ((rd_T95 x55 x57).f1) ((rd_T95 x55 x57).f2) ((rd_T95 x55 x57).f3) ((rd_T95 x55 x57).f4) ((rd_T92 x230000 ((rd_T95 x55 x57).f0)).f1) ((rd_T92 x230000 ((rd_T95 x55 x57).f1)).f1)).bind fun t253 => (impl_isNet.j4 k x55 x56 x57 (!t253) x230000 x230001 x247000 x247001)) else (none)) else (none)) else (none)) else (none)) else (impl_isNet.j4 k x55 x56 x57 true x230000 x230001 x247000 x247001)) else (impl_isNet.j4 k x55 x56 x57 true x230000 x230001 x247000 x247001)) else (none)) else (none)) else (none)) else (some true)
def impl_isNet.j4 : Nat → List (S95) → Int → Int → Bool → List (S92) → List (S95) → List (S92) → List (S95) → Option (Bool)
 | 0, _, _, _, _, _, _, _, _ => none
 | k + 1, x55, x56, x57, x100, x230000, x230001, x247000, x247001 => if x100 = true then (some false) else (impl_isNet.l1 k x55 x56 (wrap64 (x57 + 1)) x230000 x230001 x247000 x247001)
end
def impl_isNet.f (k : Nat) (l0_0 : List (S92)) (l0_1 : List (S95)) : Option (Bool) := impl_isNet.l0 k (([] : List Int)) l0_0 (l0_0.length : Int) 0 l0_0 l0_1
theorem impl_isNet.mono_l : ∀ k, (∀ y0 y1 y2 y3 y4 y5, LeO (impl_isNet.l0 k y0 y1 y2 y3 y4 y5) (impl_isNet.l0 (k + 1) y0 y1 y2 y3 y4 y5)) ∧ (∀ y0 y1 y2 y3 y4 y5 y6 y7 y8 y9, LeO (impl_isNet.j1 k y0 y1 y2 y3 y4 y5 y6 y7 y8 y9) (impl_isNet.j1 (k + 1) y0 y1 y2 y3 y4 y5 y6 y7 y8 y9)) ∧ (∀ y0 y1 y2 y3 y4, LeO (impl_isNet.j2 k y0 y1 y2 y3 y4) (impl_isNet.j2 (k + 1) y0 y1 y2 y3 y4)) ∧ (∀ y0 y1 y2 y3 y4 y5 y6, LeO (impl_isNet.l1 k y0 y1 y2 y3 y4 y5 y6) (impl_isNet.l1 (k + 1) y0 y1 y2 y3 y4 y5 y6)) ∧ (∀ y0 y1 y2 y3 y4 y5 y6 y7, LeO (impl_isNet.j4 k y0 y1 y2 y3 y4 y5 y6 y7) (impl_isNet.j4 (k + 1) y0 y1 y2 y3 y4 y5 y6 y7))
 | 0 => ⟨fun _ _ _ _ _ _ r h => by simp [impl_isNet.l0] at h, fun _ _ _ _ _ _ _ _ _ _ r h => by simp [impl_isNet.j1] at h, fun _ _ _ _ _ r h => by simp [impl_isNet.j2] at h, fun _ _ _ _ _ _ _ r h => by simp [impl_isNet.l1] at h, fun _ _ _ _ _ _ _ _ r h => by simp [impl_isNet.j4] at h⟩
 | k + 1 => by
  obtain ⟨ih0, ih1, ih2, ih3, ih4⟩ := impl_isNet.mono_l k
  refine ⟨?_, ?_, ?_, ?_, ?_⟩
  ·intro y0 y1 y2 y3 y4 y5
   unfold impl_isNet.l0
   repeat' first
   | (with_reducible exact ih0 _ _ _ _ _ _)
   | (with_reducible exact ih1 _ _ _ _ _ _ _ _ _ _)
   | (with_reducible exact ih2 _ _ _ _ _)
   | (with_reducible exact ih3 _ _ _ _ _ _ _)
   | (with_reducible exact ih4 _ _ _ _ _ _ _ _)
   | (with_reducible exact impl_isWay.mono _ _ _ _ _ _ _ _)
   | (with_reducible exact impl_newNet.mono _ _)
   | (with_reducible exact LeO.refl _)
   | (with_reducible exact LeO.none _)
   | (with_reducible refine LeO.ite ?_ ?_)
   | (with_reducible refine LeO.bind ?_ (fun _ => ?_))
   | exact ih0 _ _ _ _ _ _
   | exact ih1 _ _ _ _ _ _ _ _ _ _
   | exact ih2 _ _ _ _ _
   | exact ih3 _ _ _ _ _ _ _
   | exact ih4 _ _ _ _ _ _ _ _
   | exact impl_isWay.mono _ _ _ _ _ _ _ _
   | exact impl_newNet.mono _ _
   | exact LeO.none _
   | refine LeO.ite ?_ ?_
   | refine LeO.bind ?_ (fun _ => ?_)
  ·intro y0 y1 y2 y3 y4 y5 y6 y7 y8 y9
   unfold impl_isNet.j1
   repeat' first
   | (with_reducible exact ih0 _ _ _ _ _ _)
   | (with_reducible exact ih1 _ _ _ _ _ _ _ _ _ _)
   | (with_reducible exact ih2 _ _ _ _ _)
   | (with_reducible exact ih3 _ _ _ _ _ _ _)
   | (with_reducible exact ih4 _ _ _ _ _ _ _ _)
   | (with_reducible exact impl_isWay.mono _ _ _ _ _ _ _ _)
   | (with_reducible exact impl_newNet.mono _ _)
   | (with_reducible exact LeO.refl _)
   | (with_reducible exact LeO.none _)
   | (with_reducible refine LeO.ite ?_ ?_)
   | (with_reducible refine LeO.bind ?_ (fun _ => ?_))
   | exact ih0 _ _ _ _ _ _
   | exact ih1 _ _ _ _ _ _ _ _ _ _
   | exact ih2 _ _ _ _ _
   | exact ih3 _ _ _ _ _ _ _
   | exact ih4 _ _ _ _ _ _ _ _
   | exact impl_isWay.mono _ _ _ _ _ _ _ _
   | exact impl_newNet.mono _ _
   | exact LeO.none _
   | refine LeO.ite ?_ ?_
   | refine LeO.bind ?_ (fun _ => ?_)
  ·intro y0 y1 y2 y3 y4
   unfold impl_isNet.j2
   repeat' first
   | (with_reducible exact ih0 _ _ _ _ _ _)
   | (with_reducible exact ih1 _ _ _ _ _ _ _ _ _ _)
   | (with_reducible exact ih2 _ _ _ _ _)
   | (with_reducible exact ih3 _ _ _ _ _ _ _)
   | (with_reducible exact ih4 _ _ _ _ _ _ _ _)
   | (with_reducible exact impl_isWay.mono _ _ _ _ _ _ _ _)
   | (with_reducible exact impl_newNet.mono _ _)
   | (with_reducible exact LeO.refl _)
   | (with_reducible exact LeO.none _)
   | (with_reducible refine LeO.ite ?_ ?_)
   | (with_reducible refine LeO.bind ?_ (fun _ => ?_))
   | exact ih0 _ _ _ _ _ _
   | exact ih1 _ _ _ _ _ _ _ _ _ _
   | exact ih2 _ _ _ _ _
   | exact ih3 _ _ _ _ _ _ _
   | exact ih4 _ _ _ _ _ _ _ _
   | exact impl_isWay.mono _ _ _ _ _ _ _ _
   | exact impl_newNet.mono _ _
   | exact LeO.none _
   | refine LeO.ite ?_ ?_
   | refine LeO.bind ?_ (fun _ => ?_)
  ·intro y0 y1 y2 y3 y4 y5 y6
   unfold impl_isNet.l1
   repeat' first
   | (with_reducible exact ih0 _ _ _ _ _ _)
   | (with_reducible exact ih1 _ _ _ _ _ _ _ _ _ _)
   | (with_reducible exact ih2 _ _ _ _ _)
   | (with_reducible exact ih3 _ _ _ _ _ _ _)
   | (with_reducible exact ih4 _ _ _ _ _ _ _ _)
   | (with_reducible exact impl_isWay.mono _ _ _ _ _ _ _ _)
   | (with_reducible exact impl_newNet.mono _ _)
   | (with_reducible exact LeO.refl _)
   | (with_reducible exact LeO.none _)
   | (with_reducible refine LeO.ite ?_ ?_)
   | (with_reducible refine LeO.bind ?_ (fun _ => ?_))
   | exact ih0 _ _ _ _ _ _
   | exact ih1 _ _ _ _ _ _ _ _ _ _
   | exact ih2 _ _ _ _ _
   | exact ih3 _ _ _ _ _ _ _
   | exact ih4 _ _ _ _ _ _ _ _
   | exact impl_isWay.mono _ _ _ _ _ _ _ _
   | exact impl_newNet.mono _ _
   | exact LeO.none _
   | refine LeO.ite ?_ ?_
   | refine LeO.bind ?_ (fun _ => ?_)
  ·intro y0 y1 y2 y3 y4 y5 y6 y7
   unfold impl_isNet.j4
   repeat' first
   | (with_reducible exact ih0 _ _ _ _ _ _)
   | (with_reducible exact ih1 _ _ _ _ _ _ _ _ _ _)
   | (with_reducible exact ih2 _ _ _ _ _)
   | (with_reducible exact ih3 _ _ _ _ _ _ _)
   | (with_reducible exact ih4 _ _ _ _ _ _ _ _)
   | (with_reducible exact impl_isWay.mono _ _ _ _ _ _ _ _)
   | (with_reducible exact impl_newNet.mono _ _)
   | (with_reducible exact LeO.refl _)
   | (with_reducible exact LeO.none _)
   | (with_reducible refine LeO.ite ?_ ?_)
   | (with_reducible refine LeO.bind ?_ (fun _ => ?_))
   | exact ih0 _ _ _ _ _ _
   | exact ih1 _ _ _ _ _ _ _ _ _ _
   | exact ih2 _ _ _ _ _
   | exact ih3 _ _ _ _ _ _ _
   | exact ih4 _ _ _ _ _ _ _ _
   | exact impl_isWay.mono _ _ _ _ _ _ _ _
   | exact impl_newNet.mono _ _
   | exact LeO.none _
   | refine LeO.ite ?_ ?_
   | refine LeO.bind ?_ (fun _ => ?_)
theorem impl_isNet.mono : ∀ a0 a1 k, LeO (impl_isNet.f k a0 a1) (impl_isNet.f (k + 1) a0 a1) := by
 intro a0 a1 k
 obtain ⟨ih0, ih1, ih2, ih3, ih4⟩ := impl_isNet.mono_l k
 unfold impl_isNet.f
 repeat' first
   | (with_reducible exact ih0 _ _ _ _ _ _)
   | (with_reducible exact ih1 _ _ _ _ _ _ _ _ _ _)
   | (with_reducible exact ih2 _ _ _ _ _)
   | (with_reducible exact ih3 _ _ _ _ _ _ _)
   | (with_reducible exact ih4 _ _ _ _ _ _ _ _)
   | (with_reducible exact impl_isWay.mono _ _ _ _ _ _ _ _)
   | (with_reducible exact impl_newNet.mono _ _)
   | (with_reducible exact LeO.refl _)
   | (with_reducible exact LeO.none _)
   | (with_reducible refine LeO.ite ?_ ?_)
   | (with_reducible refine LeO.bind ?_ (fun _ => ?_))
   | exact ih0 _ _ _ _ _ _
   | exact ih1 _ _ _ _ _ _ _ _ _ _
   | exact ih2 _ _ _ _ _
   | exact ih3 _ _ _ _ _ _ _
   | exact ih4 _ _ _ _ _ _ _ _
   | exact impl_isWay.mono _ _ _ _ _ _ _ _
   | exact impl_newNet.mono _ _
   | exact LeO.none _
   | refine LeO.ite ?_ ?_
   | refine LeO.bind ?_ (fun _ => ?_)
def impl_isNet.T15 : Bool × List (List Nat × List Nat) := (true, [([], []), ([0], [0]), ([], []), ([2], [2]), ([], []), ([3, 4], [3, 4]), ([5], [5]), ([6], [6]), ([1, 7], [1, 7]), ([8], [8]), ([9], [9]), ([10, 9], [9, 10]), ([9], [9]), ([12, 9], [9, 12]), ([9], [9]), ([13, 14, 9], [9, 13, 14]), ([15, 9], [9, 15]), ([16, 9], [9, 16]), ([11, 17, 9], [9, 11, 17]), ([9, 18], [9, 18]), ([19, 9], [19]), ([20], [20]), ([20], [20]), ([22, 20], [20, 22]), ([20], [20]), ([24, 20], [20, 24]), ([23, 25, 20], [20, 23, 25]), ([26, 20], [20, 26]), ([27, 20], [20, 27]), ([20], [20]), ([29, 20], [20, 29]), ([20], [20]), ([31, 20], [20, 31]), ([30, 32, 20], [20, 30, 32]), ([33, 20], [20, 33]), ([34, 20], [20, 34]), ([21, 28, 35, 20, 20], [20, 21, 28, 35]), ([36, 20], [20, 36]), ([20, 37], [20, 37])])
def impl_isNet.B15 : List Nat := [0, 1, 0, 4, 0, 28, 60, 124, 255, 511, 1023, 2047, 1023, 5119, 1023, 29695, 62463, 127999, 262143, 524287, 1048575, 2097151, 2097151, 6291455, 2097151, 18874367, 65011711, 132120575, 266338303, 2097151, 538968063, 2097151, 2149580799, 8055160831, 16645095423, 33824964607, 68719476735, 137438953471, 274877906943]
theorem impl_isNet.tab15 : rtab .any (opsOf Try.f76 15) = impl_isNet.T15 := by kernel_rfl
theorem impl_isNet.bits15 : waitsOk impl_isNet.T15.2 impl_isNet.B15 = true := by kernel_rfl
set_option maxHeartbeats 8000000 in
set_option maxRecDepth 100000 in
theorem impl_isNet.calls (k : Nat) (A0_0 : Option Addr) (c0_0 : Nat) (l0_0 : List (S92)) (A0_1 : Option Addr) (c0_1 : Nat) (l0_1 : List (S95)) (r : Bool) (w : World) (hr0_0 : Kd.C k92 w A0_0 l0_0.length l0_0) (hc0_0 : l0_0.length ≤ c0_0) (hr0_1 : Kd.C k95 w A0_1 l0_1.length l0_1) (hc0_1 : l0_1.length ≤ c0_1) (h : impl_isNet.f k l0_0 l0_1 = some r) :
  Calls Try.prog 76 #[.agg #[.slice A0_0 l0_0.length c0_0, .slice A0_1 l0_1.length c0_1]] w fun e w' => e = .returned (.bool r) ∧ Below w.heap.size w w' := by
 have hu53 := Try.underlying53
 have hu92 := Try.underlying92
 have hu95 := Try.underlying95
 have HR0_0 := Aside0.mk hr0_0
 have HC0_0 := Aside0.mk hc0_0
 clear hr0_0 hc0_0
 have HR0_1 := Aside0.mk hr0_1
 have HC0_1 := Aside0.mk hc0_1
 clear hr0_1 hc0_1
 have HB := Aside0.mk (Below.refl w.heap.size w)
 have H : (impl_isNet.l0 k (([] : List Int)) l0_0 (l0_0.length : Int) 0 l0_0 l0_1) = some r := h
 clear h
 obtain ⟨y230, hy230⟩ : ∃ y_ : List Int, y_ = (([] : List Int)) := ⟨_, rfl⟩
 replace H : (impl_isNet.l0 k y230 l0_0 (l0_0.length : Int) 0 l0_0 l0_1) = some r := by first | (rw [hy230]; with_reducible exact H) | (have H2_ := (Option.bind_some _ _).symm.trans H; rw [hy230]; with_reducible exact H2_) | (have H2_ := (Option.bind_some _ _).symm.trans H; with_reducible exact H2_) | with_reducible exact H | (rw [hy230]; exact H) | exact H
 have Ny230 := Aside0.mk hy230
 clear hy230
 have H' := Aside0.mk H
 clear H
 go_enter Try.func76, Try.ntmps76
 go_wp2_with (first | ((with_reducible refine gate_dst (N := 1) rfl ?_); (try (refine gate_guard (by rfl) ?_; dsimp only)); refine box_event rfl (N := 1) rfl (cs := #[.slice A0_0 l0_0.length c0_0, .slice A0_1 l0_1.length c0_1]) (t := 53) gs_ ?_; intro gb229 hg w2 hbox hb; have BK229 := Aside0.mk (hbox); have GW229 := Aside0.mk ((by rw [hg]; exact bz_ : w.heap.size ≤ gb229)); have GE229 := GW229; replace HB := Aside0.mk (below_step bl_ hb); clear hb hbox hg) | ((with_reducible refine gate_dst (N := 10) rfl ?_); (try (refine gate_guard (by rfl) ?_; dsimp only)); refine Kd.R_lit (Kd.int .i64) _ 3 rfl (N := 10) rfl (xs := ([] : List Int)) (inner := []) (ok := fun _ => True) (okp := fun _ => True) gs_ ?hp (fun _ hk => hk) trivial (Below.refl _ _) (Nat.le_refl _) (by simp) ?_; (case hp => exact (Reps.none _ _)); intro v231 w3 ho4 hb hg_ hnew_; clear hg_ hnew_; (first | rw [← Ny230.out] at ho4 | (simp only [Int.reduceToNat] at ho4; rw [← Ny230.out] at ho4)); have HO232 := Aside0.mk (Kd.R_lower ho4 bz_); replace BK229 := bb_ BK229 hb; replace HB := Aside0.mk (below_step bl_ hb); clear hb ho4; have hcz5_0 : w3.cell? ⟨gb229, 0, none⟩ = some (.slice A0_0 l0_0.length c0_0) := bc_ BK229.out 0; have hcz5_1 : w3.cell? ⟨gb229, 1, none⟩ = some (.slice A0_1 l0_1.length c0_1) := bc_ BK229.out 1; have hfz5_0 := blk_frozen BK229.out 0; have hfz5_1 := blk_frozen BK229.out 1))
 go_loopg [3, 14] k (fun kq v3 v14 w' => ∃ (x3_1 : List Int) (x14_1 : Int), v14 = .int .i64 x14_1 ∧ Aside0 (impl_isNet.l0 kq x3_1 l0_0 (l0_0.length : Int) x14_1 l0_0 l0_1 = some r) ∧ Aside0 (kq ≤ k) ∧ Aside0 (Kd.R (Kd.int .i64) 3 w' w.heap.size (fun _ => True) v3 x3_1) ∧ Aside0 (w'.heap[gb229]? = some (.cells #[(.slice A0_0 l0_0.length c0_0), (.slice A0_1 l0_1.length c0_1)] 53 (0, 0))) ∧ Aside0 (Below w.heap.size w w'))
 case atStart => exact ⟨(y230), (0), (by first | rfl | (simp; done) | (simp [*]; done)), H', ⟨Nat.le_refl _⟩, ⟨by exact kr_ HO232.out⟩, ⟨by exact kb_ BK229.out⟩, ⟨bl_⟩⟩
 clear H'
 try clear p2
 try clear hcz5_0
 try clear hcz5_1
 try clear hfz5_0
 try clear hfz5_1
 obtain ⟨x3_1, x14_1, rfl, HA, HK1, HO_3, BK229, HB⟩ := hrel
 cases gk with
 | zero => exact absurd HA.out (by simp [impl_isNet.l0])
 | succ k1 => ?_
 have H := HA.out
 clear HA
 simp only [impl_isNet.l0] at H
 by_cases c6 : x14_1 < (l0_0.length : Int)
 ·rw [if_pos c6] at H
  have c6b0 : decide (x14_1 < (l0_0.length : Int)) = true := decide_eq_true c6
  clear c6
  by_cases c7 : 0 ≤ x14_1
  rotate_left
  ·rw [if_neg c7] at H
   exact absurd H (by simp)
  rw [if_pos c7] at H
  have c7b0 : decide (0 ≤ x14_1) = true := decide_eq_true c7
  clear c7
  by_cases c8 : x14_1 < (l0_0.length : Int)
  rotate_left
  ·rw [if_neg c8] at H
   exact absurd H (by simp)
  rw [if_pos c8] at H
  have c8b0 : decide (x14_1 < (l0_0.length : Int)) = true := decide_eq_true c8
  clear c8
  have HC9 := Aside0.mk H
  clear H
  have p233 : 0 ≤ (x14_1 : Int) := of_decide_eq_true (by first | (with_reducible assumption) | assumption)
  have q233 : x14_1 < (l0_0.length : Int) := of_decide_eq_true (by first | (with_reducible assumption) | assumption)
  obtain ⟨ad233, e233, hx233_0, hx233_1, hx233_2⟩ := at_T92 HR0_0.out x14_1 p233 q233
  cases e233
  replace hx233_0 := (HB.out.cell (World.block_lt_of_cell? w _ hx233_0)).trans hx233_0
  replace hx233_1 := (HB.out.cell (World.block_lt_of_cell? w _ hx233_1)).trans hx233_1
  replace hx233_2 := (HB.out.cell (World.block_lt_of_cell? w _ hx233_2)).trans hx233_2
  replace p233 := eq_true p233
  replace q233 := eq_true q233
  go_upto_region 5 with (first | ((with_reducible refine gate_dst (N := 5) rfl ?_); (try (refine gate_guard (by rfl) ?_; dsimp only)); refine box_event rfl (N := 5) rfl (cs := #[.int .i64 0, .bool false, .int .i64 0]) (t := 92) gs_ ?_; intro gb234 hg w10 hbox hb; replace HO_3 := rb_ HO_3 hb; have BK234 := Aside0.mk (hbox); have GW234 := Aside0.mk ((by rw [hg]; exact bz_ : w.heap.size ≤ gb234)); have GE234 := GW234; replace HB := Aside0.mk (below_step bl_ hb); have NB229_234 := nl_ hg BK229; have NB234_229 := nm_ hg BK229; replace BK229 := bb_ BK229 hb; clear hb hbox hg; have hnb11 := NB234_229.out; have hnc11 := NB229_234.out; have hcz12_0 : w10.cell? ⟨gb234, 0, none⟩ = some (.int .i64 0) := bc_ BK234.out 0; have hcz12_1 : w10.cell? ⟨gb234, 1, none⟩ = some (.bool false) := bc_ BK234.out 1; have hcz12_2 : w10.cell? ⟨gb234, 2, none⟩ = some (.int .i64 0) := bc_ BK234.out 2; have hfz12_0 := blk_frozen BK234.out 0; have hfz12_1 := blk_frozen BK234.out 1; have hfz12_2 := blk_frozen BK234.out 2))
  (try simp only [Act.put, List.setIfInBounds_toArray, List.set_cons_zero, List.set_cons_succ])
  go_cut [31] (fun v31 wc => ∃ (kq : Nat) (x31_8 : Bool), v31 = .bool x31_8 ∧ Aside0 (impl_isNet.j1 kq x3_1 l0_0 (l0_0.length : Int) x14_1 x31_8 l0_0 l0_1 ((rd_T92 l0_0 x14_1).f0) ((rd_T92 l0_0 x14_1).f1) ((rd_T92 l0_0 x14_1).f2) = some r) ∧ Aside0 (kq ≤ k1) ∧ Aside0 (Kd.R (Kd.int .i64) 3 wc w.heap.size (fun _ => True) u3 x3_1) ∧ Aside0 (wc.heap[gb229]? = some (.cells #[(.slice (some ad233) l0_0.length c0_0), (.slice A0_1 l0_1.length c0_1)] 53 (0, 0))) ∧ Aside0 (wc.heap[gb234]? = some (.cells #[.int .i64 ((rd_T92 l0_0 x14_1).f0), .bool ((rd_T92 l0_0 x14_1).f1), .int .i64 ((rd_T92 l0_0 x14_1).f2)] 92 (0, 0))) ∧ Aside0 (Below w.heap.size w wc))
  case first =>
   have H := HC9.out
   clear HC9
   replace H := Option.bind_eq_some_iff.mp H
   obtain ⟨t235, A130, H⟩ := H
   replace H : (if t235 = true then (if ((rd_T92 l0_0 x14_1).f1 = true) then (impl_isNet.j1 k1 x3_1 l0_0 (l0_0.length : Int) x14_1 false l0_0 l0_1 ((rd_T92 l0_0 x14_1).f0) ((rd_T92 l0_0 x14_1).f1) ((rd_T92 l0_0 x14_1).f2)) else (impl_isNet.j1 k1 x3_1 l0_0 (l0_0.length : Int) x14_1 (((rd_T92 l0_0 x14_1).f2) != 0) l0_0 l0_1 ((rd_T92 l0_0 x14_1).f0) ((rd_T92 l0_0 x14_1).f1) ((rd_T92 l0_0 x14_1).f2))) else (impl_isNet.j1 k1 x3_1 l0_0 (l0_0.length : Int) x14_1 true l0_0 l0_1 ((rd_T92 l0_0 x14_1).f0) ((rd_T92 l0_0 x14_1).f1) ((rd_T92 l0_0 x14_1).f2))) = some r := H
   have A13 := Aside0.mk A130
   clear A130
   by_cases c14 : t235 = true
   rotate_left
   ·replace c14 := Bool.eq_false_iff.mpr c14
    subst c14
    have H1 : (impl_isNet.j1 k1 x3_1 l0_0 (l0_0.length : Int) x14_1 true l0_0 l0_1 ((rd_T92 l0_0 x14_1).f0) ((rd_T92 l0_0 x14_1).f1) ((rd_T92 l0_0 x14_1).f2)) = some r := by rw [if_neg (show ¬ (false = true) by decide)] at H; exact H
    clear H
    have H := H1
    clear H1
    have H' := Aside0.mk H
    clear H
    have hnb21 := NB234_229.out
    have hnc21 := NB229_234.out
    have hcz22_0 : w10.cell? ⟨gb234, 0, none⟩ = some (.int .i64 0) := bc_ BK234.out 0
    have hcz22_1 : w10.cell? ⟨gb234, 1, none⟩ = some (.bool false) := bc_ BK234.out 1
    have hcz22_2 : w10.cell? ⟨gb234, 2, none⟩ = some (.int .i64 0) := bc_ BK234.out 2
    have hfz22_0 := blk_frozen BK234.out 0
    have hfz22_1 := blk_frozen BK234.out 1
    have hfz22_2 := blk_frozen BK234.out 2
    go_wp2_with (first | ((with_reducible refine gate_callee (f := 45) rfl ?_); refine goesL_ (some 20) rfl rfl Try.func45 (by kernel_rfl) rfl #[.int .i64 ((rd_T92 l0_0 x14_1).f2), .int .i64 0, .int .i64 1000000] rfl nc_ ?_; (with_reducible refine (impl_in.calls ((rd_T92 l0_0 x14_1).f2) 0 1000000 false _ A13.out).mono ?_); rintro e w' ⟨rfl, ⟨nd, rfl⟩⟩; refine ⟨_, rfl, ?_⟩))
    go_meet
    case rel => exact ⟨_, (true), (by first | rfl | (simp; done) | (simp [*]; done)), H', ⟨by have := HK1.out; first | omega | exact Nat.le_refl _⟩, ⟨by exact kr_ (Kd.R_mono (Kd.R_far (p := ⟨gb234, 2, none⟩) (Kd.R_far (p := ⟨gb234, 1, none⟩) (Kd.R_far (p := ⟨gb234, 0, none⟩) (Kd.R_types HO_3.out BK234.out (by decide)) (fun _ hk => hk.2) (.int .i64 ((rd_T92 l0_0 x14_1).f0))) (fun _ hk => hk.2) (.bool ((rd_T92 l0_0 x14_1).f1))) (fun _ hk => hk.2) (.int .i64 ((rd_T92 l0_0 x14_1).f2))) (fun _ hk => trivial))⟩, ⟨kz_⟩, ⟨by (with_reducible repeat (first | refine blk_drewN ?_ _ | refine blk_drew ?_ | refine blk_alloc ?_ _)); refine blk_put (cs := #[.int .i64 ((rd_T92 l0_0 x14_1).f0), .bool ((rd_T92 l0_0 x14_1).f1), .int .i64 0]) ?_ 2 _ rfl; (with_reducible repeat (first | refine blk_drewN ?_ _ | refine blk_drew ?_ | refine blk_alloc ?_ _)); refine blk_put (cs := #[.int .i64 ((rd_T92 l0_0 x14_1).f0), .bool false, .int .i64 0]) ?_ 1 _ rfl; (with_reducible repeat (first | refine blk_drewN ?_ _ | refine blk_drew ?_ | refine blk_alloc ?_ _)); refine blk_put (cs := #[.int .i64 0, .bool false, .int .i64 0]) ?_ 0 _ rfl; exact kb_ BK234.out⟩, ⟨bl_⟩⟩
   subst c14
   have H1 : (if ((rd_T92 l0_0 x14_1).f1 = true) then (impl_isNet.j1 k1 x3_1 l0_0 (l0_0.length : Int) x14_1 false l0_0 l0_1 ((rd_T92 l0_0 x14_1).f0) ((rd_T92 l0_0 x14_1).f1) ((rd_T92 l0_0 x14_1).f2)) else (impl_isNet.j1 k1 x3_1 l0_0 (l0_0.length : Int) x14_1 (((rd_T92 l0_0 x14_1).f2) != 0) l0_0 l0_1 ((rd_T92 l0_0 x14_1).f0) ((rd_T92 l0_0 x14_1).f1) ((rd_T92 l0_0 x14_1).f2))) = some r := by rw [if_pos rfl] at H; exact H
   clear H
   have H := H1
   clear H1
   obtain ⟨bq15, hbq15⟩ : ∃ b_ : Bool, b_ = ((rd_T92 l0_0 x14_1).f1) := ⟨_, rfl⟩
   replace H : (if (bq15 = true) then (impl_isNet.j1 k1 x3_1 l0_0 (l0_0.length : Int) x14_1 false l0_0 l0_1 ((rd_T92 l0_0 x14_1).f0) bq15 ((rd_T92 l0_0 x14_1).f2)) else (impl_isNet.j1 k1 x3_1 l0_0 (l0_0.length : Int) x14_1 (((rd_T92 l0_0 x14_1).f2) != 0) l0_0 l0_1 ((rd_T92 l0_0 x14_1).f0) bq15 ((rd_T92 l0_0 x14_1).f2))) = some r := by rw [← hbq15] at H; exact H
   have Nbq15 := Aside0.mk hbq15
   clear hbq15
   (try rw [← Nbq15.out])
   by_cases c16 : (bq15 = true)
   ·subst c16
    have H1 : (impl_isNet.j1 k1 x3_1 l0_0 (l0_0.length : Int) x14_1 false l0_0 l0_1 ((rd_T92 l0_0 x14_1).f0) true ((rd_T92 l0_0 x14_1).f2)) = some r := by rw [if_pos rfl] at H; exact H
    clear H
    have H := H1
    clear H1
    have H' := Aside0.mk H
    clear H
    have hnb17 := NB234_229.out
    have hnc17 := NB229_234.out
    have hcz18_0 : w10.cell? ⟨gb234, 0, none⟩ = some (.int .i64 0) := bc_ BK234.out 0
    have hcz18_1 : w10.cell? ⟨gb234, 1, none⟩ = some (.bool false) := bc_ BK234.out 1
    have hcz18_2 : w10.cell? ⟨gb234, 2, none⟩ = some (.int .i64 0) := bc_ BK234.out 2
    have hfz18_0 := blk_frozen BK234.out 0
    have hfz18_1 := blk_frozen BK234.out 1
    have hfz18_2 := blk_frozen BK234.out 2
    go_wp2_with (first | ((with_reducible refine gate_callee (f := 45) rfl ?_); refine goesL_ (some 20) rfl rfl Try.func45 (by kernel_rfl) rfl #[.int .i64 ((rd_T92 l0_0 x14_1).f2), .int .i64 0, .int .i64 1000000] rfl nc_ ?_; (with_reducible refine (impl_in.calls ((rd_T92 l0_0 x14_1).f2) 0 1000000 true _ A13.out).mono ?_); rintro e w' ⟨rfl, ⟨nd, rfl⟩⟩; refine ⟨_, rfl, ?_⟩))
    go_meet
    case rel => exact ⟨_, (false), (by first | rfl | (simp; done) | (simp [*]; done)), (by first | exact H' | (rw [← Nbq15.out]; exact H')), ⟨by have := HK1.out; first | omega | exact Nat.le_refl _⟩, ⟨by exact kr_ (Kd.R_mono (Kd.R_far (p := ⟨gb234, 2, none⟩) (Kd.R_far (p := ⟨gb234, 1, none⟩) (Kd.R_far (p := ⟨gb234, 0, none⟩) (Kd.R_types HO_3.out BK234.out (by decide)) (fun _ hk => hk.2) (.int .i64 ((rd_T92 l0_0 x14_1).f0))) (fun _ hk => hk.2) (.bool (true))) (fun _ hk => hk.2) (.int .i64 ((rd_T92 l0_0 x14_1).f2))) (fun _ hk => trivial))⟩, ⟨kz_⟩, ⟨by (with_reducible repeat (first | refine blk_drewN ?_ _ | refine blk_drew ?_ | refine blk_alloc ?_ _)); refine blk_put (cs := #[.int .i64 ((rd_T92 l0_0 x14_1).f0), .bool (true), .int .i64 0]) ?_ 2 _ (by first | rfl | (rw [← Nbq15.out]; rfl)); (with_reducible repeat (first | refine blk_drewN ?_ _ | refine blk_drew ?_ | refine blk_alloc ?_ _)); refine blk_put (cs := #[.int .i64 ((rd_T92 l0_0 x14_1).f0), .bool false, .int .i64 0]) ?_ 1 _ (by first | rfl | (rw [← Nbq15.out]; rfl)); (with_reducible repeat (first | refine blk_drewN ?_ _ | refine blk_drew ?_ | refine blk_alloc ?_ _)); refine blk_put (cs := #[.int .i64 0, .bool false, .int .i64 0]) ?_ 0 _ (by first | rfl | (rw [← Nbq15.out]; rfl)); exact kb_ BK234.out⟩, ⟨bl_⟩⟩
   replace c16 := Bool.eq_false_iff.mpr c16
   subst c16
   have H1 : (impl_isNet.j1 k1 x3_1 l0_0 (l0_0.length : Int) x14_1 (((rd_T92 l0_0 x14_1).f2) != 0) l0_0 l0_1 ((rd_T92 l0_0 x14_1).f0) false ((rd_T92 l0_0 x14_1).f2)) = some r := by rw [if_neg (show ¬ (false = true) by decide)] at H; exact H
   clear H
   have H := H1
   clear H1
   have H' := Aside0.mk H
   clear H
   have hnb19 := NB234_229.out
   have hnc19 := NB229_234.out
   have hcz20_0 : w10.cell? ⟨gb234, 0, none⟩ = some (.int .i64 0) := bc_ BK234.out 0
   have hcz20_1 : w10.cell? ⟨gb234, 1, none⟩ = some (.bool false) := bc_ BK234.out 1
   have hcz20_2 : w10.cell? ⟨gb234, 2, none⟩ = some (.int .i64 0) := bc_ BK234.out 2
   have hfz20_0 := blk_frozen BK234.out 0
   have hfz20_1 := blk_frozen BK234.out 1
   have hfz20_2 := blk_frozen BK234.out 2
   go_wp2_with (first | ((with_reducible refine gate_callee (f := 45) rfl ?_); refine goesL_ (some 20) rfl rfl Try.func45 (by kernel_rfl) rfl #[.int .i64 ((rd_T92 l0_0 x14_1).f2), .int .i64 0, .int .i64 1000000] rfl nc_ ?_; (with_reducible refine (impl_in.calls ((rd_T92 l0_0 x14_1).f2) 0 1000000 true _ A13.out).mono ?_); rintro e w' ⟨rfl, ⟨nd, rfl⟩⟩; refine ⟨_, rfl, ?_⟩))
   go_meet
   case rel => exact ⟨_, ((((rd_T92 l0_0 x14_1).f2) != 0)), (by first | rfl | (simp; done) | (simp [*]; done)), (by first | exact H' | (rw [← Nbq15.out]; exact H')), ⟨by have := HK1.out; first | omega | exact Nat.le_refl _⟩, ⟨by exact kr_ (Kd.R_mono (Kd.R_far (p := ⟨gb234, 2, none⟩) (Kd.R_far (p := ⟨gb234, 1, none⟩) (Kd.R_far (p := ⟨gb234, 0, none⟩) (Kd.R_types HO_3.out BK234.out (by decide)) (fun _ hk => hk.2) (.int .i64 ((rd_T92 l0_0 x14_1).f0))) (fun _ hk => hk.2) (.bool (false))) (fun _ hk => hk.2) (.int .i64 ((rd_T92 l0_0 x14_1).f2))) (fun _ hk => trivial))⟩, ⟨kz_⟩, ⟨by (with_reducible repeat (first | refine blk_drewN ?_ _ | refine blk_drew ?_ | refine blk_alloc ?_ _)); refine blk_put (cs := #[.int .i64 ((rd_T92 l0_0 x14_1).f0), .bool (false), .int .i64 0]) ?_ 2 _ (by first | rfl | (rw [← Nbq15.out]; rfl)); (with_reducible repeat (first | refine blk_drewN ?_ _ | refine blk_drew ?_ | refine blk_alloc ?_ _)); refine blk_put (cs := #[.int .i64 ((rd_T92 l0_0 x14_1).f0), .bool false, .int .i64 0]) ?_ 1 _ (by first | rfl | (rw [← Nbq15.out]; rfl)); (with_reducible repeat (first | refine blk_drewN ?_ _ | refine blk_drew ?_ | refine blk_alloc ?_ _)); refine blk_put (cs := #[.int .i64 0, .bool false, .int .i64 0]) ?_ 0 _ (by first | rfl | (rw [← Nbq15.out]; rfl)); exact kb_ BK234.out⟩, ⟨bl_⟩⟩
  clear HC9
  try clear c1
  try clear q1
  try clear c2
  try clear p2
  try clear q2
  try clear hx2
  try clear c4
  try clear c6
  try clear c6b0
  try clear c7
  try clear c7b0
  try clear c8
  try clear c8b0
  try clear c11
  try clear c14
  try clear q15
  try clear c16
  try clear c17
  try clear c19
  try clear c21
  try clear hcz12_0
  try clear hcz12_1
  try clear hcz12_2
  try clear hcz18_0
  try clear hcz18_1
  try clear hcz18_2
  try clear hcz20_0
  try clear hcz20_1
  try clear hcz20_2
  try clear hcz22_0
  try clear hcz22_1
  try clear hcz22_2
  try clear hcz5_0
  try clear hcz5_1
  try clear hfz12_0
  try clear hfz12_1
  try clear hfz12_2
  try clear hfz18_0
  try clear hfz18_1
  try clear hfz18_2
  try clear hfz20_0
  try clear hfz20_1
  try clear hfz20_2
  try clear hfz22_0
  try clear hfz22_1
  try clear hfz22_2
  try clear hfz5_0
  try clear hfz5_1
  try clear hx233_0
  try clear hx233_1
  try clear hx233_2
  try clear p2
  try clear p233
  try clear q233
  obtain ⟨kq, x31_8, rfl, HA, HJ8, HO_3, BK229, BK234, HB⟩ := hcut
  cases kq with
  | zero => exact absurd HA.out (by simp [impl_isNet.j1])
  | succ kj8 => ?_
  have H := HA.out
  clear HA
  simp only [impl_isNet.j1] at H
  by_cases c23 : x31_8 = true
  ·subst c23
   have H1 : (some false) = some r := by rw [if_pos rfl] at H; exact H
   clear H
   have H := H1
   clear H1
   obtain rfl := Option.some.inj H
   go_wp2
   go_ret
   exact ⟨ng_, bl_⟩
  replace c23 := Bool.eq_false_iff.mpr c23
  subst c23
  have H1 : (if x3_1.length < 17592186044416 then (impl_isNet.l0 kj8 (x3_1 ++ [((rd_T92 l0_0 x14_1).f0)]) l0_0 (l0_0.length : Int) (wrap64 (x14_1 + 1)) l0_0 l0_1) else (none)) = some r := by rw [if_neg (show ¬ (false = true) by decide)] at H; exact H
  clear H
  have H := H1
  clear H1
  by_cases c24 : x3_1.length < 17592186044416
  rotate_left
  ·rw [if_neg c24] at H
   exact absurd H (by simp)
  rw [if_pos c24] at H
  have LMc24 := Aside0.mk c24
  clear c24
  obtain ⟨y236, hy236⟩ : ∃ y_ : List Int, y_ = (x3_1 ++ [((rd_T92 l0_0 x14_1).f0)]) := ⟨_, rfl⟩
  replace H : (impl_isNet.l0 kj8 y236 l0_0 (l0_0.length : Int) (wrap64 (x14_1 + 1)) l0_0 l0_1) = some r := by first | (rw [hy236]; with_reducible exact H) | (have H2_ := (Option.bind_some _ _).symm.trans H; rw [hy236]; with_reducible exact H2_) | (have H2_ := (Option.bind_some _ _).symm.trans H; with_reducible exact H2_) | with_reducible exact H | (rw [hy236]; exact H) | exact H
  have Ny236 := Aside0.mk hy236
  clear hy236
  have H' := Aside0.mk H
  clear H
  have hnb25 := NB234_229.out
  have hnc25 := NB229_234.out
  have hcz26_0 : wc.cell? ⟨gb234, 0, none⟩ = some (.int .i64 ((rd_T92 l0_0 x14_1).f0)) := bc_ BK234.out 0
  have hcz26_1 : wc.cell? ⟨gb234, 1, none⟩ = some (.bool ((rd_T92 l0_0 x14_1).f1)) := bc_ BK234.out 1
  have hcz26_2 : wc.cell? ⟨gb234, 2, none⟩ = some (.int .i64 ((rd_T92 l0_0 x14_1).f2)) := bc_ BK234.out 2
  have hfz26_0 := blk_frozen BK234.out 0
  have hfz26_1 := blk_frozen BK234.out 1
  have hfz26_2 := blk_frozen BK234.out 2
  go_wp2_with (first | ((with_reducible refine gate_builtin (b := .append) (xs := #[.tmp 32, .tmp 35]) rfl ?_); (try (refine gate_guard (by rfl) ?_; dsimp only)); at_builtin; refine Kd.R_append (Kd.int .i64) (w0 := w) w.heap.size rfl (.tmp 32) (.tmp 35) 49 3 (.int .i64 0) 8 rfl Try.underlying49 info3 rfl (by decide) (by omega) u3 x3_1 ((rd_T92 l0_0 x14_1).f0) [.int .i64 ((rd_T92 l0_0 x14_1).f0)] (fun _ => True) (fun _ => False) rfl rfl ?aP (fun _ hk => hk.elim) ?aF ?aO ?aB ?aS ?aL ?_; (case aP => exact rfl); (case aB => exact bl_); (case aF => exact (fun _ _ => trivial)); (case aO => exact (kr_ HO_3.out)); (case aS => exact bz_); (case aL => have := LMc24.out; omega); intro v237 w27 ho hb hg hat; rw [← Ny236.out] at ho; replace BK229 := bgr_ BK229 hg HO_3 BK229; replace BK234 := bgr_ BK234 hg HO_3 BK234; replace HB := Aside0.mk (hb); have HO238 := Aside0.mk (ho); clear HO_3 ho hb hg hat))
  go_roundg kj8
  case measure => have := HK1.out; have := HJ8.out; omega
  case rel => exact ⟨(y236), (wrap64 (x14_1 + 1)), (by first | rfl | (simp; done) | (simp [*]; done)), H', ⟨by have := HK1.out; have := HJ8.out; omega⟩, ⟨by exact kr_ HO238.out⟩, ⟨by exact kb_ BK229.out⟩, ⟨bl_⟩⟩
 rw [if_neg c6] at H
 have c6b0 : decide (x14_1 < (l0_0.length : Int)) = false := decide_eq_false c6
 clear c6
 replace H := Option.bind_eq_some_iff.mp H
 obtain ⟨⟨t239, t242, t245⟩, A280, H⟩ := H
 replace H : (if t245 = true then (impl_isNet.j2 k1 ((l0_1.length : Int) != (t242.length : Int)) l0_0 l0_1 t239 t242) else (impl_isNet.j2 k1 true l0_0 l0_1 t239 t242)) = some r := H
 have A28 := Aside0.mk A280
 clear A280
 have HC29 := Aside0.mk H
 clear H
 obtain ⟨Ao30, co30, eo30⟩ := Kd.R_slice HO_3.out
 subst eo30
 go_upto_region 10 with (first | ((with_reducible refine gate_callee (f := 64) rfl ?_); refine goesL_ (some 40) rfl rfl Try.func64 (by kernel_rfl) rfl #[.slice Ao30 x3_1.length co30] rfl nc_ ?_; (with_reducible refine (impl_newNet.calls k1 _ _ x3_1 t239 t242 t245 _ ?side1 ?side2 A28.out).mono ?_); (case side1 => exact kc_ (Kd.R_reads' HO_3.out).2.2); (case side2 => exact (Kd.R_reads' HO_3.out).2.1); rintro e w31 ⟨v240, v243, rfl, ho0, ho1, hb⟩; refine ⟨_, rfl, ?_⟩; have HO241 := Aside0.mk (Kd.R_lower ho0 bz_); have HO244 := Aside0.mk (Kd.S_lower (Kd.S_new' ho1 (Kd.R_lt (kr_ HO_3.out))) bz_); replace HO_3 := rb_ HO_3 hb; replace BK229 := bb_ BK229 hb; replace HB := Aside0.mk (below_step bl_ hb); clear hb ho0 ho1) | ((with_reducible refine gate_dst (N := 6) rfl ?_); (try (refine gate_guard (by rfl) ?_; dsimp only)); refine box_event rfl (N := 6) rfl (cs := #[.slice none 0 0, .slice none 0 0]) (t := 53) gs_ ?_; intro gb246 hg w32 hbox hb; replace HO_3 := rb_ HO_3 hb; replace HO241 := rb_ HO241 hb; replace HO244 := Aside0.mk (Kd.S_below (by (with_reducible repeat (first | apply Kd.S_alloc | apply Kd.S_drewN | apply Kd.S_drew)); exact HO244.out) hb); have BK246 := Aside0.mk (hbox); have GW246 := Aside0.mk ((by rw [hg]; exact bz_ : w.heap.size ≤ gb246)); have GE246 := GW246; replace HB := Aside0.mk (below_step bl_ hb); have NB229_246 := nl_ hg BK229; have NB246_229 := nm_ hg BK229; replace BK229 := bb_ BK229 hb; clear hb hbox hg; obtain ⟨Ao33, co33, eo33⟩ := Kd.R_slice HO241.out; subst eo33; have hnb34 := NB246_229.out; have hnc34 := NB229_246.out; have hcz35_0 : w32.cell? ⟨gb246, 0, none⟩ = some (.slice none 0 0) := bc_ BK246.out 0; have hcz35_1 : w32.cell? ⟨gb246, 1, none⟩ = some (.slice none 0 0) := bc_ BK246.out 1; have hfz35_0 := blk_frozen BK246.out 0; have hfz35_1 := blk_frozen BK246.out 1; obtain ⟨Ao36, co36, eo36⟩ := Kd.S_slice HO244.out; subst eo36))
 (try simp only [Act.put, List.setIfInBounds_toArray, List.set_cons_zero, List.set_cons_succ])
 go_cut [53] (fun v53 wc => ∃ (kq : Nat) (x53_28 : Bool), v53 = .bool x53_28 ∧ Aside0 (impl_isNet.j2 kq x53_28 l0_0 l0_1 t239 t242 = some r) ∧ Aside0 (kq ≤ k1) ∧ Aside0 (Kd.R k92 92 wc w.heap.size (fun _ => True) (.slice Ao33 t239.length co33) t239) ∧ Aside0 (Kd.S k95 95 wc w.heap.size (fun _ => True) (.slice Ao36 t242.length co36) t242) ∧ Aside0 (wc.heap[gb229]? = some (.cells #[(.slice A0_0 l0_0.length c0_0), (.slice A0_1 l0_1.length c0_1)] 53 (0, 0))) ∧ Aside0 (wc.heap[gb246]? = some (.cells #[(.slice Ao33 t239.length co33), (.slice Ao36 t242.length co36)] 53 (0, 0))) ∧ Aside0 (Below w.heap.size w wc))
 case first =>
  have H := HC29.out
  clear HC29
  by_cases c37 : t245 = true
  rotate_left
  ·replace c37 := Bool.eq_false_iff.mpr c37
   subst c37
   have H1 : (impl_isNet.j2 k1 true l0_0 l0_1 t239 t242) = some r := by rw [if_neg (show ¬ (false = true) by decide)] at H; exact H
   clear H
   have H := H1
   clear H1
   have H' := Aside0.mk H
   clear H
   go_wp2
   go_meet
   case rel => exact ⟨_, (true), (by first | rfl | (simp; done) | (simp [*]; done)), H', ⟨by have := HK1.out; first | omega | exact Nat.le_refl _⟩, ⟨by exact kr_ (Kd.R_mono (Kd.R_far (p := ⟨gb246, 1, none⟩) (Kd.R_far (p := ⟨gb246, 0, none⟩) (Kd.R_types HO241.out BK246.out (by decide)) (fun _ hk => hk.2) (.slice Ao33 t239.length co33)) (fun _ hk => hk.2) (.slice Ao36 t242.length co36)) (fun _ hk => trivial))⟩, ⟨by (with_reducible repeat (first | apply Kd.S_alloc | apply Kd.S_drewN | apply Kd.S_drew)); exact Kd.S_mono (Kd.S_far (p := ⟨gb246, 1, none⟩) (Kd.S_far (p := ⟨gb246, 0, none⟩) (Kd.S_types HO244.out BK246.out (by decide)) (fun _ hk => hk.2) (.slice Ao33 t239.length co33)) (fun _ hk => hk.2) (.slice Ao36 t242.length co36)) (fun _ hk => trivial)⟩, ⟨kz_⟩, ⟨by (with_reducible repeat (first | refine blk_drewN ?_ _ | refine blk_drew ?_ | refine blk_alloc ?_ _)); refine blk_put (cs := #[.slice Ao33 t239.length co33, .slice none 0 0]) ?_ 1 _ rfl; (with_reducible repeat (first | refine blk_drewN ?_ _ | refine blk_drew ?_ | refine blk_alloc ?_ _)); refine blk_put (cs := #[.slice none 0 0, .slice none 0 0]) ?_ 0 _ rfl; exact kb_ BK246.out⟩, ⟨bl_⟩⟩
  subst c37
  have H1 : (impl_isNet.j2 k1 ((l0_1.length : Int) != (t242.length : Int)) l0_0 l0_1 t239 t242) = some r := by rw [if_pos rfl] at H; exact H
  clear H
  have H := H1
  clear H1
  have H' := Aside0.mk H
  clear H
  have hnb38 := NB229_246.out
  have hnc38 := NB246_229.out
  have hcz39_0 : w32.cell? ⟨gb229, 0, none⟩ = some (.slice A0_0 l0_0.length c0_0) := bc_ BK229.out 0
  have hcz39_1 : w32.cell? ⟨gb229, 1, none⟩ = some (.slice A0_1 l0_1.length c0_1) := bc_ BK229.out 1
  have hfz39_0 := blk_frozen BK229.out 0
  have hfz39_1 := blk_frozen BK229.out 1
  have hcz40_0 : w32.cell? ⟨gb246, 0, none⟩ = some (.slice none 0 0) := bc_ BK246.out 0
  have hcz40_1 : w32.cell? ⟨gb246, 1, none⟩ = some (.slice none 0 0) := bc_ BK246.out 1
  have hfz40_0 := blk_frozen BK246.out 0
  have hfz40_1 := blk_frozen BK246.out 1
  go_wp2
  go_meet
  case rel => exact ⟨_, (((l0_1.length : Int) != (t242.length : Int))), (by first | rfl | (simp; done) | (simp [*]; done)), H', ⟨by have := HK1.out; first | omega | exact Nat.le_refl _⟩, ⟨by exact kr_ (Kd.R_mono (Kd.R_far (p := ⟨gb246, 1, none⟩) (Kd.R_far (p := ⟨gb246, 0, none⟩) (Kd.R_types HO241.out BK246.out (by decide)) (fun _ hk => hk.2) (.slice Ao33 t239.length co33)) (fun _ hk => hk.2) (.slice Ao36 t242.length co36)) (fun _ hk => trivial))⟩, ⟨by (with_reducible repeat (first | apply Kd.S_alloc | apply Kd.S_drewN | apply Kd.S_drew)); exact Kd.S_mono (Kd.S_far (p := ⟨gb246, 1, none⟩) (Kd.S_far (p := ⟨gb246, 0, none⟩) (Kd.S_types HO244.out BK246.out (by decide)) (fun _ hk => hk.2) (.slice Ao33 t239.length co33)) (fun _ hk => hk.2) (.slice Ao36 t242.length co36)) (fun _ hk => trivial)⟩, ⟨kz_⟩, ⟨by (with_reducible repeat (first | refine blk_drewN ?_ _ | refine blk_drew ?_ | refine blk_alloc ?_ _)); refine blk_put (cs := #[.slice Ao33 t239.length co33, .slice none 0 0]) ?_ 1 _ rfl; (with_reducible repeat (first | refine blk_drewN ?_ _ | refine blk_drew ?_ | refine blk_alloc ?_ _)); refine blk_put (cs := #[.slice none 0 0, .slice none 0 0]) ?_ 0 _ rfl; exact kb_ BK246.out⟩, ⟨bl_⟩⟩
 clear HC29
 try clear c1
 try clear q1
 try clear c2
 try clear p2
 try clear q2
 try clear hx2
 try clear c3
 try clear c4
 try clear c6
 try clear c6b0
 try clear p6
 try clear c7
 try clear c7b0
 try clear c8
 try clear c8b0
 try clear c11
 try clear c14
 try clear q15
 try clear c16
 try clear c17
 try clear c19
 try clear c21
 try clear c23
 try clear p23
 try clear q23
 try clear hx23
 try clear c24
 try clear c25
 try clear c34
 try clear c37
 try clear c38
 try clear hcz12_0
 try clear hcz12_1
 try clear hcz12_2
 try clear hcz18_0
 try clear hcz18_1
 try clear hcz18_2
 try clear hcz20_0
 try clear hcz20_1
 try clear hcz20_2
 try clear hcz22_0
 try clear hcz22_1
 try clear hcz22_2
 try clear hcz26_0
 try clear hcz26_1
 try clear hcz26_2
 try clear hcz35_0
 try clear hcz35_1
 try clear hcz39_0
 try clear hcz39_1
 try clear hcz40_0
 try clear hcz40_1
 try clear hcz5_0
 try clear hcz5_1
 try clear hfz12_0
 try clear hfz12_1
 try clear hfz12_2
 try clear hfz18_0
 try clear hfz18_1
 try clear hfz18_2
 try clear hfz20_0
 try clear hfz20_1
 try clear hfz20_2
 try clear hfz22_0
 try clear hfz22_1
 try clear hfz22_2
 try clear hfz26_0
 try clear hfz26_1
 try clear hfz26_2
 try clear hfz35_0
 try clear hfz35_1
 try clear hfz39_0
 try clear hfz39_1
 try clear hfz40_0
 try clear hfz40_1
 try clear hfz5_0
 try clear hfz5_1
 try clear hx233_0
 try clear hx233_1
 try clear hx233_2
 try clear p2
 try clear p233
 try clear q1
 try clear q15
 try clear q2
 try clear q233
 obtain ⟨kq, x53_28, rfl, HA, HJ28, HO_247000, HO_247001, BK229, BK246, HB⟩ := hcut
 cases kq with
 | zero => exact absurd HA.out (by simp [impl_isNet.j2])
 | succ kj28 => ?_
 have H := HA.out
 clear HA
 simp only [impl_isNet.j2] at H
 by_cases c41 : x53_28 = true
 ·subst c41
  have H1 : (some false) = some r := by rw [if_pos rfl] at H; exact H
  clear H
  have H := H1
  clear H1
  obtain rfl := Option.some.inj H
  go_wp2
  go_ret
  exact ⟨ng_, bl_⟩
 replace c41 := Bool.eq_false_iff.mpr c41
 subst c41
 have H1 : (impl_isNet.l1 kj28 l0_1 (l0_1.length : Int) 0 l0_0 l0_1 t239 t242) = some r := by rw [if_neg (show ¬ (false = true) by decide)] at H; exact H
 clear H
 have H := H1
 clear H1
 have H' := Aside0.mk H
 clear H
 have hnb42 := NB229_246.out
 have hnc42 := NB246_229.out
 have hcz43_0 : wc.cell? ⟨gb229, 0, none⟩ = some (.slice A0_0 l0_0.length c0_0) := bc_ BK229.out 0
 have hcz43_1 : wc.cell? ⟨gb229, 1, none⟩ = some (.slice A0_1 l0_1.length c0_1) := bc_ BK229.out 1
 have hfz43_0 := blk_frozen BK229.out 0
 have hfz43_1 := blk_frozen BK229.out 1
 go_wp2
 go_loopg [57] kj28 (fun kq v57 w' => ∃ (x57_3 : Int), v57 = .int .i64 x57_3 ∧ Aside0 (impl_isNet.l1 kq l0_1 (l0_1.length : Int) x57_3 l0_0 l0_1 t239 t242 = some r) ∧ Aside0 (kq ≤ kj28) ∧ Aside0 (Kd.R k92 92 w' w.heap.size (fun _ => True) (.slice Ao33 t239.length co33) t239) ∧ Aside0 (Kd.S k95 95 w' w.heap.size (fun _ => True) (.slice Ao36 t242.length co36) t242) ∧ Aside0 (w'.heap[gb229]? = some (.cells #[(.slice A0_0 l0_0.length c0_0), (.slice A0_1 l0_1.length c0_1)] 53 (0, 0))) ∧ Aside0 (w'.heap[gb246]? = some (.cells #[(.slice Ao33 t239.length co33), (.slice Ao36 t242.length co36)] 53 (0, 0))) ∧ Aside0 (Below w.heap.size w w'))
 case atStart => exact ⟨(0), (by first | rfl | (simp; done) | (simp [*]; done)), H', ⟨Nat.le_refl _⟩, ⟨by exact kr_ HO_247000.out⟩, ⟨by (with_reducible repeat (first | apply Kd.S_alloc | apply Kd.S_drewN | apply Kd.S_drew)); exact HO_247001.out⟩, ⟨by exact kb_ BK229.out⟩, ⟨by exact kb_ BK246.out⟩, ⟨bl_⟩⟩
 clear H'
 try clear c1
 try clear q1
 try clear c2
 try clear p2
 try clear q2
 try clear hx2
 try clear c3
 try clear c4
 try clear c6
 try clear c6b0
 try clear p6
 try clear c7
 try clear c7b0
 try clear c8
 try clear c8b0
 try clear c11
 try clear c14
 try clear q15
 try clear c16
 try clear c17
 try clear c19
 try clear c21
 try clear c23
 try clear p23
 try clear q23
 try clear hx23
 try clear c24
 try clear c25
 try clear c34
 try clear c37
 try clear c38
 try clear c41
 try clear c42
 try clear hcz12_0
 try clear hcz12_1
 try clear hcz12_2
 try clear hcz18_0
 try clear hcz18_1
 try clear hcz18_2
 try clear hcz20_0
 try clear hcz20_1
 try clear hcz20_2
 try clear hcz22_0
 try clear hcz22_1
 try clear hcz22_2
 try clear hcz26_0
 try clear hcz26_1
 try clear hcz26_2
 try clear hcz35_0
 try clear hcz35_1
 try clear hcz39_0
 try clear hcz39_1
 try clear hcz40_0
 try clear hcz40_1
 try clear hcz43_0
 try clear hcz43_1
 try clear hcz5_0
 try clear hcz5_1
 try clear hfz12_0
 try clear hfz12_1
 try clear hfz12_2
 try clear hfz18_0
 try clear hfz18_1
 try clear hfz18_2
 try clear hfz20_0
 try clear hfz20_1
 try clear hfz20_2
 try clear hfz22_0
 try clear hfz22_1
 try clear hfz22_2
 try clear hfz26_0
 try clear hfz26_1
 try clear hfz26_2
 try clear hfz35_0
 try clear hfz35_1
 try clear hfz39_0
 try clear hfz39_1
 try clear hfz40_0
 try clear hfz40_1
 try clear hfz43_0
 try clear hfz43_1
 try clear hfz5_0
 try clear hfz5_1
 try clear hx233_0
 try clear hx233_1
 try clear hx233_2
 try clear p2
 try clear p23
 try clear p233
 try clear p6
 try clear q1
 try clear q15
 try clear q2
 try clear q23
 try clear q233
 obtain ⟨x57_3, rfl, HA, HK3, HO_247000, HO_247001, BK229, BK246, HB⟩ := hrel
 cases gk with
 | zero => exact absurd HA.out (by simp [impl_isNet.l1])
 | succ k3 => ?_
 have H := HA.out
 clear HA
 simp only [impl_isNet.l1] at H
 by_cases c44 : x57_3 < (l0_1.length : Int)
 rotate_left
 ·rw [if_neg c44] at H
  have c44b0 : decide (x57_3 < (l0_1.length : Int)) = false := decide_eq_false c44
  clear c44
  obtain rfl := Option.some.inj H
  go_wp2
  go_ret
  exact ⟨ng_, bl_⟩
 rw [if_pos c44] at H
 have c44b0 : decide (x57_3 < (l0_1.length : Int)) = true := decide_eq_true c44
 clear c44
 by_cases c45 : 0 ≤ x57_3
 rotate_left
 ·rw [if_neg c45] at H
  exact absurd H (by simp)
 rw [if_pos c45] at H
 have c45b0 : decide (0 ≤ x57_3) = true := decide_eq_true c45
 clear c45
 by_cases c46 : x57_3 < (l0_1.length : Int)
 rotate_left
 ·rw [if_neg c46] at H
  exact absurd H (by simp)
 rw [if_pos c46] at H
 have c46b0 : decide (x57_3 < (l0_1.length : Int)) = true := decide_eq_true c46
 clear c46
 have HC47 := Aside0.mk H
 clear H
 have p247 : 0 ≤ (x57_3 : Int) := of_decide_eq_true (by first | (with_reducible assumption) | assumption)
 have q247 : x57_3 < (l0_1.length : Int) := of_decide_eq_true (by first | (with_reducible assumption) | assumption)
 obtain ⟨ad247, A247_2, c247_2, A247_4, c247_4, e247, hx247_0, hx247_1, hx247_2, hx247_3, hx247_4, hl247_2, hi247_2, hl247_4, hi247_4⟩ := at_T95 HR0_1.out x57_3 p247 q247
 cases e247
 replace hx247_0 := (HB.out.cell (World.block_lt_of_cell? w _ hx247_0)).trans hx247_0
 replace hx247_1 := (HB.out.cell (World.block_lt_of_cell? w _ hx247_1)).trans hx247_1
 replace hx247_2 := (HB.out.cell (World.block_lt_of_cell? w _ hx247_2)).trans hx247_2
 replace hx247_3 := (HB.out.cell (World.block_lt_of_cell? w _ hx247_3)).trans hx247_3
 replace hx247_4 := (HB.out.cell (World.block_lt_of_cell? w _ hx247_4)).trans hx247_4
 have HR247_2 := Aside0.mk hi247_2
 have HC247_2 := Aside0.mk hl247_2
 clear hi247_2 hl247_2
 have HR247_4 := Aside0.mk hi247_4
 have HC247_4 := Aside0.mk hl247_4
 clear hi247_4 hl247_4
 replace p247 := eq_true p247
 replace q247 := eq_true q247
 go_upto_region 15 with (first | ((with_reducible refine gate_dst (N := 9) rfl ?_); (try (refine gate_guard (by rfl) ?_; dsimp only)); refine box_event rfl (N := 9) rfl (cs := #[.int .i64 0, .int .i64 0, .slice none 0 0, .bool false, .slice none 0 0]) (t := 95) gs_ ?_; intro gb248 hg w48 hbox hb; replace HO_247000 := rb_ HO_247000 hb; replace HO_247001 := Aside0.mk (Kd.S_below (Kd.S_elderB (by (with_reducible repeat (first | apply Kd.S_alloc | apply Kd.S_drewN | apply Kd.S_drew)); exact HO_247001.out) gb248 (Nat.le_of_eq hg.symm)) hb); have BK248 := Aside0.mk (hbox); have GW248 := Aside0.mk ((by rw [hg]; exact bz_ : w.heap.size ≤ gb248)); have GE248 := GW248; replace HB := Aside0.mk (below_step bl_ hb); have NB229_248 := nl_ hg BK229; have NB248_229 := nm_ hg BK229; replace BK229 := bb_ BK229 hb; have NB246_248 := nl_ hg BK246; have NB248_246 := nm_ hg BK246; replace BK246 := bb_ BK246 hb; clear hb hbox hg; have hnb49 := NB248_229.out; have hnc49 := NB229_248.out; have hnb50 := NB248_246.out; have hnc50 := NB246_248.out; have hcz51_0 : w48.cell? ⟨gb248, 0, none⟩ = some (.int .i64 0) := bc_ BK248.out 0; have hcz51_1 : w48.cell? ⟨gb248, 1, none⟩ = some (.int .i64 0) := bc_ BK248.out 1; have hcz51_2 : w48.cell? ⟨gb248, 2, none⟩ = some (.slice none 0 0) := bc_ BK248.out 2; have hcz51_3 : w48.cell? ⟨gb248, 3, none⟩ = some (.bool false) := bc_ BK248.out 3; have hcz51_4 : w48.cell? ⟨gb248, 4, none⟩ = some (.slice none 0 0) := bc_ BK248.out 4; have hfz51_0 := blk_frozen BK248.out 0; have hfz51_1 := blk_frozen BK248.out 1; have hfz51_2 := blk_frozen BK248.out 2; have hfz51_3 := blk_frozen BK248.out 3; have hfz51_4 := blk_frozen BK248.out 4))
 (try simp only [Act.put, List.setIfInBounds_toArray, List.set_cons_zero, List.set_cons_succ])
 go_cut [100] (fun v100 wc => ∃ (kq : Nat) (x100_46 : Bool), v100 = .bool x100_46 ∧ Aside0 (impl_isNet.j4 kq l0_1 (l0_1.length : Int) x57_3 x100_46 l0_0 l0_1 t239 t242 = some r) ∧ Aside0 (kq ≤ k3) ∧ Aside0 (Kd.R k92 92 wc w.heap.size (fun _ => True) (.slice Ao33 t239.length co33) t239) ∧ Aside0 (Kd.S k95 95 wc w.heap.size (fun k_ => k_ ≠ gb248) (.slice Ao36 t242.length co36) t242) ∧ Aside0 (wc.heap[gb229]? = some (.cells #[(.slice A0_0 l0_0.length c0_0), (.slice (some ad247) l0_1.length c0_1)] 53 (0, 0))) ∧ Aside0 (wc.heap[gb246]? = some (.cells #[(.slice Ao33 t239.length co33), (.slice Ao36 t242.length co36)] 53 (0, 0))) ∧ Aside0 (wc.heap[gb248]? = some (.cells #[.int .i64 ((rd_T95 l0_1 x57_3).f0), .int .i64 ((rd_T95 l0_1 x57_3).f1), (.slice A247_2 ((rd_T95 l0_1 x57_3).f2).length c247_2), .bool ((rd_T95 l0_1 x57_3).f3), (.slice A247_4 ((rd_T95 l0_1 x57_3).f4).length c247_4)] 95 (0, 0))) ∧ Aside0 (Below w.heap.size w wc))
 case first =>
  have H := HC47.out
  clear HC47
  by_cases c52 : x57_3 < (t242.length : Int)
  rotate_left
  ·rw [if_neg c52] at H
   exact absurd H (by simp)
  rw [if_pos c52] at H
  have c52b0 : decide (x57_3 < (t242.length : Int)) = true := decide_eq_true c52
  clear c52
  (first | rw [c52b0] | (simp only [i64_w, i32_w]; rw [c52b0]) | skip)
  by_cases c53 : ((rd_T95 l0_1 x57_3).f0) = ((rd_T95 t242 x57_3).f0)
  rotate_left
  ·rw [if_neg c53] at H
   have c53b0 : (((rd_T95 l0_1 x57_3).f0) == ((rd_T95 t242 x57_3).f0)) = false := beq_eq_false_iff_ne.mpr c53
   have c53b1 : (((rd_T95 l0_1 x57_3).f0) != ((rd_T95 t242 x57_3).f0)) = true := bne_iff_ne.mpr c53
   have H' := Aside0.mk H
   clear H
   try go_wp2
   have n0_ : Aside0 (Kd.R k92 92 (((((w48.setCell ⟨gb248, 0, none⟩ (.int .i64 ((rd_T95 l0_1 x57_3).f0))).setCell ⟨gb248, 1, none⟩ (.int .i64 ((rd_T95 l0_1 x57_3).f1))).setCell ⟨gb248, 2, none⟩ (.slice A247_2 ((rd_T95 l0_1 x57_3).f2).length c247_2)).setCell ⟨gb248, 3, none⟩ (.bool ((rd_T95 l0_1 x57_3).f3))).setCell ⟨gb248, 4, none⟩ (.slice A247_4 ((rd_T95 l0_1 x57_3).f4).length c247_4)) w.heap.size (fun _ => True) (.slice Ao33 t239.length co33) t239) := ⟨by exact kr_ (Kd.R_mono (Kd.R_far (p := ⟨gb248, 4, none⟩) (Kd.R_far (p := ⟨gb248, 3, none⟩) (Kd.R_far (p := ⟨gb248, 2, none⟩) (Kd.R_far (p := ⟨gb248, 1, none⟩) (Kd.R_far (p := ⟨gb248, 0, none⟩) (Kd.R_types HO_247000.out BK248.out (by decide)) (fun _ hk => hk.2) (.int .i64 ((rd_T95 l0_1 x57_3).f0))) (fun _ hk => hk.2) (.int .i64 ((rd_T95 l0_1 x57_3).f1))) (fun _ hk => hk.2) (.slice A247_2 ((rd_T95 l0_1 x57_3).f2).length c247_2)) (fun _ hk => hk.2) (.bool ((rd_T95 l0_1 x57_3).f3))) (fun _ hk => hk.2) (.slice A247_4 ((rd_T95 l0_1 x57_3).f4).length c247_4)) (fun _ hk => trivial))⟩
   have n1_ : Aside0 (Kd.S k95 95 (((((w48.setCell ⟨gb248, 0, none⟩ (.int .i64 ((rd_T95 l0_1 x57_3).f0))).setCell ⟨gb248, 1, none⟩ (.int .i64 ((rd_T95 l0_1 x57_3).f1))).setCell ⟨gb248, 2, none⟩ (.slice A247_2 ((rd_T95 l0_1 x57_3).f2).length c247_2)).setCell ⟨gb248, 3, none⟩ (.bool ((rd_T95 l0_1 x57_3).f3))).setCell ⟨gb248, 4, none⟩ (.slice A247_4 ((rd_T95 l0_1 x57_3).f4).length c247_4)) w.heap.size (fun k_ => k_ ≠ gb248) (.slice Ao36 t242.length co36) t242) := ⟨by (with_reducible repeat (first | apply Kd.S_alloc | apply Kd.S_drewN | apply Kd.S_drew)); exact Kd.S_mono (Kd.S_far (p := ⟨gb248, 4, none⟩) (Kd.S_far (p := ⟨gb248, 3, none⟩) (Kd.S_far (p := ⟨gb248, 2, none⟩) (Kd.S_far (p := ⟨gb248, 1, none⟩) (Kd.S_far (p := ⟨gb248, 0, none⟩) (Kd.S_mono HO_247001.out (fun k_ hk => (⟨hk, hk.2⟩ : _ ∧ k_ ≠ gb248))) (fun _ hk => hk.2) (.int .i64 ((rd_T95 l0_1 x57_3).f0))) (fun _ hk => hk.2) (.int .i64 ((rd_T95 l0_1 x57_3).f1))) (fun _ hk => hk.2) (.slice A247_2 ((rd_T95 l0_1 x57_3).f2).length c247_2)) (fun _ hk => hk.2) (.bool ((rd_T95 l0_1 x57_3).f3))) (fun _ hk => hk.2) (.slice A247_4 ((rd_T95 l0_1 x57_3).f4).length c247_4)) (fun _ hk => hk.1.2)⟩
   have n2_ : Aside0 ((((((w48.setCell ⟨gb248, 0, none⟩ (.int .i64 ((rd_T95 l0_1 x57_3).f0))).setCell ⟨gb248, 1, none⟩ (.int .i64 ((rd_T95 l0_1 x57_3).f1))).setCell ⟨gb248, 2, none⟩ (.slice A247_2 ((rd_T95 l0_1 x57_3).f2).length c247_2)).setCell ⟨gb248, 3, none⟩ (.bool ((rd_T95 l0_1 x57_3).f3))).setCell ⟨gb248, 4, none⟩ (.slice A247_4 ((rd_T95 l0_1 x57_3).f4).length c247_4)).heap[gb229]? = some (.cells #[.slice A0_0 l0_0.length c0_0, .slice (some ad247) l0_1.length c0_1] 53 (0, 0))) := ⟨kz_⟩
   have n3_ : Aside0 ((((((w48.setCell ⟨gb248, 0, none⟩ (.int .i64 ((rd_T95 l0_1 x57_3).f0))).setCell ⟨gb248, 1, none⟩ (.int .i64 ((rd_T95 l0_1 x57_3).f1))).setCell ⟨gb248, 2, none⟩ (.slice A247_2 ((rd_T95 l0_1 x57_3).f2).length c247_2)).setCell ⟨gb248, 3, none⟩ (.bool ((rd_T95 l0_1 x57_3).f3))).setCell ⟨gb248, 4, none⟩ (.slice A247_4 ((rd_T95 l0_1 x57_3).f4).length c247_4)).heap[gb246]? = some (.cells #[.slice Ao33 t239.length co33, .slice Ao36 t242.length co36] 53 (0, 0))) := ⟨kz_⟩
   have n4_ : Aside0 ((((((w48.setCell ⟨gb248, 0, none⟩ (.int .i64 ((rd_T95 l0_1 x57_3).f0))).setCell ⟨gb248, 1, none⟩ (.int .i64 ((rd_T95 l0_1 x57_3).f1))).setCell ⟨gb248, 2, none⟩ (.slice A247_2 ((rd_T95 l0_1 x57_3).f2).length c247_2)).setCell ⟨gb248, 3, none⟩ (.bool ((rd_T95 l0_1 x57_3).f3))).setCell ⟨gb248, 4, none⟩ (.slice A247_4 ((rd_T95 l0_1 x57_3).f4).length c247_4)).heap[gb248]? = some (.cells #[.int .i64 ((rd_T95 l0_1 x57_3).f0), .int .i64 ((rd_T95 l0_1 x57_3).f1), .slice A247_2 ((rd_T95 l0_1 x57_3).f2).length c247_2, .bool ((rd_T95 l0_1 x57_3).f3), .slice A247_4 ((rd_T95 l0_1 x57_3).f4).length c247_4] 95 (0, 0))) := ⟨by (with_reducible repeat (first | refine blk_drewN ?_ _ | refine blk_drew ?_ | refine blk_alloc ?_ _)); refine blk_put (cs := #[.int .i64 ((rd_T95 l0_1 x57_3).f0), .int .i64 ((rd_T95 l0_1 x57_3).f1), .slice A247_2 ((rd_T95 l0_1 x57_3).f2).length c247_2, .bool ((rd_T95 l0_1 x57_3).f3), .slice none 0 0]) ?_ 4 _ rfl; (with_reducible repeat (first | refine blk_drewN ?_ _ | refine blk_drew ?_ | refine blk_alloc ?_ _)); refine blk_put (cs := #[.int .i64 ((rd_T95 l0_1 x57_3).f0), .int .i64 ((rd_T95 l0_1 x57_3).f1), .slice A247_2 ((rd_T95 l0_1 x57_3).f2).length c247_2, .bool false, .slice none 0 0]) ?_ 3 _ rfl; (with_reducible repeat (first | refine blk_drewN ?_ _ | refine blk_drew ?_ | refine blk_alloc ?_ _)); refine blk_put (cs := #[.int .i64 ((rd_T95 l0_1 x57_3).f0), .int .i64 ((rd_T95 l0_1 x57_3).f1), .slice none 0 0, .bool false, .slice none 0 0]) ?_ 2 _ rfl; (with_reducible repeat (first | refine blk_drewN ?_ _ | refine blk_drew ?_ | refine blk_alloc ?_ _)); refine blk_put (cs := #[.int .i64 ((rd_T95 l0_1 x57_3).f0), .int .i64 0, .slice none 0 0, .bool false, .slice none 0 0]) ?_ 1 _ rfl; (with_reducible repeat (first | refine blk_drewN ?_ _ | refine blk_drew ?_ | refine blk_alloc ?_ _)); refine blk_put (cs := #[.int .i64 0, .int .i64 0, .slice none 0 0, .bool false, .slice none 0 0]) ?_ 0 _ rfl; exact kb_ BK248.out⟩
   have n5_ : Aside0 (Below w.heap.size w (((((w48.setCell ⟨gb248, 0, none⟩ (.int .i64 ((rd_T95 l0_1 x57_3).f0))).setCell ⟨gb248, 1, none⟩ (.int .i64 ((rd_T95 l0_1 x57_3).f1))).setCell ⟨gb248, 2, none⟩ (.slice A247_2 ((rd_T95 l0_1 x57_3).f2).length c247_2)).setCell ⟨gb248, 3, none⟩ (.bool ((rd_T95 l0_1 x57_3).f3))).setCell ⟨gb248, 4, none⟩ (.slice A247_4 ((rd_T95 l0_1 x57_3).f4).length c247_4))) := ⟨bl_⟩
   (try clear HO_247000)
   (try clear HO_247001)
   (try clear BK229)
   (try clear BK246)
   (try clear BK248)
   (try clear HB)
   generalize (((((w48.setCell ⟨gb248, 0, none⟩ (.int .i64 ((rd_T95 l0_1 x57_3).f0))).setCell ⟨gb248, 1, none⟩ (.int .i64 ((rd_T95 l0_1 x57_3).f1))).setCell ⟨gb248, 2, none⟩ (.slice A247_2 ((rd_T95 l0_1 x57_3).f2).length c247_2)).setCell ⟨gb248, 3, none⟩ (.bool ((rd_T95 l0_1 x57_3).f3))).setCell ⟨gb248, 4, none⟩ (.slice A247_4 ((rd_T95 l0_1 x57_3).f4).length c247_4)) = w65 at n0_ n1_ n2_ n3_ n4_ n5_ ⊢
   have HO_247000 := n0_
   have HO_247001 := n1_
   have BK229 := n2_
   have BK246 := n3_
   have BK248 := n4_
   have HB := n5_
   clear n0_ n1_ n2_ n3_ n4_ n5_
   replace HO_247000 := Aside0.mk (Kd.R_drew HO_247000.out)
   replace HO_247001 := Aside0.mk (Kd.S_drew HO_247001.out)
   replace BK229 := Aside0.mk (blk_drew BK229.out)
   replace BK246 := Aside0.mk (blk_drew BK246.out)
   replace BK248 := Aside0.mk (blk_drew BK248.out)
   replace HB := Aside0.mk (below_drew1 HB.out)
   have p249 : 0 ≤ (x57_3 : Int) := of_decide_eq_true (by first | (with_reducible assumption) | assumption)
   have q249 : x57_3 < (t242.length : Int) := of_decide_eq_true (by first | (with_reducible assumption) | assumption)
   obtain ⟨ad249, A249_2, c249_2, A249_4, c249_4, e249, hx249_0, hx249_1, hx249_2, hx249_3, hx249_4, hl249_2, hi249_2, hl249_4, hi249_4⟩ := at_T95 (Kd.S_reads' HO_247001.out).2.2 x57_3 p249 q249
   cases e249
   obtain ⟨ce249, hce249, hMe249, hcc249⟩ := Kd.S_get HO_247001.out z95 x57_3 p249 (by first | exact q249 | exact of_decide_eq_true (by first | (with_reducible assumption) | assumption) | (have e_ := (Kd.S_reads' HO_247001.out).1; omega))
   obtain ⟨ve249_2, ve249_4, rfl, ge249_2, ge249_4⟩ := k95_openM hMe249
   have hv249_2 := hcc249 2 _ rfl
   rw [add_field _ _ 2 (by omega)] at hv249_2
   replace hv249_2 := Option.some.inj (hv249_2.symm.trans hx249_2)
   rw [hv249_2] at ge249_2
   have HL249_2 := Aside0.mk (show Kd.R k103 103 _ _ _ _ ((rd_T95 t242 x57_3).f2) from ge249_2)
   clear hv249_2 ge249_2
   have hv249_4 := hcc249 4 _ rfl
   rw [add_field _ _ 4 (by omega)] at hv249_4
   replace hv249_4 := Option.some.inj (hv249_4.symm.trans hx249_4)
   rw [hv249_4] at ge249_4
   have HL249_4 := Aside0.mk (show Kd.R (Kd.int .i64) 3 _ _ _ _ ((rd_T95 t242 x57_3).f4) from ge249_4)
   clear hv249_4 ge249_4 hcc249 hce249
   have HR249_2 := Aside0.mk hi249_2
   have HC249_2 := Aside0.mk hl249_2
   clear hi249_2 hl249_2
   have HR249_4 := Aside0.mk hi249_4
   have HC249_4 := Aside0.mk hl249_4
   clear hi249_4 hl249_4
   replace p249 := eq_true p249
   replace q249 := eq_true q249
   refine start_ (n := 39) (S := fun w' => w'.cell? ⟨gb248, 0, none⟩ = some (.int .i64 ((rd_T95 l0_1 x57_3).f0)) ∧ w'.cell? ⟨gb248, 1, none⟩ = some (.int .i64 ((rd_T95 l0_1 x57_3).f1)) ∧ w'.cell? ⟨gb248, 2, none⟩ = some (.slice A247_2 ((rd_T95 l0_1 x57_3).f2).length c247_2) ∧ w'.cell? ⟨gb248, 3, none⟩ = some (.bool ((rd_T95 l0_1 x57_3).f3)) ∧ w'.cell? ⟨gb248, 4, none⟩ = some (.slice A247_4 ((rd_T95 l0_1 x57_3).f4).length c247_4) ∧ w'.cell? ⟨gb246, 0, none⟩ = some (.slice Ao33 t239.length co33) ∧ w'.cell? ⟨gb246, 1, none⟩ = some (.slice (some ad249) t242.length co36) ∧ w'.cell? (ad249.add ((x57_3).toNat * 5)) = some (.int .i64 ((rd_T95 t242 x57_3).f0)) ∧ w'.cell? ⟨(ad249.add ((x57_3).toNat * 5)).block, (ad249.add ((x57_3).toNat * 5)).off + 1, none⟩ = some (.int .i64 ((rd_T95 t242 x57_3).f1)) ∧ w'.cell? ⟨(ad249.add ((x57_3).toNat * 5)).block, (ad249.add ((x57_3).toNat * 5)).off + 2, none⟩ = some (.slice A249_2 ((rd_T95 t242 x57_3).f2).length c249_2) ∧ w'.cell? ⟨(ad249.add ((x57_3).toNat * 5)).block, (ad249.add ((x57_3).toNat * 5)).off + 3, none⟩ = some (.bool ((rd_T95 t242 x57_3).f3)) ∧ w'.cell? ⟨(ad249.add ((x57_3).toNat * 5)).block, (ad249.add ((x57_3).toNat * 5)).off + 4, none⟩ = some (.slice A249_4 ((rd_T95 t242 x57_3).f4).length c249_4)) (ds := []) #[false, false, false, false, false, false, false, false, false, false, false, false, false, false, false, false, false, false, false, false, false, false, false, false, false, false, false, false, false, false, false, false, false, false, false, false, false, false, false] (by kernel_rfl) rfl rfl ⟨bc_ BK248.out 0, bc_ BK248.out 1, bc_ BK248.out 2, bc_ BK248.out 3, bc_ BK248.out 4, bc_ BK246.out 0, bc_ BK246.out 1, hx249_0, hx249_1, hx249_2, hx249_3, hx249_4⟩ (fun hHeld => ?_); refine with_tabW impl_isNet.tab15 impl_isNet.bits15 (fun HT_ HW_ => ?_)
   generalize w65.drew = w66 at HO_247000 HO_247001 BK229 BK246 BK248 HB HL249_2 HL249_4 HR249_2 HR249_4 hx249_0 hx249_1 hx249_2 hx249_3 hx249_4 hHeld ⊢
   refine pu_ 0 (some 62) (h := ?_)
   refine pu_ 2 (some 64) (h := ?_)
   refine pu_ 4 (some 66) (h := ?_)
   refine tk12_ 1 (some 63) (h := ?_)
   refine tk12_ 3 (some 65) (h := ?_)
   refine pu_ 5 (some 67) (h := ?_)
   refine pu_ 6 (some 68) (h := ?_)
   refine tk12_ 7 (some 69) (h := ?_)
   refine pu_ 8 (some 70) (h := ?_)
   refine pu_ 9 (some 71) (h := ?_)
   refine px_ 10 (some 72) (h := ?_)
   refine px_ 11 (some 73) (h := ?_)
   refine px_ 12 (some 74) (h := ?_)
   refine px_ 13 (some 75) (h := ?_)
   refine px_ 14 (some 76) (h := ?_)
   refine px_ 15 (some 77) (h := ?_)
   refine px_ 16 (some 78) (h := ?_)
   refine px_ 17 (some 79) (h := ?_)
   refine px_ 18 (some 80) (h := ?_)
   refine pu_ 19 (some 81) (h := ?_)
   refine pu_ 20 (some 82) (h := ?_)
   refine px_ 21 (some 83) (h := ?_)
   refine px_ 22 (some 84) (h := ?_)
   refine px_ 23 (some 85) (h := ?_)
   refine px_ 24 (some 86) (h := ?_)
   refine px_ 25 (some 87) (h := ?_)
   refine px_ 26 (some 88) (h := ?_)
   refine px_ 27 (some 89) (h := ?_)
   refine px_ 28 (some 90) (h := ?_)
   refine px_ 29 (some 91) (h := ?_)
   refine px_ 30 (some 92) (h := ?_)
   refine px_ 31 (some 93) (h := ?_)
   refine px_ 32 (some 94) (h := ?_)
   refine px_ 33 (some 95) (h := ?_)
   refine px_ 34 (some 96) (h := ?_)
   refine px_ 35 (some 97) (h := ?_)
   refine px_ 36 (some 98) (h := ?_)
   refine px_ 37 (some 99) (h := ?_)
   refine pu_ 38 (some 100) (h := ?_)
   refine done_ (done_of HT_.out (by kernel_rfl)) ?_
   try go_wp2
   go_meet
   case rel => exact ⟨_, (true), (by first | rfl | (simp; done) | (simp [*]; done)), H', ⟨by have := HK1.out; have := HJ28.out; have := HK3.out; first | omega | exact Nat.le_refl _⟩, ⟨by exact kr_ HO_247000.out⟩, ⟨by (with_reducible repeat (first | apply Kd.S_alloc | apply Kd.S_drewN | apply Kd.S_drew)); exact HO_247001.out⟩, ⟨by exact kb_ BK229.out⟩, ⟨by exact kb_ BK246.out⟩, ⟨by exact kb_ BK248.out⟩, ⟨bl_⟩⟩
  rw [if_pos c53] at H
  have c53b0 : (((rd_T95 l0_1 x57_3).f0) == ((rd_T95 t242 x57_3).f0)) = true := beq_iff_eq.mpr c53
  have c53b1 : (((rd_T95 l0_1 x57_3).f0) != ((rd_T95 t242 x57_3).f0)) = false := bne_eq_false_iff_eq.mpr c53
  clear c53
  by_cases c54 : ((rd_T95 l0_1 x57_3).f1) = ((rd_T95 t242 x57_3).f1)
  rotate_left
  ·rw [if_neg c54] at H
   have c54b0 : (((rd_T95 l0_1 x57_3).f1) == ((rd_T95 t242 x57_3).f1)) = false := beq_eq_false_iff_ne.mpr c54
   have c54b1 : (((rd_T95 l0_1 x57_3).f1) != ((rd_T95 t242 x57_3).f1)) = true := bne_iff_ne.mpr c54
   have H' := Aside0.mk H
   clear H
   try go_wp2
   have n0_ : Aside0 (Kd.R k92 92 (((((w48.setCell ⟨gb248, 0, none⟩ (.int .i64 ((rd_T95 l0_1 x57_3).f0))).setCell ⟨gb248, 1, none⟩ (.int .i64 ((rd_T95 l0_1 x57_3).f1))).setCell ⟨gb248, 2, none⟩ (.slice A247_2 ((rd_T95 l0_1 x57_3).f2).length c247_2)).setCell ⟨gb248, 3, none⟩ (.bool ((rd_T95 l0_1 x57_3).f3))).setCell ⟨gb248, 4, none⟩ (.slice A247_4 ((rd_T95 l0_1 x57_3).f4).length c247_4)) w.heap.size (fun _ => True) (.slice Ao33 t239.length co33) t239) := ⟨by exact kr_ (Kd.R_mono (Kd.R_far (p := ⟨gb248, 4, none⟩) (Kd.R_far (p := ⟨gb248, 3, none⟩) (Kd.R_far (p := ⟨gb248, 2, none⟩) (Kd.R_far (p := ⟨gb248, 1, none⟩) (Kd.R_far (p := ⟨gb248, 0, none⟩) (Kd.R_types HO_247000.out BK248.out (by decide)) (fun _ hk => hk.2) (.int .i64 ((rd_T95 l0_1 x57_3).f0))) (fun _ hk => hk.2) (.int .i64 ((rd_T95 l0_1 x57_3).f1))) (fun _ hk => hk.2) (.slice A247_2 ((rd_T95 l0_1 x57_3).f2).length c247_2)) (fun _ hk => hk.2) (.bool ((rd_T95 l0_1 x57_3).f3))) (fun _ hk => hk.2) (.slice A247_4 ((rd_T95 l0_1 x57_3).f4).length c247_4)) (fun _ hk => trivial))⟩
   have n1_ : Aside0 (Kd.S k95 95 (((((w48.setCell ⟨gb248, 0, none⟩ (.int .i64 ((rd_T95 l0_1 x57_3).f0))).setCell ⟨gb248, 1, none⟩ (.int .i64 ((rd_T95 l0_1 x57_3).f1))).setCell ⟨gb248, 2, none⟩ (.slice A247_2 ((rd_T95 l0_1 x57_3).f2).length c247_2)).setCell ⟨gb248, 3, none⟩ (.bool ((rd_T95 l0_1 x57_3).f3))).setCell ⟨gb248, 4, none⟩ (.slice A247_4 ((rd_T95 l0_1 x57_3).f4).length c247_4)) w.heap.size (fun k_ => k_ ≠ gb248) (.slice Ao36 t242.length co36) t242) := ⟨by (with_reducible repeat (first | apply Kd.S_alloc | apply Kd.S_drewN | apply Kd.S_drew)); exact Kd.S_mono (Kd.S_far (p := ⟨gb248, 4, none⟩) (Kd.S_far (p := ⟨gb248, 3, none⟩) (Kd.S_far (p := ⟨gb248, 2, none⟩) (Kd.S_far (p := ⟨gb248, 1, none⟩) (Kd.S_far (p := ⟨gb248, 0, none⟩) (Kd.S_mono HO_247001.out (fun k_ hk => (⟨hk, hk.2⟩ : _ ∧ k_ ≠ gb248))) (fun _ hk => hk.2) (.int .i64 ((rd_T95 l0_1 x57_3).f0))) (fun _ hk => hk.2) (.int .i64 ((rd_T95 l0_1 x57_3).f1))) (fun _ hk => hk.2) (.slice A247_2 ((rd_T95 l0_1 x57_3).f2).length c247_2)) (fun _ hk => hk.2) (.bool ((rd_T95 l0_1 x57_3).f3))) (fun _ hk => hk.2) (.slice A247_4 ((rd_T95 l0_1 x57_3).f4).length c247_4)) (fun _ hk => hk.1.2)⟩
   have n2_ : Aside0 ((((((w48.setCell ⟨gb248, 0, none⟩ (.int .i64 ((rd_T95 l0_1 x57_3).f0))).setCell ⟨gb248, 1, none⟩ (.int .i64 ((rd_T95 l0_1 x57_3).f1))).setCell ⟨gb248, 2, none⟩ (.slice A247_2 ((rd_T95 l0_1 x57_3).f2).length c247_2)).setCell ⟨gb248, 3, none⟩ (.bool ((rd_T95 l0_1 x57_3).f3))).setCell ⟨gb248, 4, none⟩ (.slice A247_4 ((rd_T95 l0_1 x57_3).f4).length c247_4)).heap[gb229]? = some (.cells #[.slice A0_0 l0_0.length c0_0, .slice (some ad247) l0_1.length c0_1] 53 (0, 0))) := ⟨kz_⟩
   have n3_ : Aside0 ((((((w48.setCell ⟨gb248, 0, none⟩ (.int .i64 ((rd_T95 l0_1 x57_3).f0))).setCell ⟨gb248, 1, none⟩ (.int .i64 ((rd_T95 l0_1 x57_3).f1))).setCell ⟨gb248, 2, none⟩ (.slice A247_2 ((rd_T95 l0_1 x57_3).f2).length c247_2)).setCell ⟨gb248, 3, none⟩ (.bool ((rd_T95 l0_1 x57_3).f3))).setCell ⟨gb248, 4, none⟩ (.slice A247_4 ((rd_T95 l0_1 x57_3).f4).length c247_4)).heap[gb246]? = some (.cells #[.slice Ao33 t239.length co33, .slice Ao36 t242.length co36] 53 (0, 0))) := ⟨kz_⟩
   have n4_ : Aside0 ((((((w48.setCell ⟨gb248, 0, none⟩ (.int .i64 ((rd_T95 l0_1 x57_3).f0))).setCell ⟨gb248, 1, none⟩ (.int .i64 ((rd_T95 l0_1 x57_3).f1))).setCell ⟨gb248, 2, none⟩ (.slice A247_2 ((rd_T95 l0_1 x57_3).f2).length c247_2)).setCell ⟨gb248, 3, none⟩ (.bool ((rd_T95 l0_1 x57_3).f3))).setCell ⟨gb248, 4, none⟩ (.slice A247_4 ((rd_T95 l0_1 x57_3).f4).length c247_4)).heap[gb248]? = some (.cells #[.int .i64 ((rd_T95 l0_1 x57_3).f0), .int .i64 ((rd_T95 l0_1 x57_3).f1), .slice A247_2 ((rd_T95 l0_1 x57_3).f2).length c247_2, .bool ((rd_T95 l0_1 x57_3).f3), .slice A247_4 ((rd_T95 l0_1 x57_3).f4).length c247_4] 95 (0, 0))) := ⟨by (with_reducible repeat (first | refine blk_drewN ?_ _ | refine blk_drew ?_ | refine blk_alloc ?_ _)); refine blk_put (cs := #[.int .i64 ((rd_T95 l0_1 x57_3).f0), .int .i64 ((rd_T95 l0_1 x57_3).f1), .slice A247_2 ((rd_T95 l0_1 x57_3).f2).length c247_2, .bool ((rd_T95 l0_1 x57_3).f3), .slice none 0 0]) ?_ 4 _ rfl; (with_reducible repeat (first | refine blk_drewN ?_ _ | refine blk_drew ?_ | refine blk_alloc ?_ _)); refine blk_put (cs := #[.int .i64 ((rd_T95 l0_1 x57_3).f0), .int .i64 ((rd_T95 l0_1 x57_3).f1), .slice A247_2 ((rd_T95 l0_1 x57_3).f2).length c247_2, .bool false, .slice none 0 0]) ?_ 3 _ rfl; (with_reducible repeat (first | refine blk_drewN ?_ _ | refine blk_drew ?_ | refine blk_alloc ?_ _)); refine blk_put (cs := #[.int .i64 ((rd_T95 l0_1 x57_3).f0), .int .i64 ((rd_T95 l0_1 x57_3).f1), .slice none 0 0, .bool false, .slice none 0 0]) ?_ 2 _ rfl; (with_reducible repeat (first | refine blk_drewN ?_ _ | refine blk_drew ?_ | refine blk_alloc ?_ _)); refine blk_put (cs := #[.int .i64 ((rd_T95 l0_1 x57_3).f0), .int .i64 0, .slice none 0 0, .bool false, .slice none 0 0]) ?_ 1 _ rfl; (with_reducible repeat (first | refine blk_drewN ?_ _ | refine blk_drew ?_ | refine blk_alloc ?_ _)); refine blk_put (cs := #[.int .i64 0, .int .i64 0, .slice none 0 0, .bool false, .slice none 0 0]) ?_ 0 _ rfl; exact kb_ BK248.out⟩
   have n5_ : Aside0 (Below w.heap.size w (((((w48.setCell ⟨gb248, 0, none⟩ (.int .i64 ((rd_T95 l0_1 x57_3).f0))).setCell ⟨gb248, 1, none⟩ (.int .i64 ((rd_T95 l0_1 x57_3).f1))).setCell ⟨gb248, 2, none⟩ (.slice A247_2 ((rd_T95 l0_1 x57_3).f2).length c247_2)).setCell ⟨gb248, 3, none⟩ (.bool ((rd_T95 l0_1 x57_3).f3))).setCell ⟨gb248, 4, none⟩ (.slice A247_4 ((rd_T95 l0_1 x57_3).f4).length c247_4))) := ⟨bl_⟩
   (try clear HO_247000)
   (try clear HO_247001)
   (try clear BK229)
   (try clear BK246)
   (try clear BK248)
   (try clear HB)
   generalize (((((w48.setCell ⟨gb248, 0, none⟩ (.int .i64 ((rd_T95 l0_1 x57_3).f0))).setCell ⟨gb248, 1, none⟩ (.int .i64 ((rd_T95 l0_1 x57_3).f1))).setCell ⟨gb248, 2, none⟩ (.slice A247_2 ((rd_T95 l0_1 x57_3).f2).length c247_2)).setCell ⟨gb248, 3, none⟩ (.bool ((rd_T95 l0_1 x57_3).f3))).setCell ⟨gb248, 4, none⟩ (.slice A247_4 ((rd_T95 l0_1 x57_3).f4).length c247_4)) = w63 at n0_ n1_ n2_ n3_ n4_ n5_ ⊢
   have HO_247000 := n0_
   have HO_247001 := n1_
   have BK229 := n2_
   have BK246 := n3_
   have BK248 := n4_
   have HB := n5_
   clear n0_ n1_ n2_ n3_ n4_ n5_
   replace HO_247000 := Aside0.mk (Kd.R_drew HO_247000.out)
   replace HO_247001 := Aside0.mk (Kd.S_drew HO_247001.out)
   replace BK229 := Aside0.mk (blk_drew BK229.out)
   replace BK246 := Aside0.mk (blk_drew BK246.out)
   replace BK248 := Aside0.mk (blk_drew BK248.out)
   replace HB := Aside0.mk (below_drew1 HB.out)
   have p249 : 0 ≤ (x57_3 : Int) := of_decide_eq_true (by first | (with_reducible assumption) | assumption)
   have q249 : x57_3 < (t242.length : Int) := of_decide_eq_true (by first | (with_reducible assumption) | assumption)
   obtain ⟨ad249, A249_2, c249_2, A249_4, c249_4, e249, hx249_0, hx249_1, hx249_2, hx249_3, hx249_4, hl249_2, hi249_2, hl249_4, hi249_4⟩ := at_T95 (Kd.S_reads' HO_247001.out).2.2 x57_3 p249 q249
   cases e249
   obtain ⟨ce249, hce249, hMe249, hcc249⟩ := Kd.S_get HO_247001.out z95 x57_3 p249 (by first | exact q249 | exact of_decide_eq_true (by first | (with_reducible assumption) | assumption) | (have e_ := (Kd.S_reads' HO_247001.out).1; omega))
   obtain ⟨ve249_2, ve249_4, rfl, ge249_2, ge249_4⟩ := k95_openM hMe249
   have hv249_2 := hcc249 2 _ rfl
   rw [add_field _ _ 2 (by omega)] at hv249_2
   replace hv249_2 := Option.some.inj (hv249_2.symm.trans hx249_2)
   rw [hv249_2] at ge249_2
   have HL249_2 := Aside0.mk (show Kd.R k103 103 _ _ _ _ ((rd_T95 t242 x57_3).f2) from ge249_2)
   clear hv249_2 ge249_2
   have hv249_4 := hcc249 4 _ rfl
   rw [add_field _ _ 4 (by omega)] at hv249_4
   replace hv249_4 := Option.some.inj (hv249_4.symm.trans hx249_4)
   rw [hv249_4] at ge249_4
   have HL249_4 := Aside0.mk (show Kd.R (Kd.int .i64) 3 _ _ _ _ ((rd_T95 t242 x57_3).f4) from ge249_4)
   clear hv249_4 ge249_4 hcc249 hce249
   have HR249_2 := Aside0.mk hi249_2
   have HC249_2 := Aside0.mk hl249_2
   clear hi249_2 hl249_2
   have HR249_4 := Aside0.mk hi249_4
   have HC249_4 := Aside0.mk hl249_4
   clear hi249_4 hl249_4
   replace p249 := eq_true p249
   replace q249 := eq_true q249
   have p250 : 0 ≤ (x57_3 : Int) := of_decide_eq_true (by first | (with_reducible assumption) | assumption)
   have q250 : x57_3 < (t242.length : Int) := of_decide_eq_true (by first | (with_reducible assumption) | assumption)
   obtain ⟨ad250, A250_2, c250_2, A250_4, c250_4, e250, hx250_0, hx250_1, hx250_2, hx250_3, hx250_4, hl250_2, hi250_2, hl250_4, hi250_4⟩ := at_T95 (Kd.S_reads' HO_247001.out).2.2 x57_3 p250 q250
   obtain rfl : ad249 = ad250 := (by injection e250)
   obtain ⟨ce250, hce250, hMe250, hcc250⟩ := Kd.S_get HO_247001.out z95 x57_3 p250 (by first | exact q250 | exact of_decide_eq_true (by first | (with_reducible assumption) | assumption) | (have e_ := (Kd.S_reads' HO_247001.out).1; omega))
   obtain ⟨ve250_2, ve250_4, rfl, ge250_2, ge250_4⟩ := k95_openM hMe250
   have hv250_2 := hcc250 2 _ rfl
   rw [add_field _ _ 2 (by omega)] at hv250_2
   replace hv250_2 := Option.some.inj (hv250_2.symm.trans hx250_2)
   rw [hv250_2] at ge250_2
   have HL250_2 := Aside0.mk (show Kd.R k103 103 _ _ _ _ ((rd_T95 t242 x57_3).f2) from ge250_2)
   clear hv250_2 ge250_2
   have hv250_4 := hcc250 4 _ rfl
   rw [add_field _ _ 4 (by omega)] at hv250_4
   replace hv250_4 := Option.some.inj (hv250_4.symm.trans hx250_4)
   rw [hv250_4] at ge250_4
   have HL250_4 := Aside0.mk (show Kd.R (Kd.int .i64) 3 _ _ _ _ ((rd_T95 t242 x57_3).f4) from ge250_4)
   clear hv250_4 ge250_4 hcc250 hce250
   have HR250_2 := Aside0.mk hi250_2
   have HC250_2 := Aside0.mk hl250_2
   clear hi250_2 hl250_2
   have HR250_4 := Aside0.mk hi250_4
   have HC250_4 := Aside0.mk hl250_4
   clear hi250_4 hl250_4
   replace p250 := eq_true p250
   replace q250 := eq_true q250
   have ea_ := Option.some.inj (hx249_2.symm.trans hx250_2)
   injection ea_ with ea_ en_ ec_
   subst ea_
   subst ec_
   clear en_
   have ea_ := Option.some.inj (hx249_4.symm.trans hx250_4)
   injection ea_ with ea_ en_ ec_
   subst ea_
   subst ec_
   clear en_
   refine start_ (n := 39) (S := fun w' => w'.cell? ⟨gb248, 0, none⟩ = some (.int .i64 ((rd_T95 l0_1 x57_3).f0)) ∧ w'.cell? ⟨gb248, 1, none⟩ = some (.int .i64 ((rd_T95 l0_1 x57_3).f1)) ∧ w'.cell? ⟨gb248, 2, none⟩ = some (.slice A247_2 ((rd_T95 l0_1 x57_3).f2).length c247_2) ∧ w'.cell? ⟨gb248, 3, none⟩ = some (.bool ((rd_T95 l0_1 x57_3).f3)) ∧ w'.cell? ⟨gb248, 4, none⟩ = some (.slice A247_4 ((rd_T95 l0_1 x57_3).f4).length c247_4) ∧ w'.cell? ⟨gb246, 0, none⟩ = some (.slice Ao33 t239.length co33) ∧ w'.cell? ⟨gb246, 1, none⟩ = some (.slice (some ad249) t242.length co36) ∧ w'.cell? (ad249.add ((x57_3).toNat * 5)) = some (.int .i64 ((rd_T95 t242 x57_3).f0)) ∧ w'.cell? ⟨(ad249.add ((x57_3).toNat * 5)).block, (ad249.add ((x57_3).toNat * 5)).off + 1, none⟩ = some (.int .i64 ((rd_T95 t242 x57_3).f1)) ∧ w'.cell? ⟨(ad249.add ((x57_3).toNat * 5)).block, (ad249.add ((x57_3).toNat * 5)).off + 2, none⟩ = some (.slice A249_2 ((rd_T95 t242 x57_3).f2).length c249_2) ∧ w'.cell? ⟨(ad249.add ((x57_3).toNat * 5)).block, (ad249.add ((x57_3).toNat * 5)).off + 3, none⟩ = some (.bool ((rd_T95 t242 x57_3).f3)) ∧ w'.cell? ⟨(ad249.add ((x57_3).toNat * 5)).block, (ad249.add ((x57_3).toNat * 5)).off + 4, none⟩ = some (.slice A249_4 ((rd_T95 t242 x57_3).f4).length c249_4) ∧ w'.cell? (ad249.add ((x57_3).toNat * 5)) = some (.int .i64 ((rd_T95 t242 x57_3).f0)) ∧ w'.cell? ⟨(ad249.add ((x57_3).toNat * 5)).block, (ad249.add ((x57_3).toNat * 5)).off + 1, none⟩ = some (.int .i64 ((rd_T95 t242 x57_3).f1)) ∧ w'.cell? ⟨(ad249.add ((x57_3).toNat * 5)).block, (ad249.add ((x57_3).toNat * 5)).off + 2, none⟩ = some (.slice A249_2 ((rd_T95 t242 x57_3).f2).length c249_2) ∧ w'.cell? ⟨(ad249.add ((x57_3).toNat * 5)).block, (ad249.add ((x57_3).toNat * 5)).off + 3, none⟩ = some (.bool ((rd_T95 t242 x57_3).f3)) ∧ w'.cell? ⟨(ad249.add ((x57_3).toNat * 5)).block, (ad249.add ((x57_3).toNat * 5)).off + 4, none⟩ = some (.slice A249_4 ((rd_T95 t242 x57_3).f4).length c249_4)) (ds := []) #[false, false, false, false, false, false, false, false, false, false, false, false, false, false, false, false, false, false, false, false, false, false, false, false, false, false, false, false, false, false, false, false, false, false, false, false, false, false, false] (by kernel_rfl) rfl rfl ⟨bc_ BK248.out 0, bc_ BK248.out 1, bc_ BK248.out 2, bc_ BK248.out 3, bc_ BK248.out 4, bc_ BK246.out 0, bc_ BK246.out 1, hx249_0, hx249_1, hx249_2, hx249_3, hx249_4, hx250_0, hx250_1, hx250_2, hx250_3, hx250_4⟩ (fun hHeld => ?_); refine with_tabW impl_isNet.tab15 impl_isNet.bits15 (fun HT_ HW_ => ?_)
   generalize w63.drew = w64 at HO_247000 HO_247001 BK229 BK246 BK248 HB HL249_2 HL249_4 HL250_2 HL250_4 HR249_2 HR249_4 HR250_2 HR250_4 hx249_0 hx249_1 hx249_2 hx249_3 hx249_4 hx250_0 hx250_1 hx250_2 hx250_3 hx250_4 hHeld ⊢
   refine pu_ 0 (some 62) (h := ?_)
   refine pu_ 2 (some 64) (h := ?_)
   refine pu_ 4 (some 66) (h := ?_)
   refine tk17_ 1 (some 63) (h := ?_)
   refine tk17_ 3 (some 65) (h := ?_)
   refine pu_ 5 (some 67) (h := ?_)
   refine pu_ 6 (some 68) (h := ?_)
   refine tk17_ 7 (some 69) (h := ?_)
   refine pu_ 8 (some 70) (h := ?_)
   refine pu_ 9 (some 71) (h := ?_)
   refine pu_ 10 (some 72) (h := ?_)
   refine pu_ 12 (some 74) (h := ?_)
   refine pu_ 14 (some 76) (h := ?_)
   refine tk17_ 11 (some 73) (h := ?_)
   refine tk17_ 13 (some 75) (h := ?_)
   refine pu_ 15 (some 77) (h := ?_)
   refine pu_ 16 (some 78) (h := ?_)
   refine tk17_ 17 (some 79) (h := ?_)
   refine pu_ 18 (some 80) (h := ?_)
   refine pu_ 19 (some 81) (h := ?_)
   refine pu_ 20 (some 82) (h := ?_)
   refine px_ 21 (some 83) (h := ?_)
   refine px_ 22 (some 84) (h := ?_)
   refine px_ 23 (some 85) (h := ?_)
   refine px_ 24 (some 86) (h := ?_)
   refine px_ 25 (some 87) (h := ?_)
   refine px_ 26 (some 88) (h := ?_)
   refine px_ 27 (some 89) (h := ?_)
   refine px_ 28 (some 90) (h := ?_)
   refine px_ 29 (some 91) (h := ?_)
   refine px_ 30 (some 92) (h := ?_)
   refine px_ 31 (some 93) (h := ?_)
   refine px_ 32 (some 94) (h := ?_)
   refine px_ 33 (some 95) (h := ?_)
   refine px_ 34 (some 96) (h := ?_)
   refine px_ 35 (some 97) (h := ?_)
   refine px_ 36 (some 98) (h := ?_)
   refine px_ 37 (some 99) (h := ?_)
   refine pu_ 38 (some 100) (h := ?_)
   refine done_ (done_of HT_.out (by kernel_rfl)) ?_
   try go_wp2
   go_meet
   case rel => exact ⟨_, (true), (by first | rfl | (simp; done) | (simp [*]; done)), H', ⟨by have := HK1.out; have := HJ28.out; have := HK3.out; first | omega | exact Nat.le_refl _⟩, ⟨by exact kr_ HO_247000.out⟩, ⟨by (with_reducible repeat (first | apply Kd.S_alloc | apply Kd.S_drewN | apply Kd.S_drew)); exact HO_247001.out⟩, ⟨by exact kb_ BK229.out⟩, ⟨by exact kb_ BK246.out⟩, ⟨by exact kb_ BK248.out⟩, ⟨bl_⟩⟩
  rw [if_pos c54] at H
  have c54b0 : (((rd_T95 l0_1 x57_3).f1) == ((rd_T95 t242 x57_3).f1)) = true := beq_iff_eq.mpr c54
  have c54b1 : (((rd_T95 l0_1 x57_3).f1) != ((rd_T95 t242 x57_3).f1)) = false := bne_eq_false_iff_eq.mpr c54
  clear c54
  by_cases c55 : 0 ≤ ((rd_T95 l0_1 x57_3).f0)
  rotate_left
  ·rw [if_neg c55] at H
   exact absurd H (by simp)
  rw [if_pos c55] at H
  have c55b0 : decide (0 ≤ ((rd_T95 l0_1 x57_3).f0)) = true := decide_eq_true c55
  clear c55
  by_cases c56 : ((rd_T95 l0_1 x57_3).f0) < (l0_0.length : Int)
  rotate_left
  ·rw [if_neg c56] at H
   exact absurd H (by simp)
  rw [if_pos c56] at H
  have c56b0 : decide (((rd_T95 l0_1 x57_3).f0) < (l0_0.length : Int)) = true := decide_eq_true c56
  clear c56
  by_cases c57 : 0 ≤ ((rd_T95 l0_1 x57_3).f1)
  rotate_left
  ·rw [if_neg c57] at H
   exact absurd H (by simp)
  rw [if_pos c57] at H
  have c57b0 : decide (0 ≤ ((rd_T95 l0_1 x57_3).f1)) = true := decide_eq_true c57
  clear c57
  by_cases c58 : ((rd_T95 l0_1 x57_3).f1) < (l0_0.length : Int)
  rotate_left
  ·rw [if_neg c58] at H
   exact absurd H (by simp)
  rw [if_pos c58] at H
  have c58b0 : decide (((rd_T95 l0_1 x57_3).f1) < (l0_0.length : Int)) = true := decide_eq_true c58
  clear c58
  replace H := Option.bind_eq_some_iff.mp H
  obtain ⟨t253, A590, H⟩ := H
  replace H : (impl_isNet.j4 k3 l0_1 (l0_1.length : Int) x57_3 (!t253) l0_0 l0_1 t239 t242) = some r := H
  have A59 := Aside0.mk A590
  clear A590
  have H' := Aside0.mk H
  clear H
  try go_wp2
  have n0_ : Aside0 (Kd.R k92 92 (((((w48.setCell ⟨gb248, 0, none⟩ (.int .i64 ((rd_T95 l0_1 x57_3).f0))).setCell ⟨gb248, 1, none⟩ (.int .i64 ((rd_T95 l0_1 x57_3).f1))).setCell ⟨gb248, 2, none⟩ (.slice A247_2 ((rd_T95 l0_1 x57_3).f2).length c247_2)).setCell ⟨gb248, 3, none⟩ (.bool ((rd_T95 l0_1 x57_3).f3))).setCell ⟨gb248, 4, none⟩ (.slice A247_4 ((rd_T95 l0_1 x57_3).f4).length c247_4)) w.heap.size (fun _ => True) (.slice Ao33 t239.length co33) t239) := ⟨by exact kr_ (Kd.R_mono (Kd.R_far (p := ⟨gb248, 4, none⟩) (Kd.R_far (p := ⟨gb248, 3, none⟩) (Kd.R_far (p := ⟨gb248, 2, none⟩) (Kd.R_far (p := ⟨gb248, 1, none⟩) (Kd.R_far (p := ⟨gb248, 0, none⟩) (Kd.R_types HO_247000.out BK248.out (by decide)) (fun _ hk => hk.2) (.int .i64 ((rd_T95 l0_1 x57_3).f0))) (fun _ hk => hk.2) (.int .i64 ((rd_T95 l0_1 x57_3).f1))) (fun _ hk => hk.2) (.slice A247_2 ((rd_T95 l0_1 x57_3).f2).length c247_2)) (fun _ hk => hk.2) (.bool ((rd_T95 l0_1 x57_3).f3))) (fun _ hk => hk.2) (.slice A247_4 ((rd_T95 l0_1 x57_3).f4).length c247_4)) (fun _ hk => trivial))⟩
  have n1_ : Aside0 (Kd.S k95 95 (((((w48.setCell ⟨gb248, 0, none⟩ (.int .i64 ((rd_T95 l0_1 x57_3).f0))).setCell ⟨gb248, 1, none⟩ (.int .i64 ((rd_T95 l0_1 x57_3).f1))).setCell ⟨gb248, 2, none⟩ (.slice A247_2 ((rd_T95 l0_1 x57_3).f2).length c247_2)).setCell ⟨gb248, 3, none⟩ (.bool ((rd_T95 l0_1 x57_3).f3))).setCell ⟨gb248, 4, none⟩ (.slice A247_4 ((rd_T95 l0_1 x57_3).f4).length c247_4)) w.heap.size (fun k_ => k_ ≠ gb248) (.slice Ao36 t242.length co36) t242) := ⟨by (with_reducible repeat (first | apply Kd.S_alloc | apply Kd.S_drewN | apply Kd.S_drew)); exact Kd.S_mono (Kd.S_far (p := ⟨gb248, 4, none⟩) (Kd.S_far (p := ⟨gb248, 3, none⟩) (Kd.S_far (p := ⟨gb248, 2, none⟩) (Kd.S_far (p := ⟨gb248, 1, none⟩) (Kd.S_far (p := ⟨gb248, 0, none⟩) (Kd.S_mono HO_247001.out (fun k_ hk => (⟨hk, hk.2⟩ : _ ∧ k_ ≠ gb248))) (fun _ hk => hk.2) (.int .i64 ((rd_T95 l0_1 x57_3).f0))) (fun _ hk => hk.2) (.int .i64 ((rd_T95 l0_1 x57_3).f1))) (fun _ hk => hk.2) (.slice A247_2 ((rd_T95 l0_1 x57_3).f2).length c247_2)) (fun _ hk => hk.2) (.bool ((rd_T95 l0_1 x57_3).f3))) (fun _ hk => hk.2) (.slice A247_4 ((rd_T95 l0_1 x57_3).f4).length c247_4)) (fun _ hk => hk.1.2)⟩
  have n2_ : Aside0 ((((((w48.setCell ⟨gb248, 0, none⟩ (.int .i64 ((rd_T95 l0_1 x57_3).f0))).setCell ⟨gb248, 1, none⟩ (.int .i64 ((rd_T95 l0_1 x57_3).f1))).setCell ⟨gb248, 2, none⟩ (.slice A247_2 ((rd_T95 l0_1 x57_3).f2).length c247_2)).setCell ⟨gb248, 3, none⟩ (.bool ((rd_T95 l0_1 x57_3).f3))).setCell ⟨gb248, 4, none⟩ (.slice A247_4 ((rd_T95 l0_1 x57_3).f4).length c247_4)).heap[gb229]? = some (.cells #[.slice A0_0 l0_0.length c0_0, .slice (some ad247) l0_1.length c0_1] 53 (0, 0))) := ⟨kz_⟩
  have n3_ : Aside0 ((((((w48.setCell ⟨gb248, 0, none⟩ (.int .i64 ((rd_T95 l0_1 x57_3).f0))).setCell ⟨gb248, 1, none⟩ (.int .i64 ((rd_T95 l0_1 x57_3).f1))).setCell ⟨gb248, 2, none⟩ (.slice A247_2 ((rd_T95 l0_1 x57_3).f2).length c247_2)).setCell ⟨gb248, 3, none⟩ (.bool ((rd_T95 l0_1 x57_3).f3))).setCell ⟨gb248, 4, none⟩ (.slice A247_4 ((rd_T95 l0_1 x57_3).f4).length c247_4)).heap[gb246]? = some (.cells #[.slice Ao33 t239.length co33, .slice Ao36 t242.length co36] 53 (0, 0))) := ⟨kz_⟩
  have n4_ : Aside0 ((((((w48.setCell ⟨gb248, 0, none⟩ (.int .i64 ((rd_T95 l0_1 x57_3).f0))).setCell ⟨gb248, 1, none⟩ (.int .i64 ((rd_T95 l0_1 x57_3).f1))).setCell ⟨gb248, 2, none⟩ (.slice A247_2 ((rd_T95 l0_1 x57_3).f2).length c247_2)).setCell ⟨gb248, 3, none⟩ (.bool ((rd_T95 l0_1 x57_3).f3))).setCell ⟨gb248, 4, none⟩ (.slice A247_4 ((rd_T95 l0_1 x57_3).f4).length c247_4)).heap[gb248]? = some (.cells #[.int .i64 ((rd_T95 l0_1 x57_3).f0), .int .i64 ((rd_T95 l0_1 x57_3).f1), .slice A247_2 ((rd_T95 l0_1 x57_3).f2).length c247_2, .bool ((rd_T95 l0_1 x57_3).f3), .slice A247_4 ((rd_T95 l0_1 x57_3).f4).length c247_4] 95 (0, 0))) := ⟨by (with_reducible repeat (first | refine blk_drewN ?_ _ | refine blk_drew ?_ | refine blk_alloc ?_ _)); refine blk_put (cs := #[.int .i64 ((rd_T95 l0_1 x57_3).f0), .int .i64 ((rd_T95 l0_1 x57_3).f1), .slice A247_2 ((rd_T95 l0_1 x57_3).f2).length c247_2, .bool ((rd_T95 l0_1 x57_3).f3), .slice none 0 0]) ?_ 4 _ rfl; (with_reducible repeat (first | refine blk_drewN ?_ _ | refine blk_drew ?_ | refine blk_alloc ?_ _)); refine blk_put (cs := #[.int .i64 ((rd_T95 l0_1 x57_3).f0), .int .i64 ((rd_T95 l0_1 x57_3).f1), .slice A247_2 ((rd_T95 l0_1 x57_3).f2).length c247_2, .bool false, .slice none 0 0]) ?_ 3 _ rfl; (with_reducible repeat (first | refine blk_drewN ?_ _ | refine blk_drew ?_ | refine blk_alloc ?_ _)); refine blk_put (cs := #[.int .i64 ((rd_T95 l0_1 x57_3).f0), .int .i64 ((rd_T95 l0_1 x57_3).f1), .slice none 0 0, .bool false, .slice none 0 0]) ?_ 2 _ rfl; (with_reducible repeat (first | refine blk_drewN ?_ _ | refine blk_drew ?_ | refine blk_alloc ?_ _)); refine blk_put (cs := #[.int .i64 ((rd_T95 l0_1 x57_3).f0), .int .i64 0, .slice none 0 0, .bool false, .slice none 0 0]) ?_ 1 _ rfl; (with_reducible repeat (first | refine blk_drewN ?_ _ | refine blk_drew ?_ | refine blk_alloc ?_ _)); refine blk_put (cs := #[.int .i64 0, .int .i64 0, .slice none 0 0, .bool false, .slice none 0 0]) ?_ 0 _ rfl; exact kb_ BK248.out⟩
  have n5_ : Aside0 (Below w.heap.size w (((((w48.setCell ⟨gb248, 0, none⟩ (.int .i64 ((rd_T95 l0_1 x57_3).f0))).setCell ⟨gb248, 1, none⟩ (.int .i64 ((rd_T95 l0_1 x57_3).f1))).setCell ⟨gb248, 2, none⟩ (.slice A247_2 ((rd_T95 l0_1 x57_3).f2).length c247_2)).setCell ⟨gb248, 3, none⟩ (.bool ((rd_T95 l0_1 x57_3).f3))).setCell ⟨gb248, 4, none⟩ (.slice A247_4 ((rd_T95 l0_1 x57_3).f4).length c247_4))) := ⟨bl_⟩
  (try clear HO_247000)
  (try clear HO_247001)
  (try clear BK229)
  (try clear BK246)
  (try clear BK248)
  (try clear HB)
  generalize (((((w48.setCell ⟨gb248, 0, none⟩ (.int .i64 ((rd_T95 l0_1 x57_3).f0))).setCell ⟨gb248, 1, none⟩ (.int .i64 ((rd_T95 l0_1 x57_3).f1))).setCell ⟨gb248, 2, none⟩ (.slice A247_2 ((rd_T95 l0_1 x57_3).f2).length c247_2)).setCell ⟨gb248, 3, none⟩ (.bool ((rd_T95 l0_1 x57_3).f3))).setCell ⟨gb248, 4, none⟩ (.slice A247_4 ((rd_T95 l0_1 x57_3).f4).length c247_4)) = w60 at n0_ n1_ n2_ n3_ n4_ n5_ ⊢
  have HO_247000 := n0_
  have HO_247001 := n1_
  have BK229 := n2_
  have BK246 := n3_
  have BK248 := n4_
  have HB := n5_
  clear n0_ n1_ n2_ n3_ n4_ n5_
  replace HO_247000 := Aside0.mk (Kd.R_drew HO_247000.out)
  replace HO_247001 := Aside0.mk (Kd.S_drew HO_247001.out)
  replace BK229 := Aside0.mk (blk_drew BK229.out)
  replace BK246 := Aside0.mk (blk_drew BK246.out)
  replace BK248 := Aside0.mk (blk_drew BK248.out)
  replace HB := Aside0.mk (below_drew1 HB.out)
  have p249 : 0 ≤ (x57_3 : Int) := of_decide_eq_true (by first | (with_reducible assumption) | assumption)
  have q249 : x57_3 < (t242.length : Int) := of_decide_eq_true (by first | (with_reducible assumption) | assumption)
  obtain ⟨ad249, A249_2, c249_2, A249_4, c249_4, e249, hx249_0, hx249_1, hx249_2, hx249_3, hx249_4, hl249_2, hi249_2, hl249_4, hi249_4⟩ := at_T95 (Kd.S_reads' HO_247001.out).2.2 x57_3 p249 q249
  cases e249
  obtain ⟨ce249, hce249, hMe249, hcc249⟩ := Kd.S_get HO_247001.out z95 x57_3 p249 (by first | exact q249 | exact of_decide_eq_true (by first | (with_reducible assumption) | assumption) | (have e_ := (Kd.S_reads' HO_247001.out).1; omega))
  obtain ⟨ve249_2, ve249_4, rfl, ge249_2, ge249_4⟩ := k95_openM hMe249
  have hv249_2 := hcc249 2 _ rfl
  rw [add_field _ _ 2 (by omega)] at hv249_2
  replace hv249_2 := Option.some.inj (hv249_2.symm.trans hx249_2)
  rw [hv249_2] at ge249_2
  have HL249_2 := Aside0.mk (show Kd.R k103 103 _ _ _ _ ((rd_T95 t242 x57_3).f2) from ge249_2)
  clear hv249_2 ge249_2
  have hv249_4 := hcc249 4 _ rfl
  rw [add_field _ _ 4 (by omega)] at hv249_4
  replace hv249_4 := Option.some.inj (hv249_4.symm.trans hx249_4)
  rw [hv249_4] at ge249_4
  have HL249_4 := Aside0.mk (show Kd.R (Kd.int .i64) 3 _ _ _ _ ((rd_T95 t242 x57_3).f4) from ge249_4)
  clear hv249_4 ge249_4 hcc249 hce249
  have HR249_2 := Aside0.mk hi249_2
  have HC249_2 := Aside0.mk hl249_2
  clear hi249_2 hl249_2
  have HR249_4 := Aside0.mk hi249_4
  have HC249_4 := Aside0.mk hl249_4
  clear hi249_4 hl249_4
  replace p249 := eq_true p249
  replace q249 := eq_true q249
  have p250 : 0 ≤ (x57_3 : Int) := of_decide_eq_true (by first | (with_reducible assumption) | assumption)
  have q250 : x57_3 < (t242.length : Int) := of_decide_eq_true (by first | (with_reducible assumption) | assumption)
  obtain ⟨ad250, A250_2, c250_2, A250_4, c250_4, e250, hx250_0, hx250_1, hx250_2, hx250_3, hx250_4, hl250_2, hi250_2, hl250_4, hi250_4⟩ := at_T95 (Kd.S_reads' HO_247001.out).2.2 x57_3 p250 q250
  obtain rfl : ad249 = ad250 := (by injection e250)
  obtain ⟨ce250, hce250, hMe250, hcc250⟩ := Kd.S_get HO_247001.out z95 x57_3 p250 (by first | exact q250 | exact of_decide_eq_true (by first | (with_reducible assumption) | assumption) | (have e_ := (Kd.S_reads' HO_247001.out).1; omega))
  obtain ⟨ve250_2, ve250_4, rfl, ge250_2, ge250_4⟩ := k95_openM hMe250
  have hv250_2 := hcc250 2 _ rfl
  rw [add_field _ _ 2 (by omega)] at hv250_2
  replace hv250_2 := Option.some.inj (hv250_2.symm.trans hx250_2)
  rw [hv250_2] at ge250_2
  have HL250_2 := Aside0.mk (show Kd.R k103 103 _ _ _ _ ((rd_T95 t242 x57_3).f2) from ge250_2)
  clear hv250_2 ge250_2
  have hv250_4 := hcc250 4 _ rfl
  rw [add_field _ _ 4 (by omega)] at hv250_4
  replace hv250_4 := Option.some.inj (hv250_4.symm.trans hx250_4)
  rw [hv250_4] at ge250_4
  have HL250_4 := Aside0.mk (show Kd.R (Kd.int .i64) 3 _ _ _ _ ((rd_T95 t242 x57_3).f4) from ge250_4)
  clear hv250_4 ge250_4 hcc250 hce250
  have HR250_2 := Aside0.mk hi250_2
  have HC250_2 := Aside0.mk hl250_2
  clear hi250_2 hl250_2
  have HR250_4 := Aside0.mk hi250_4
  have HC250_4 := Aside0.mk hl250_4
  clear hi250_4 hl250_4
  replace p250 := eq_true p250
  replace q250 := eq_true q250
  have ea_ := Option.some.inj (hx249_2.symm.trans hx250_2)
  injection ea_ with ea_ en_ ec_
  subst ea_
  subst ec_
  clear en_
  have ea_ := Option.some.inj (hx249_4.symm.trans hx250_4)
  injection ea_ with ea_ en_ ec_
  subst ea_
  subst ec_
  clear en_
  have p251 : 0 ≤ (((rd_T95 l0_1 x57_3).f0) : Int) := of_decide_eq_true (by first | (with_reducible assumption) | assumption)
  have q251 : ((rd_T95 l0_1 x57_3).f0) < (l0_0.length : Int) := of_decide_eq_true (by first | (with_reducible assumption) | assumption)
  obtain ⟨ad251, e251, hx251_0, hx251_1, hx251_2⟩ := at_T92 HR0_0.out ((rd_T95 l0_1 x57_3).f0) p251 q251
  have hw251_2 := hx251_2
  have hw251_1 := hx251_1
  have hw251_0 := hx251_0
  cases e251
  replace hx251_0 := (HB.out.cell (World.block_lt_of_cell? w _ hx251_0)).trans hx251_0
  replace hx251_1 := (HB.out.cell (World.block_lt_of_cell? w _ hx251_1)).trans hx251_1
  replace hx251_2 := (HB.out.cell (World.block_lt_of_cell? w _ hx251_2)).trans hx251_2
  replace p251 := eq_true p251
  replace q251 := eq_true q251
  have p252 : 0 ≤ (((rd_T95 l0_1 x57_3).f1) : Int) := of_decide_eq_true (by first | (with_reducible assumption) | assumption)
  have q252 : ((rd_T95 l0_1 x57_3).f1) < (l0_0.length : Int) := of_decide_eq_true (by first | (with_reducible assumption) | assumption)
  obtain ⟨ad252, e252, hx252_0, hx252_1, hx252_2⟩ := at_T92 HR0_0.out ((rd_T95 l0_1 x57_3).f1) p252 q252
  have hw252_2 := hx252_2
  have hw252_1 := hx252_1
  have hw252_0 := hx252_0
  obtain rfl : ad251 = ad252 := (by injection e252)
  replace hx252_0 := (HB.out.cell (World.block_lt_of_cell? w _ hx252_0)).trans hx252_0
  replace hx252_1 := (HB.out.cell (World.block_lt_of_cell? w _ hx252_1)).trans hx252_1
  replace hx252_2 := (HB.out.cell (World.block_lt_of_cell? w _ hx252_2)).trans hx252_2
  replace p252 := eq_true p252
  replace q252 := eq_true q252
  refine start_ (n := 39) (S := fun w' => w'.cell? ⟨gb248, 0, none⟩ = some (.int .i64 ((rd_T95 l0_1 x57_3).f0)) ∧ w'.cell? ⟨gb248, 1, none⟩ = some (.int .i64 ((rd_T95 l0_1 x57_3).f1)) ∧ w'.cell? ⟨gb248, 2, none⟩ = some (.slice A247_2 ((rd_T95 l0_1 x57_3).f2).length c247_2) ∧ w'.cell? ⟨gb248, 3, none⟩ = some (.bool ((rd_T95 l0_1 x57_3).f3)) ∧ w'.cell? ⟨gb248, 4, none⟩ = some (.slice A247_4 ((rd_T95 l0_1 x57_3).f4).length c247_4) ∧ w'.cell? ⟨gb246, 0, none⟩ = some (.slice Ao33 t239.length co33) ∧ w'.cell? ⟨gb246, 1, none⟩ = some (.slice (some ad249) t242.length co36) ∧ w'.cell? ⟨gb229, 0, none⟩ = some (.slice (some ad251) l0_0.length c0_0) ∧ w'.cell? ⟨gb229, 1, none⟩ = some (.slice (some ad247) l0_1.length c0_1) ∧ w'.cell? (ad249.add ((x57_3).toNat * 5)) = some (.int .i64 ((rd_T95 t242 x57_3).f0)) ∧ w'.cell? ⟨(ad249.add ((x57_3).toNat * 5)).block, (ad249.add ((x57_3).toNat * 5)).off + 1, none⟩ = some (.int .i64 ((rd_T95 t242 x57_3).f1)) ∧ w'.cell? ⟨(ad249.add ((x57_3).toNat * 5)).block, (ad249.add ((x57_3).toNat * 5)).off + 2, none⟩ = some (.slice A249_2 ((rd_T95 t242 x57_3).f2).length c249_2) ∧ w'.cell? ⟨(ad249.add ((x57_3).toNat * 5)).block, (ad249.add ((x57_3).toNat * 5)).off + 3, none⟩ = some (.bool ((rd_T95 t242 x57_3).f3)) ∧ w'.cell? ⟨(ad249.add ((x57_3).toNat * 5)).block, (ad249.add ((x57_3).toNat * 5)).off + 4, none⟩ = some (.slice A249_4 ((rd_T95 t242 x57_3).f4).length c249_4) ∧ w'.cell? (ad249.add ((x57_3).toNat * 5)) = some (.int .i64 ((rd_T95 t242 x57_3).f0)) ∧ w'.cell? ⟨(ad249.add ((x57_3).toNat * 5)).block, (ad249.add ((x57_3).toNat * 5)).off + 1, none⟩ = some (.int .i64 ((rd_T95 t242 x57_3).f1)) ∧ w'.cell? ⟨(ad249.add ((x57_3).toNat * 5)).block, (ad249.add ((x57_3).toNat * 5)).off + 2, none⟩ = some (.slice A249_2 ((rd_T95 t242 x57_3).f2).length c249_2) ∧ w'.cell? ⟨(ad249.add ((x57_3).toNat * 5)).block, (ad249.add ((x57_3).toNat * 5)).off + 3, none⟩ = some (.bool ((rd_T95 t242 x57_3).f3)) ∧ w'.cell? ⟨(ad249.add ((x57_3).toNat * 5)).block, (ad249.add ((x57_3).toNat * 5)).off + 4, none⟩ = some (.slice A249_4 ((rd_T95 t242 x57_3).f4).length c249_4) ∧ w'.cell? (ad251.add ((((rd_T95 l0_1 x57_3).f0)).toNat * 3)) = some (.int .i64 ((rd_T92 l0_0 ((rd_T95 l0_1 x57_3).f0)).f0)) ∧ w'.cell? ⟨(ad251.add ((((rd_T95 l0_1 x57_3).f0)).toNat * 3)).block, (ad251.add ((((rd_T95 l0_1 x57_3).f0)).toNat * 3)).off + 1, none⟩ = some (.bool ((rd_T92 l0_0 ((rd_T95 l0_1 x57_3).f0)).f1)) ∧ w'.cell? ⟨(ad251.add ((((rd_T95 l0_1 x57_3).f0)).toNat * 3)).block, (ad251.add ((((rd_T95 l0_1 x57_3).f0)).toNat * 3)).off + 2, none⟩ = some (.int .i64 ((rd_T92 l0_0 ((rd_T95 l0_1 x57_3).f0)).f2)) ∧ w'.cell? (ad251.add ((((rd_T95 l0_1 x57_3).f1)).toNat * 3)) = some (.int .i64 ((rd_T92 l0_0 ((rd_T95 l0_1 x57_3).f1)).f0)) ∧ w'.cell? ⟨(ad251.add ((((rd_T95 l0_1 x57_3).f1)).toNat * 3)).block, (ad251.add ((((rd_T95 l0_1 x57_3).f1)).toNat * 3)).off + 1, none⟩ = some (.bool ((rd_T92 l0_0 ((rd_T95 l0_1 x57_3).f1)).f1)) ∧ w'.cell? ⟨(ad251.add ((((rd_T95 l0_1 x57_3).f1)).toNat * 3)).block, (ad251.add ((((rd_T95 l0_1 x57_3).f1)).toNat * 3)).off + 2, none⟩ = some (.int .i64 ((rd_T92 l0_0 ((rd_T95 l0_1 x57_3).f1)).f2))) (ds := []) #[false, false, false, false, false, false, false, false, false, false, false, false, false, false, false, false, false, false, false, false, false, false, false, false, false, false, false, false, false, false, false, false, false, false, false, false, false, false, false] (by kernel_rfl) rfl rfl ⟨bc_ BK248.out 0, bc_ BK248.out 1, bc_ BK248.out 2, bc_ BK248.out 3, bc_ BK248.out 4, bc_ BK246.out 0, bc_ BK246.out 1, bc_ BK229.out 0, bc_ BK229.out 1, hx249_0, hx249_1, hx249_2, hx249_3, hx249_4, hx250_0, hx250_1, hx250_2, hx250_3, hx250_4, ((HB.out.cell (World.block_lt_of_cell? w _ hw251_0)).trans hw251_0), ((HB.out.cell (World.block_lt_of_cell? w _ hw251_1)).trans hw251_1), ((HB.out.cell (World.block_lt_of_cell? w _ hw251_2)).trans hw251_2), ((HB.out.cell (World.block_lt_of_cell? w _ hw252_0)).trans hw252_0), ((HB.out.cell (World.block_lt_of_cell? w _ hw252_1)).trans hw252_1), ((HB.out.cell (World.block_lt_of_cell? w _ hw252_2)).trans hw252_2)⟩ (fun hHeld => ?_); refine with_tabW impl_isNet.tab15 impl_isNet.bits15 (fun HT_ HW_ => ?_)
  generalize w60.drew = w61 at HO_247000 HO_247001 BK229 BK246 BK248 HB HL249_2 HL249_4 HL250_2 HL250_4 HR249_2 HR249_4 HR250_2 HR250_4 hx249_0 hx249_1 hx249_2 hx249_3 hx249_4 hx250_0 hx250_1 hx250_2 hx250_3 hx250_4 hx251_0 hx251_1 hx251_2 hx252_0 hx252_1 hx252_2 hHeld ⊢
  refine pu_ 0 (some 62) (h := ?_)
  refine pu_ 2 (some 64) (h := ?_)
  refine pu_ 4 (some 66) (h := ?_)
  refine tk25_ 1 (some 63) (h := ?_)
  refine tk25_ 3 (some 65) (h := ?_)
  refine pu_ 5 (some 67) (h := ?_)
  refine pu_ 6 (some 68) (h := ?_)
  refine tk25_ 7 (some 69) (h := ?_)
  refine pu_ 8 (some 70) (h := ?_)
  refine pu_ 9 (some 71) (h := ?_)
  refine pu_ 10 (some 72) (h := ?_)
  refine pu_ 12 (some 74) (h := ?_)
  refine pu_ 14 (some 76) (h := ?_)
  refine tk25_ 11 (some 73) (h := ?_)
  refine tk25_ 13 (some 75) (h := ?_)
  refine pu_ 15 (some 77) (h := ?_)
  refine pu_ 16 (some 78) (h := ?_)
  refine tk25_ 17 (some 79) (h := ?_)
  refine pu_ 18 (some 80) (h := ?_)
  refine pu_ 19 (some 81) (h := ?_)
  refine pu_ 20 (some 82) (h := ?_)
  refine pu_ 22 (some 84) (h := ?_)
  refine pu_ 24 (some 86) (h := ?_)
  refine pu_ 29 (some 91) (h := ?_)
  refine pu_ 31 (some 93) (h := ?_)
  refine tk25_ 21 (some 83) (h := ?_)
  refine tk25_ 23 (some 85) (h := ?_)
  refine tk25_ 25 (some 87) (h := ?_)
  refine pu_ 26 (some 88) (h := ?_)
  refine pu_ 27 (some 89) (h := ?_)
  refine tk25_ 28 (some 90) (h := ?_)
  refine tk25_ 30 (some 92) (h := ?_)
  refine tk25_ 32 (some 94) (h := ?_)
  refine pu_ 33 (some 95) (h := ?_)
  refine pu_ 34 (some 96) (h := ?_)
  refine tk25_ 35 (some 97) (h := ?_)
  refine on_ 36 (some 98) (h := fun K hK => ?_)
  refine goes_ Try.func97 (by kernel_rfl) rfl #[.agg #[.int .i64 ((rd_T95 l0_1 x57_3).f0), .int .i64 ((rd_T95 l0_1 x57_3).f1), .slice A247_2 ((rd_T95 l0_1 x57_3).f2).length c247_2, .bool ((rd_T95 l0_1 x57_3).f3), .slice A247_4 ((rd_T95 l0_1 x57_3).f4).length c247_4], .bool ((rd_T92 l0_0 ((rd_T95 l0_1 x57_3).f0)).f1), .bool ((rd_T92 l0_0 ((rd_T95 l0_1 x57_3).f1)).f1)] (by rfl) rfl rfl nc_ ?_
  with_reducible refine (impl_isWay.calls k3 ((rd_T95 l0_1 x57_3).f0) ((rd_T95 l0_1 x57_3).f1) _ _ ((rd_T95 l0_1 x57_3).f2) ((rd_T95 l0_1 x57_3).f3) _ _ ((rd_T95 l0_1 x57_3).f4) ((rd_T92 l0_0 ((rd_T95 l0_1 x57_3).f0)).f1) ((rd_T92 l0_0 ((rd_T95 l0_1 x57_3).f1)).f1) t253 _ ?side1 ?side2 ?side3 ?side4 A59.out).mono ?_
  (case side1 => exact kc_ (Kd.C_below HR247_2.out HB.out))
  (case side2 => exact HC247_2.out)
  (case side3 => exact kc_ (Kd.C_below HR247_4.out HB.out))
  (case side4 => exact HC247_4.out)
  rintro e w62 ⟨rfl, hb⟩
  have HS9_ := (hb.cell (World.block_lt_of_cell? _ _ (hHeld.2.2.2.2.2.2.2.2.2.1))).trans (hHeld.2.2.2.2.2.2.2.2.2.1)
  have HS10_ := (hb.cell (World.block_lt_of_cell? _ _ (hHeld.2.2.2.2.2.2.2.2.2.2.1))).trans (hHeld.2.2.2.2.2.2.2.2.2.2.1)
  have HS11_ := (hb.cell (World.block_lt_of_cell? _ _ (hHeld.2.2.2.2.2.2.2.2.2.2.2.1))).trans (hHeld.2.2.2.2.2.2.2.2.2.2.2.1)
  have HS12_ := (hb.cell (World.block_lt_of_cell? _ _ (hHeld.2.2.2.2.2.2.2.2.2.2.2.2.1))).trans (hHeld.2.2.2.2.2.2.2.2.2.2.2.2.1)
  have HS13_ := (hb.cell (World.block_lt_of_cell? _ _ (hHeld.2.2.2.2.2.2.2.2.2.2.2.2.2.1))).trans (hHeld.2.2.2.2.2.2.2.2.2.2.2.2.2.1)
  have HS14_ := (hb.cell (World.block_lt_of_cell? _ _ (hHeld.2.2.2.2.2.2.2.2.2.2.2.2.2.2.1))).trans (hHeld.2.2.2.2.2.2.2.2.2.2.2.2.2.2.1)
  have HS15_ := (hb.cell (World.block_lt_of_cell? _ _ (hHeld.2.2.2.2.2.2.2.2.2.2.2.2.2.2.2.1))).trans (hHeld.2.2.2.2.2.2.2.2.2.2.2.2.2.2.2.1)
  have HS16_ := (hb.cell (World.block_lt_of_cell? _ _ (hHeld.2.2.2.2.2.2.2.2.2.2.2.2.2.2.2.2.1))).trans (hHeld.2.2.2.2.2.2.2.2.2.2.2.2.2.2.2.2.1)
  have HS17_ := (hb.cell (World.block_lt_of_cell? _ _ (hHeld.2.2.2.2.2.2.2.2.2.2.2.2.2.2.2.2.2.1))).trans (hHeld.2.2.2.2.2.2.2.2.2.2.2.2.2.2.2.2.2.1)
  have HS18_ := (hb.cell (World.block_lt_of_cell? _ _ (hHeld.2.2.2.2.2.2.2.2.2.2.2.2.2.2.2.2.2.2.1))).trans (hHeld.2.2.2.2.2.2.2.2.2.2.2.2.2.2.2.2.2.2.1)
  refine ⟨_, rfl, ?_⟩
  replace HO_247000 := rb_ HO_247000 hb
  replace HO_247001 := Aside0.mk (Kd.S_below (by (with_reducible repeat (first | apply Kd.S_alloc | apply Kd.S_drewN | apply Kd.S_drew)); exact HO_247001.out) hb)
  replace HL249_2 := rb_ HL249_2 hb
  replace HL249_4 := rb_ HL249_4 hb
  replace HL250_2 := rb_ HL250_2 hb
  replace HL250_4 := rb_ HL250_4 hb
  replace BK229 := bb_ BK229 hb
  replace BK246 := bb_ BK246 hb
  replace BK248 := bb_ BK248 hb
  replace HR249_2 := Aside0.mk (Kd.C_below (by repeat (first | (with_reducible exact HR249_2.out) | (with_reducible refine Kd.C_alloc ?_ _) | (with_reducible refine Kd.C_drewN ?_ _) | (with_reducible refine Kd.C_drew ?_) | exact HR249_2.out)) hb)
  replace HR249_4 := Aside0.mk (Kd.C_below (by repeat (first | (with_reducible exact HR249_4.out) | (with_reducible refine Kd.C_alloc ?_ _) | (with_reducible refine Kd.C_drewN ?_ _) | (with_reducible refine Kd.C_drew ?_) | exact HR249_4.out)) hb)
  replace HR250_2 := Aside0.mk (Kd.C_below (by repeat (first | (with_reducible exact HR250_2.out) | (with_reducible refine Kd.C_alloc ?_ _) | (with_reducible refine Kd.C_drewN ?_ _) | (with_reducible refine Kd.C_drew ?_) | exact HR250_2.out)) hb)
  replace HR250_4 := Aside0.mk (Kd.C_below (by repeat (first | (with_reducible exact HR250_4.out) | (with_reducible refine Kd.C_alloc ?_ _) | (with_reducible refine Kd.C_drewN ?_ _) | (with_reducible refine Kd.C_drew ?_) | exact HR250_4.out)) hb)
  replace HB := Aside0.mk (below_step bl_ hb)
  clear hb
  refine hK.out _ _ ⟨bc_ BK248.out 0, bc_ BK248.out 1, bc_ BK248.out 2, bc_ BK248.out 3, bc_ BK248.out 4, bc_ BK246.out 0, bc_ BK246.out 1, bc_ BK229.out 0, bc_ BK229.out 1, HS9_, HS10_, HS11_, HS12_, HS13_, HS14_, HS15_, HS16_, HS17_, HS18_, ((HB.out.cell (World.block_lt_of_cell? w _ hw251_0)).trans hw251_0), ((HB.out.cell (World.block_lt_of_cell? w _ hw251_1)).trans hw251_1), ((HB.out.cell (World.block_lt_of_cell? w _ hw251_2)).trans hw251_2), ((HB.out.cell (World.block_lt_of_cell? w _ hw252_0)).trans hw252_0), ((HB.out.cell (World.block_lt_of_cell? w _ hw252_1)).trans hw252_1), ((HB.out.cell (World.block_lt_of_cell? w _ hw252_2)).trans hw252_2)⟩ (fun hHeld => ?_)
  clear hK K
  refine norm_ nn_ ?_
  refine pu_ 37 (some 99) (h := ?_)
  refine pu_ 38 (some 100) (h := ?_)
  refine done_ (done_of HT_.out (by kernel_rfl)) ?_
  try go_wp2
  go_meet
  case rel => exact ⟨_, (!t253), (by first | rfl | (simp; done) | (simp [*]; done)), H', ⟨by have := HK1.out; have := HJ28.out; have := HK3.out; first | omega | exact Nat.le_refl _⟩, ⟨by exact kr_ HO_247000.out⟩, ⟨by (with_reducible repeat (first | apply Kd.S_alloc | apply Kd.S_drewN | apply Kd.S_drew)); exact HO_247001.out⟩, ⟨by exact kb_ BK229.out⟩, ⟨by exact kb_ BK246.out⟩, ⟨by exact kb_ BK248.out⟩, ⟨bl_⟩⟩
 clear HC47
 try clear c2
 try clear p2
 try clear q2
 try clear hx2
 try clear c5
 try clear c24
 try clear p24
 try clear q24
 try clear hx24
 try clear c25
 try clear p25
 try clear q25
 try clear hx25
 try clear c52
 try clear c53
 try clear c53b0
 try clear c53b1
 try clear hx249_0
 try clear hx249_1
 try clear hx249_2
 try clear hx249_3
 try clear hx249_4
 try clear hx250_0
 try clear hx250_1
 try clear hx250_2
 try clear hx250_3
 try clear hx250_4
 try clear p249
 try clear p250
 try clear q249
 try clear q250
 obtain ⟨kq, x100_46, rfl, HA, HJ46, HO_247000, HO_247001, BK229, BK246, BK248, HB⟩ := hcut
 cases kq with
 | zero => exact absurd HA.out (by simp [impl_isNet.j4])
 | succ kj46 => ?_
 have H := HA.out
 clear HA
 simp only [impl_isNet.j4] at H
 by_cases c67 : x100_46 = true
 ·subst c67
  have H1 : (some false) = some r := by rw [if_pos rfl] at H; exact H
  clear H
  have H := H1
  clear H1
  obtain rfl := Option.some.inj H
  go_wp2
  go_ret
  exact ⟨ng_, bl_⟩
 replace c67 := Bool.eq_false_iff.mpr c67
 subst c67
 have H1 : (impl_isNet.l1 kj46 l0_1 (l0_1.length : Int) (wrap64 (x57_3 + 1)) l0_0 l0_1 t239 t242) = some r := by rw [if_neg (show ¬ (false = true) by decide)] at H; exact H
 clear H
 have H := H1
 clear H1
 have H' := Aside0.mk H
 clear H
 go_wp2
 go_roundg kj46
 case measure => have := HK1.out; have := HJ28.out; have := HK3.out; have := HJ46.out; omega
 case rel => exact ⟨(wrap64 (x57_3 + 1)), (by first | rfl | (simp; done) | (simp [*]; done)), H', ⟨by have := HK1.out; have := HJ28.out; have := HK3.out; have := HJ46.out; omega⟩, ⟨by exact kr_ HO_247000.out⟩, ⟨by (with_reducible repeat (first | apply Kd.S_alloc | apply Kd.S_drewN | apply Kd.S_drew)); exact Kd.S_mono HO_247001.out (fun _ hk => trivial)⟩, ⟨by exact kb_ BK229.out⟩, ⟨by exact kb_ BK246.out⟩, ⟨bl_⟩⟩

end Go.Proofs.Ytipfikmbldgliaa.PNX
