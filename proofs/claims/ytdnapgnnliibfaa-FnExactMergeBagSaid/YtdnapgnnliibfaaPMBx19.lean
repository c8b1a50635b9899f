/- What this text proves: the machine calls of these functions return what the plain functions say. Conditions: as each theorem says. Printed by a program of this session out of the translation. -/
import Derived.Test.YtdnapgnnliibfaaPMBx0
import Derived.Test.YtdnapgnnliibfaaPMBx3
namespace Go.Proofs.Ytdnapgnnliibfaa.PMB
open Go.RowKit Go.Proofs.YtdnapgnnliibfaaW.PrintWords Go.Proofs.YtdnapgnnliibfaaW.PrintLast Go.Proofs.YtdnapgnnliibfaaW.PrintMore
attribute [local go_sem] max2_int min2_int max_two min_two max_three min_three max_four min_four   -- for this text's walks alone
set_option linter.unusedVariables false
set_option linter.unusedSimpArgs false

/-! ### spec_l14Put: function 32 -/
def spec_l14Put.l0 : Nat → List (S48) → Int → ByteArray → Int → Int → Option ((List (S48)))
 | 0, _, _, _, _, _ => none
 | k + 1, x0, x5, x459000, x459001, x459002 => if x5 < (x0.length : Int) then (if 0 ≤ x5 then ((spec_l14Less.f ((rd_T48 x0 x5).f0) ((rd_T48 x0 x5).f1) ((rd_T48 x0 x5).f2) x459000 x459001 x459002).bind fun t460 => (if t460 = true then (spec_l14Put.l0 k x0 (wrap64 (x5 + 1)) x459000 x459001 x459002) else (if x5 ≤ (x0.length : Int) then ((some (x0.take (x5 : Int).toNat : List (S48))).bind fun y461 => (if ([] : List (S48)).length + y461.length < 4398046511104 then ((some (([] : List (S48)) ++ y461 : List (S48))).bind fun y465 => (if y465.length < 4398046511104 then ((some (y465 ++ [(⟨x459000, x459001, x459002⟩ : S48)] : List (S48))).bind fun y468 => ((spec_l14Same.f ((rd_T48 x0 x5).f0) ((rd_T48 x0 x5).f1) ((rd_T48 x0 x5).f2) x459000 x459001 x459002).bind fun t472 => (if t472 = true then (if 0 ≤ (wrap64 (x5 + 1)) then (if (wrap64 (x5 + 1)) ≤ (x0.length : Int) then ((some (x0.drop ((wrap64 (x5 + 1)) : Int).toNat : List (S48))).bind fun y473 => (if y468.length + y473.length < 4398046511104 then (some (y468 ++ y473)) else (none))) else (none)) else (none)) else ((some (x0.drop (x5 : Int).toNat : List (S48))).bind fun y480 => (if y468.length + y480.length < 4398046511104 then (some (y468 ++ y480)) else (none)))))) else (none))) else (none))) else (none)))) else (none)) else (if 0 ≤ x5 then (if x5 ≤ (x0.length : Int) then ((some (x0.take (x5 : Int).toNat : List (S48))).bind fun y487 => (if ([] : List (S48)).length + y487.length < 4398046511104 then ((some (([] : List (S48)) ++ y487 : List (S48))).bind fun y491 => (if y491.length < 4398046511104 then ((some (y491 ++ [(⟨x459000, x459001, x459002⟩ : S48)] : List (S48))).bind fun y494 => ((some (x0.drop (x5 : Int).toNat : List (S48))).bind fun y497 => (if y494.length + y497.length < 4398046511104 then (some (y494 ++ y497)) else (none)))) else (none))) else (none))) else (none)) else (none))
def spec_l14Put.f (k : Nat) (l0 : List (S48)) (a1_0 : ByteArray) (a1_1 : Int) (a1_2 : Int) : Option ((List (S48))) := spec_l14Put.l0 k l0 0 a1_0 a1_1 a1_2
theorem spec_l14Put.mono_l : ∀ k, (∀ y0 y1 y2 y3 y4, LeO (spec_l14Put.l0 k y0 y1 y2 y3 y4) (spec_l14Put.l0 (k + 1) y0 y1 y2 y3 y4))
 | 0 => fun _ _ _ _ _ r h => by simp [spec_l14Put.l0] at h
 | k + 1 => by
  have ih0 := spec_l14Put.mono_l k
  ·intro y0 y1 y2 y3 y4
   unfold spec_l14Put.l0
   repeat' first
   | (with_reducible exact ih0 _ _ _ _ _)
   | (with_reducible exact LeO.refl _)
   | (with_reducible exact LeO.none _)
   | (with_reducible refine LeO.ite ?_ ?_)
   | (with_reducible refine LeO.bind ?_ (fun _ => ?_))
   | exact ih0 _ _ _ _ _
   | exact LeO.none _
   | refine LeO.ite ?_ ?_
   | refine LeO.bind ?_ (fun _ => ?_)
theorem spec_l14Put.mono : ∀ a0 a1 a2 a3 k, LeO (spec_l14Put.f k a0 a1 a2 a3) (spec_l14Put.f (k + 1) a0 a1 a2 a3) := by
 intro a0 a1 a2 a3 k
 have ih0 := spec_l14Put.mono_l k
 unfold spec_l14Put.f
 repeat' first
   | (with_reducible exact ih0 _ _ _ _ _)
   | (with_reducible exact LeO.refl _)
   | (with_reducible exact LeO.none _)
   | (with_reducible refine LeO.ite ?_ ?_)
   | (with_reducible refine LeO.bind ?_ (fun _ => ?_))
   | exact ih0 _ _ _ _ _
   | exact LeO.none _
   | refine LeO.ite ?_ ?_
   | refine LeO.bind ?_ (fun _ => ?_)
def spec_l14Put.T2 : Bool × List (List Nat × List Nat) := (true, [([], []), ([], []), ([1], [1]), ([0, 2], [0, 2]), ([3], [3]), ([4], [4]), ([4], [4]), ([5, 6, 4], [4, 5, 6]), ([7, 4], [4, 7]), ([4], [4]), ([8, 9, 4, 4], [4, 8, 9]), ([4, 10], [4, 10])])
def spec_l14Put.B2 : List Nat := [0, 0, 2, 7, 15, 31, 31, 127, 255, 31, 1023, 2047]
theorem spec_l14Put.tab2 : rtab .any (opsOf Try.f32 2) = spec_l14Put.T2 := by kernel_rfl
theorem spec_l14Put.bits2 : waitsOk spec_l14Put.T2.2 spec_l14Put.B2 = true := by kernel_rfl
def spec_l14Put.T7 : Bool × List (List Nat × List Nat) := (true, [([], []), ([], []), ([1], [1]), ([0, 2], [0, 2]), ([3], [3]), ([4], [4]), ([4], [4]), ([5, 6, 4], [4, 5, 6]), ([7, 4], [4, 7]), ([4], [4]), ([8, 9, 4, 4], [4, 8, 9]), ([4, 10], [4, 10])])
def spec_l14Put.B7 : List Nat := [0, 0, 2, 7, 15, 31, 31, 127, 255, 31, 1023, 2047]
theorem spec_l14Put.tab7 : rtab .any (opsOf Try.f32 7) = spec_l14Put.T7 := by kernel_rfl
theorem spec_l14Put.bits7 : waitsOk spec_l14Put.T7.2 spec_l14Put.B7 = true := by kernel_rfl
set_option maxHeartbeats 8000000 in
set_option maxRecDepth 100000 in
theorem spec_l14Put.calls (k : Nat) (A0 : Option Addr) (c0 : Nat) (l0 : List (S48)) (a1_0 : ByteArray) (a1_1 : Int) (a1_2 : Int) (r : List (S48)) (w : World) (hr0 : Kd.C k48 w A0 l0.length l0) (hc0 : l0.length ≤ c0) (h : spec_l14Put.f k l0 a1_0 a1_1 a1_2 = some r) :
  Calls Try.prog 32 #[.slice A0 l0.length c0, .agg #[.string a1_0, .int .i64 a1_1, .int .i64 a1_2]] w fun e w' => ∃ v0_ : Value, e = .returned (v0_) ∧ Kd.R k48 48 w' w.heap.size (fun _ => True) v0_ r ∧ Below w.heap.size w w' := by
 have hu48 := Try.underlying48
 have HR0 := Aside0.mk hr0
 have HC0 := Aside0.mk hc0
 clear hr0 hc0
 have HB := Aside0.mk (Below.refl w.heap.size w)
 have H : (spec_l14Put.l0 k l0 0 a1_0 a1_1 a1_2) = some r := h
 clear h
 have H' := Aside0.mk H
 clear H
 go_enter Try.func32, Try.ntmps32
 go_wp2_with (first | ((with_reducible refine gate_dst (N := 3) rfl ?_); refine box_event rfl (N := 3) rfl (cs := #[.string a1_0, .int .i64 a1_1, .int .i64 a1_2]) (t := 48) gs_ ?_; intro gb458 hg w3 hbox hb; have BK458 := Aside0.mk (hbox); have GW458 := Aside0.mk ((by rw [hg]; exact bz_ : w.heap.size ≤ gb458)); have GE458 := GW458; replace HB := Aside0.mk (below_step bl_ hb); clear hb hbox hg))
 go_loopg [5] k (fun kq v5 w' => ∃ (x5_1 : Int), v5 = .int .i64 x5_1 ∧ Aside0 (spec_l14Put.l0 kq l0 x5_1 a1_0 a1_1 a1_2 = some r) ∧ Aside0 (kq ≤ k) ∧ Aside0 (w'.heap[gb458]? = some (.cells #[.string a1_0, .int .i64 a1_1, .int .i64 a1_2] 48 (0, 0))) ∧ Aside0 (Below w.heap.size w w'))
 case atStart => exact ⟨(0), (by first | rfl | (simp; done) | (simp [*]; done)), H', ⟨Nat.le_refl _⟩, ⟨by exact kb_ BK458.out⟩, ⟨bl_⟩⟩
 clear H'
 try clear p2
 try clear c3
 obtain ⟨x5_1, rfl, HA, HK1, BK458, HB⟩ := hrel
 cases gk with
 | zero => exact absurd HA.out (by simp [spec_l14Put.l0])
 | succ k1 => ?_
 have H := HA.out
 clear HA
 simp only [spec_l14Put.l0] at H
 by_cases c4 : x5_1 < (l0.length : Int)
 rotate_left
 ·rw [if_neg c4] at H
  have c4b0 : decide (x5_1 < (l0.length : Int)) = false := decide_eq_false c4
  clear c4
  by_cases c43 : 0 ≤ x5_1
  rotate_left
  ·rw [if_neg c43] at H
   exact absurd H (by simp)
  rw [if_pos c43] at H
  have c43b0 := eq_true c43
  have c43b1 : decide (0 ≤ x5_1) = true := decide_eq_true c43
  clear c43
  by_cases c44 : x5_1 ≤ (l0.length : Int)
  rotate_left
  ·rw [if_neg c44] at H
   exact absurd H (by simp)
  rw [if_pos c44] at H
  have c44b0 := eq_true c44
  have c44b1 : decide (x5_1 ≤ (l0.length : Int)) = true := decide_eq_true c44
  clear c44
  obtain ⟨y487, hy487⟩ : ∃ y_ : List (S48), y_ = (l0.take (x5_1 : Int).toNat) := ⟨_, rfl⟩
  replace H : (if ([] : List (S48)).length + y487.length < 4398046511104 then ((some (([] : List (S48)) ++ y487 : List (S48))).bind fun y491 => (if y491.length < 4398046511104 then ((some (y491 ++ [(⟨a1_0, a1_1, a1_2⟩ : S48)] : List (S48))).bind fun y494 => ((some (l0.drop (x5_1 : Int).toNat : List (S48))).bind fun y497 => (if y494.length + y497.length < 4398046511104 then (some (y494 ++ y497)) else (none)))) else (none))) else (none)) = some r := by first | (rw [hy487]; with_reducible exact H) | (have H2_ := (Option.bind_some _ _).symm.trans H; rw [hy487]; with_reducible exact H2_) | (have H2_ := (Option.bind_some _ _).symm.trans H; with_reducible exact H2_) | with_reducible exact H | (rw [hy487]; exact H) | exact H
  have Ny487 := Aside0.mk hy487
  clear hy487
  by_cases c45 : ([] : List (S48)).length + y487.length < 4398046511104
  rotate_left
  ·rw [if_neg c45] at H
   exact absurd H (by simp)
  rw [if_pos c45] at H
  have LMc45 := Aside0.mk c45
  clear c45
  obtain ⟨y491, hy491⟩ : ∃ y_ : List (S48), y_ = (([] : List (S48)) ++ y487) := ⟨_, rfl⟩
  replace H : (if y491.length < 4398046511104 then ((some (y491 ++ [(⟨a1_0, a1_1, a1_2⟩ : S48)] : List (S48))).bind fun y494 => ((some (l0.drop (x5_1 : Int).toNat : List (S48))).bind fun y497 => (if y494.length + y497.length < 4398046511104 then (some (y494 ++ y497)) else (none)))) else (none)) = some r := by first | (rw [hy491]; with_reducible exact H) | (have H2_ := (Option.bind_some _ _).symm.trans H; rw [hy491]; with_reducible exact H2_) | (have H2_ := (Option.bind_some _ _).symm.trans H; with_reducible exact H2_) | with_reducible exact H | (rw [hy491]; exact H) | exact H
  have Ny491 := Aside0.mk hy491
  clear hy491
  by_cases c46 : y491.length < 4398046511104
  rotate_left
  ·rw [if_neg c46] at H
   exact absurd H (by simp)
  rw [if_pos c46] at H
  have LMc46 := Aside0.mk c46
  clear c46
  obtain ⟨y494, hy494⟩ : ∃ y_ : List (S48), y_ = (y491 ++ [(⟨a1_0, a1_1, a1_2⟩ : S48)]) := ⟨_, rfl⟩
  replace H : ((some (l0.drop (x5_1 : Int).toNat : List (S48))).bind fun y497 => (if y494.length + y497.length < 4398046511104 then (some (y494 ++ y497)) else (none))) = some r := by first | (rw [hy494]; with_reducible exact H) | (have H2_ := (Option.bind_some _ _).symm.trans H; rw [hy494]; with_reducible exact H2_) | (have H2_ := (Option.bind_some _ _).symm.trans H; with_reducible exact H2_) | with_reducible exact H | (rw [hy494]; exact H) | exact H
  have Ny494 := Aside0.mk hy494
  clear hy494
  have c47b0 := eq_true (of_decide_eq_true (by first | (with_reducible assumption) | assumption) : 0 ≤ x5_1)
  have c48b0 := eq_true (of_decide_eq_true (by first | (with_reducible assumption) | assumption) : x5_1 ≤ (l0.length : Int))
  obtain ⟨y497, hy497⟩ : ∃ y_ : List (S48), y_ = (l0.drop (x5_1 : Int).toNat) := ⟨_, rfl⟩
  replace H : (if y494.length + y497.length < 4398046511104 then (some (y494 ++ y497)) else (none)) = some r := by first | (rw [hy497]; with_reducible exact H) | (have H2_ := (Option.bind_some _ _).symm.trans H; rw [hy497]; with_reducible exact H2_) | (have H2_ := (Option.bind_some _ _).symm.trans H; with_reducible exact H2_) | with_reducible exact H | (rw [hy497]; exact H) | exact H
  have Ny497 := Aside0.mk hy497
  clear hy497
  by_cases c49 : y494.length + y497.length < 4398046511104
  rotate_left
  ·rw [if_neg c49] at H
   exact absurd H (by simp)
  rw [if_pos c49] at H
  have LMc49 := Aside0.mk c49
  clear c49
  obtain ⟨y501, hy501⟩ : ∃ y_ : List (S48), y_ = (y494 ++ y497) := ⟨_, rfl⟩
  replace H : (some y501) = some r := by first | (rw [hy501]; with_reducible exact H) | (have H2_ := (Option.bind_some _ _).symm.trans H; rw [hy501]; with_reducible exact H2_) | (have H2_ := (Option.bind_some _ _).symm.trans H; with_reducible exact H2_) | with_reducible exact H | (rw [hy501]; exact H) | exact H
  have Ny501 := Aside0.mk hy501
  clear hy501
  obtain rfl := Option.some.inj H
  try go_wp2
  replace BK458 := Aside0.mk (blk_drew BK458.out)
  replace HB := Aside0.mk (below_drew1 HB.out)
  refine start_ (n := 12) (S := fun w' => True) (ds := []) #[false, false, false, false, false, false, false, false, false, false, false, false] (by kernel_rfl) rfl rfl trivial (fun hHeld => ?_); refine with_tabW spec_l14Put.tab2 spec_l14Put.bits2 (fun HT_ HW_ => ?_)
  generalize wr.drew = w50 at BK458 HB hHeld ⊢
  refine pu_ 0 (some 7) (h := ?_)
  refine pu_ 1 (some 8) (h := ?_)
  refine pu_ 2 (some 9) (h := ?_)
  refine pu_ 3 (some 10) (h := ?_)
  refine pu_ 4 (some 11) (h := ?_)
  refine px_ 5 (some 12) (h := ?_)
  refine px_ 6 (some 13) (h := ?_)
  refine px_ 7 (some 14) (h := ?_)
  refine px_ 8 (some 15) (h := ?_)
  refine px_ 9 (some 16) (h := ?_)
  refine px_ 10 (some 17) (h := ?_)
  refine pu_ 11 (some 18) (h := ?_)
  refine done_ (done_of HT_.out (by kernel_rfl)) ?_
  have q51 : (x5_1 : Int) ≤ ((l0.length : Int) : Int) := of_decide_eq_true (by first | (with_reducible assumption) | assumption)
  obtain ⟨i051, hi051, _, hsz51, _⟩ := info_parts info48
  have hroom51 : l0.length ≤ c0 := HC0.out
  have hC51 : Kd.C k48 _ A0 l0.length l0 := HR0.out
  have hcut51 := cut_to (P := Try.prog) 27 48 .i64 Try.underlying27 hi051 A0 l0.length c0 x5_1 (of_decide_eq_true (by first | (with_reducible assumption) | assumption)) q51 hroom51
  have hr51 := Kd.C_take (m := (x5_1 : Int).toNat) hC51 (by omega)
  have hy51 : y487.length = (x5_1 : Int).toNat := (by rw [Ny487.out, List.length_take]; omega)
  rw [← Ny487.out] at hr51
  rw [← hy51] at hcut51
  have HR490 := Aside0.mk hr51
  have HC490 := Aside0.mk (show y487.length ≤ c0 from by omega)
  clear hr51 hC51 hroom51 hi051 hsz51
  have KY51 := Aside0.mk hy51
  clear hy51
  replace q51 := eq_true q51
  try go_wp2_with (first | ((with_reducible refine gate_builtin (b := .append) (xs := #[.tmp 21, .tmp 24]) rfl ?_); at_builtin; refine Kd.R_append_rows k48 (w0 := w) w.heap.size rfl (.tmp 21) (.tmp 24) 27 48 (.agg #[(.string ⟨#[]⟩), (.int .i64 0), (.int .i64 0)]) 32 rfl Try.underlying27 info48 rfl (by decide) (by omega) (.slice none 0 0) ([] : List (S48)) y487 _ _ _ (fun k_ => k_ ≠ gb458) (fun _ => False) rfl rfl ?aO ?aR (fun _ _ h => h) (fun _ h => h.elim) ?aF ?aB ?aS ?aL ?_; (case aR => exact kc_ (Kd.C_below HR490.out HB.out)); (case aB => exact bl_); (case aF => exact (fun k_ hk => Kd.freshB (kb_ BK458.out) k_ hk)); (case aO => exact ((Kd.R_nil _ _ _ _ (fun k_ => k_ ≠ gb458)))); (case aS => exact bz_); (case aL => have := LMc45.out; omega); intro v492 w52 ho hb hg hat; rw [← Ny491.out] at ho; replace BK458 := Aside0.mk (blk_grown (kb_ BK458.out) hg (by simp [Value.ownBlock])); replace HB := Aside0.mk (hb); have HO493 := Aside0.mk (ho); clear ho hb hg hat; have hcz53_0 : w52.cell? ⟨gb458, 0, none⟩ = some (.string a1_0) := bc_ BK458.out 0; have hcz53_1 : w52.cell? ⟨gb458, 1, none⟩ = some (.int .i64 a1_1) := bc_ BK458.out 1; have hcz53_2 : w52.cell? ⟨gb458, 2, none⟩ = some (.int .i64 a1_2) := bc_ BK458.out 2; have hfz53_0 := blk_frozen BK458.out 0; have hfz53_1 := blk_frozen BK458.out 1; have hfz53_2 := blk_frozen BK458.out 2) | ((with_reducible refine gate_builtin (b := .append) (xs := #[.tmp 26, .tmp 28]) rfl ?_); at_builtin; refine Kd.R_append k48 (w0 := w) w.heap.size rfl (.tmp 26) (.tmp 28) 27 48 (.agg #[(.string ⟨#[]⟩), (.int .i64 0), (.int .i64 0)]) 32 rfl Try.underlying27 info48 rfl (by decide) (by omega) v492 y491 (⟨a1_0, a1_1, a1_2⟩ : S48) [.string a1_0, .int .i64 a1_1, .int .i64 a1_2] (fun k_ => k_ ≠ gb458) (fun _ => False) rfl rfl ?aP (fun _ hk => hk.elim) ?aF ?aO ?aB ?aS ?aL ?_; (case aP => exact k48_mkM _ _ _ (⟨a1_0, a1_1, a1_2⟩ : S48)); (case aB => exact bl_); (case aF => exact (fun k_ hk => Kd.freshB (kb_ BK458.out) k_ hk)); (case aO => exact (kr_ HO493.out)); (case aS => exact bz_); (case aL => have := LMc46.out; omega); intro v495 w54 ho hb hg hat; rw [← Ny494.out] at ho; replace BK458 := Aside0.mk (blk_grown (kb_ BK458.out) hg (Kd.R_away HO493.out (fun _ hk => hk))); replace HB := Aside0.mk (hb); have HO496 := Aside0.mk (ho); clear HO493 ho hb hg hat))
  replace HO496 := Aside0.mk (Kd.R_drew HO496.out)
  replace BK458 := Aside0.mk (blk_drew BK458.out)
  replace HB := Aside0.mk (below_drew1 HB.out)
  refine start_ (n := 12) (S := fun w' => True) (ds := []) #[false, false, false, false, false, false, false, false, false, false, false, false] (by kernel_rfl) rfl rfl trivial (fun hHeld => ?_); refine with_tabW spec_l14Put.tab7 spec_l14Put.bits7 (fun HT_ HW_ => ?_)
  generalize w54.drew = w55 at HO496 BK458 HB hHeld ⊢
  refine pu_ 0 (some 30) (h := ?_)
  refine pu_ 1 (some 31) (h := ?_)
  refine pu_ 2 (some 32) (h := ?_)
  refine pu_ 3 (some 33) (h := ?_)
  refine pu_ 4 (some 34) (h := ?_)
  refine px_ 5 (some 35) (h := ?_)
  refine px_ 6 (some 36) (h := ?_)
  refine px_ 7 (some 37) (h := ?_)
  refine px_ 8 (some 38) (h := ?_)
  refine px_ 9 (some 39) (h := ?_)
  refine px_ 10 (some 40) (h := ?_)
  refine pu_ 11 (some 41) (h := ?_)
  refine done_ (done_of HT_.out (by kernel_rfl)) ?_
  have q56 : (x5_1 : Int) ≤ ((l0.length : Int) : Int) := of_decide_eq_true (by first | (with_reducible assumption) | assumption)
  obtain ⟨i056, hi056, _, hsz56, _⟩ := info_parts info48
  have hroom56 : l0.length ≤ c0 := HC0.out
  have hC56 : Kd.C k48 _ A0 l0.length l0 := HR0.out
  have q056 : (0 : Int) ≤ (x5_1 : Int) := of_decide_eq_true (by first | (with_reducible assumption) | assumption)
  have hcut56 := cut_from (P := Try.prog) 27 48 .i64 Try.underlying27 hi056 3 hsz56 A0 l0.length c0 x5_1 q056 q56
  have hr56 := Kd.C_drop (m := (x5_1 : Int).toNat) (c := c0) hC56 (by omega) hroom56
  obtain ⟨A56, hA56⟩ : ∃ A1, A1 = (if c0 = (x5_1 : Int).toNat then A0 else (A0 : Option Addr).map (·.add ((x5_1 : Int).toNat * 3))) := ⟨_, rfl⟩
  obtain ⟨c56, hc56⟩ : ∃ c1, c1 = c0 - (x5_1 : Int).toNat := ⟨_, rfl⟩
  have hy56 : y497.length = l0.length - (x5_1 : Int).toNat := (by rw [Ny497.out, List.length_drop] <;> omega)
  rw [show (l0).drop (x5_1 : Int).toNat = y497 from Ny497.out.symm] at hr56
  replace hr56 : Kd.C k48 _ A56 y497.length y497 := (by rw [hA56]; exact hr56)
  rw [← hy56, ← hA56, ← hc56] at hcut56
  have HR500 := Aside0.mk hr56
  have HC500 := Aside0.mk (show y497.length ≤ c56 from by rw [hy56, hc56]; exact Nat.sub_le_sub_right hroom56 _)
  clear hr56 hC56 hroom56 hi056 hsz56 hc56
  have KY56 := Aside0.mk hy56
  have KA56 := Aside0.mk hA56
  clear hy56 hA56
  replace q56 := eq_true q56
  try go_wp2_with (first | ((with_reducible refine gate_builtin (b := .append) (xs := #[.tmp 44, .tmp 47]) rfl ?_); at_builtin; refine Kd.R_append_rows k48 (w0 := w) w.heap.size rfl (.tmp 44) (.tmp 47) 27 48 (.agg #[(.string ⟨#[]⟩), (.int .i64 0), (.int .i64 0)]) 32 rfl Try.underlying27 info48 rfl (by decide) (by omega) v495 y494 y497 _ _ _ (fun k_ => k_ ≠ gb458) (fun _ => False) rfl rfl ?aO ?aR (fun _ _ h => h) (fun _ h => h.elim) ?aF ?aB ?aS ?aL ?_; (case aR => exact kc_ (Kd.C_below HR500.out HB.out)); (case aB => exact bl_); (case aF => exact (fun k_ hk => Kd.freshB (kb_ BK458.out) k_ hk)); (case aO => exact (kr_ HO496.out)); (case aS => exact bz_); (case aL => have := LMc49.out; omega); intro v502 w57 ho hb hg hat; rw [← Ny501.out] at ho; replace BK458 := Aside0.mk (blk_grown (kb_ BK458.out) hg (Kd.R_away HO496.out (fun _ hk => hk))); replace HB := Aside0.mk (hb); have HO503 := Aside0.mk (ho); clear HO496 ho hb hg hat))
  go_ret
  exact ⟨_, ng_, by exact kr_ (Kd.R_mono HO503.out (fun _ hk => trivial)), bl_⟩
 rw [if_pos c4] at H
 have c4b0 : decide (x5_1 < (l0.length : Int)) = true := decide_eq_true c4
 clear c4
 by_cases c5 : 0 ≤ x5_1
 rotate_left
 ·rw [if_neg c5] at H
  exact absurd H (by simp)
 rw [if_pos c5] at H
 have c5b0 : decide (0 ≤ x5_1) = true := decide_eq_true c5
 clear c5
 replace H := Option.bind_eq_some_iff.mp H
 obtain ⟨t460, A60, H⟩ := H
 replace H : (if t460 = true then (spec_l14Put.l0 k1 l0 (wrap64 (x5_1 + 1)) a1_0 a1_1 a1_2) else (if x5_1 ≤ (l0.length : Int) then ((some (l0.take (x5_1 : Int).toNat : List (S48))).bind fun y461 => (if ([] : List (S48)).length + y461.length < 4398046511104 then ((some (([] : List (S48)) ++ y461 : List (S48))).bind fun y465 => (if y465.length < 4398046511104 then ((some (y465 ++ [(⟨a1_0, a1_1, a1_2⟩ : S48)] : List (S48))).bind fun y468 => ((spec_l14Same.f ((rd_T48 l0 x5_1).f0) ((rd_T48 l0 x5_1).f1) ((rd_T48 l0 x5_1).f2) a1_0 a1_1 a1_2).bind fun t472 => (if t472 = true then (if 0 ≤ (wrap64 (x5_1 + 1)) then (if (wrap64 (x5_1 + 1)) ≤ (l0.length : Int) then ((some (l0.drop ((wrap64 (x5_1 + 1)) : Int).toNat : List (S48))).bind fun y473 => (if y468.length + y473.length < 4398046511104 then (some (y468 ++ y473)) else (none))) else (none)) else (none)) else ((some (l0.drop (x5_1 : Int).toNat : List (S48))).bind fun y480 => (if y468.length + y480.length < 4398046511104 then (some (y468 ++ y480)) else (none)))))) else (none))) else (none))) else (none))) = some r := H
 have A6 := Aside0.mk A60
 clear A60
 by_cases c7 : t460 = true
 ·subst c7
  have H1 : (spec_l14Put.l0 k1 l0 (wrap64 (x5_1 + 1)) a1_0 a1_1 a1_2) = some r := by rw [if_pos rfl] at H; exact H
  clear H
  have H := H1
  clear H1
  have H' := Aside0.mk H
  clear H
  try go_wp2
  replace BK458 := Aside0.mk (blk_drew BK458.out)
  replace HB := Aside0.mk (below_drew1 HB.out)
  have p459 : 0 ≤ (x5_1 : Int) := of_decide_eq_true (by first | (with_reducible assumption) | assumption)
  have q459 : x5_1 < (l0.length : Int) := of_decide_eq_true (by first | (with_reducible assumption) | assumption)
  obtain ⟨ad459, e459, hx459_0, hx459_1, hx459_2⟩ := at_T48 HR0.out x5_1 p459 q459
  have hw459_2 := hx459_2
  have hw459_1 := hx459_1
  have hw459_0 := hx459_0
  cases e459
  replace hx459_0 := (HB.out.cell (World.block_lt_of_cell? w _ hx459_0)).trans hx459_0
  replace hx459_1 := (HB.out.cell (World.block_lt_of_cell? w _ hx459_1)).trans hx459_1
  replace hx459_2 := (HB.out.cell (World.block_lt_of_cell? w _ hx459_2)).trans hx459_2
  replace p459 := eq_true p459
  replace q459 := eq_true q459
  refine start_ (n := 12) (S := fun w' => w'.cell? ⟨gb458, 0, none⟩ = some (.string a1_0) ∧ w'.cell? ⟨gb458, 1, none⟩ = some (.int .i64 a1_1) ∧ w'.cell? ⟨gb458, 2, none⟩ = some (.int .i64 a1_2) ∧ w'.cell? (ad459.add ((x5_1).toNat * 3)) = some (.string ((rd_T48 l0 x5_1).f0)) ∧ w'.cell? ⟨(ad459.add ((x5_1).toNat * 3)).block, (ad459.add ((x5_1).toNat * 3)).off + 1, none⟩ = some (.int .i64 ((rd_T48 l0 x5_1).f1)) ∧ w'.cell? ⟨(ad459.add ((x5_1).toNat * 3)).block, (ad459.add ((x5_1).toNat * 3)).off + 2, none⟩ = some (.int .i64 ((rd_T48 l0 x5_1).f2))) (ds := []) #[false, false, false, false, false, false, false, false, false, false, false, false] (by kernel_rfl) rfl rfl ⟨bc_ BK458.out 0, bc_ BK458.out 1, bc_ BK458.out 2, ((HB.out.cell (World.block_lt_of_cell? w _ hw459_0)).trans hw459_0), ((HB.out.cell (World.block_lt_of_cell? w _ hw459_1)).trans hw459_1), ((HB.out.cell (World.block_lt_of_cell? w _ hw459_2)).trans hw459_2)⟩ (fun hHeld => ?_); refine with_tabW spec_l14Put.tab2 spec_l14Put.bits2 (fun HT_ HW_ => ?_)
  generalize wr.drew = w8 at BK458 HB hx459_0 hx459_1 hx459_2 hHeld ⊢
  refine pu_ 0 (some 7) (h := ?_)
  refine pu_ 1 (some 8) (h := ?_)
  refine pu_ 2 (some 9) (h := ?_)
  refine pu_ 3 (some 10) (h := ?_)
  refine pu_ 4 (some 11) (h := ?_)
  refine pu_ 5 (some 12) (h := ?_)
  refine pu_ 6 (some 13) (h := ?_)
  refine pu_ 7 (some 14) (h := ?_)
  refine tk6_ 8 (some 15) (h := ?_)
  refine tk6_ 9 (some 16) (h := ?_)
  refine on_ 10 (some 17) (h := fun K hK => ?_)
  refine goes_ Try.func53 (by kernel_rfl) rfl #[.agg #[.string ((rd_T48 l0 x5_1).f0), .int .i64 ((rd_T48 l0 x5_1).f1), .int .i64 ((rd_T48 l0 x5_1).f2)], .agg #[.string a1_0, .int .i64 a1_1, .int .i64 a1_2]] (by rfl) rfl rfl nc_ ?_
  with_reducible refine (spec_l14Less.calls ((rd_T48 l0 x5_1).f0) ((rd_T48 l0 x5_1).f1) ((rd_T48 l0 x5_1).f2) a1_0 a1_1 a1_2 true _ A6.out).mono ?_
  rintro e w9 ⟨rfl, hb⟩
  refine ⟨_, rfl, ?_⟩
  replace BK458 := bb_ BK458 hb
  replace HB := Aside0.mk (below_step bl_ hb)
  clear hb
  refine hK.out _ _ ⟨bc_ BK458.out 0, bc_ BK458.out 1, bc_ BK458.out 2, ((HB.out.cell (World.block_lt_of_cell? w _ hw459_0)).trans hw459_0), ((HB.out.cell (World.block_lt_of_cell? w _ hw459_1)).trans hw459_1), ((HB.out.cell (World.block_lt_of_cell? w _ hw459_2)).trans hw459_2)⟩ (fun hHeld => ?_)
  clear hK K
  refine norm_ nn_ ?_
  refine pu_ 11 (some 18) (h := ?_)
  refine done_ (done_of HT_.out (by kernel_rfl)) ?_
  try go_wp2
  go_roundg k1
  case measure => have := HK1.out; omega
  case rel => exact ⟨(wrap64 (x5_1 + 1)), (by first | rfl | (simp; done) | (simp [*]; done)), H', ⟨by have := HK1.out; omega⟩, ⟨by exact kb_ BK458.out⟩, ⟨bl_⟩⟩
 replace c7 := Bool.eq_false_iff.mpr c7
 subst c7
 have H1 : (if x5_1 ≤ (l0.length : Int) then ((some (l0.take (x5_1 : Int).toNat : List (S48))).bind fun y461 => (if ([] : List (S48)).length + y461.length < 4398046511104 then ((some (([] : List (S48)) ++ y461 : List (S48))).bind fun y465 => (if y465.length < 4398046511104 then ((some (y465 ++ [(⟨a1_0, a1_1, a1_2⟩ : S48)] : List (S48))).bind fun y468 => ((spec_l14Same.f ((rd_T48 l0 x5_1).f0) ((rd_T48 l0 x5_1).f1) ((rd_T48 l0 x5_1).f2) a1_0 a1_1 a1_2).bind fun t472 => (if t472 = true then (if 0 ≤ (wrap64 (x5_1 + 1)) then (if (wrap64 (x5_1 + 1)) ≤ (l0.length : Int) then ((some (l0.drop ((wrap64 (x5_1 + 1)) : Int).toNat : List (S48))).bind fun y473 => (if y468.length + y473.length < 4398046511104 then (some (y468 ++ y473)) else (none))) else (none)) else (none)) else ((some (l0.drop (x5_1 : Int).toNat : List (S48))).bind fun y480 => (if y468.length + y480.length < 4398046511104 then (some (y468 ++ y480)) else (none)))))) else (none))) else (none))) else (none)) = some r := by rw [if_neg (show ¬ (false = true) by decide)] at H; exact H
 clear H
 have H := H1
 clear H1
 have c10b0 := eq_true (of_decide_eq_true (by first | (with_reducible assumption) | assumption) : 0 ≤ x5_1)
 by_cases c11 : x5_1 ≤ (l0.length : Int)
 rotate_left
 ·rw [if_neg c11] at H
  exact absurd H (by simp)
 rw [if_pos c11] at H
 have c11b0 := eq_true c11
 have c11b1 : decide (x5_1 ≤ (l0.length : Int)) = true := decide_eq_true c11
 clear c11
 obtain ⟨y461, hy461⟩ : ∃ y_ : List (S48), y_ = (l0.take (x5_1 : Int).toNat) := ⟨_, rfl⟩
 replace H : (if ([] : List (S48)).length + y461.length < 4398046511104 then ((some (([] : List (S48)) ++ y461 : List (S48))).bind fun y465 => (if y465.length < 4398046511104 then ((some (y465 ++ [(⟨a1_0, a1_1, a1_2⟩ : S48)] : List (S48))).bind fun y468 => ((spec_l14Same.f ((rd_T48 l0 x5_1).f0) ((rd_T48 l0 x5_1).f1) ((rd_T48 l0 x5_1).f2) a1_0 a1_1 a1_2).bind fun t472 => (if t472 = true then (if 0 ≤ (wrap64 (x5_1 + 1)) then (if (wrap64 (x5_1 + 1)) ≤ (l0.length : Int) then ((some (l0.drop ((wrap64 (x5_1 + 1)) : Int).toNat : List (S48))).bind fun y473 => (if y468.length + y473.length < 4398046511104 then (some (y468 ++ y473)) else (none))) else (none)) else (none)) else ((some (l0.drop (x5_1 : Int).toNat : List (S48))).bind fun y480 => (if y468.length + y480.length < 4398046511104 then (some (y468 ++ y480)) else (none)))))) else (none))) else (none)) = some r := by first | (rw [hy461]; with_reducible exact H) | (have H2_ := (Option.bind_some _ _).symm.trans H; rw [hy461]; with_reducible exact H2_) | (have H2_ := (Option.bind_some _ _).symm.trans H; with_reducible exact H2_) | with_reducible exact H | (rw [hy461]; exact H) | exact H
 have Ny461 := Aside0.mk hy461
 clear hy461
 by_cases c12 : ([] : List (S48)).length + y461.length < 4398046511104
 rotate_left
 ·rw [if_neg c12] at H
  exact absurd H (by simp)
 rw [if_pos c12] at H
 have LMc12 := Aside0.mk c12
 clear c12
 obtain ⟨y465, hy465⟩ : ∃ y_ : List (S48), y_ = (([] : List (S48)) ++ y461) := ⟨_, rfl⟩
 replace H : (if y465.length < 4398046511104 then ((some (y465 ++ [(⟨a1_0, a1_1, a1_2⟩ : S48)] : List (S48))).bind fun y468 => ((spec_l14Same.f ((rd_T48 l0 x5_1).f0) ((rd_T48 l0 x5_1).f1) ((rd_T48 l0 x5_1).f2) a1_0 a1_1 a1_2).bind fun t472 => (if t472 = true then (if 0 ≤ (wrap64 (x5_1 + 1)) then (if (wrap64 (x5_1 + 1)) ≤ (l0.length : Int) then ((some (l0.drop ((wrap64 (x5_1 + 1)) : Int).toNat : List (S48))).bind fun y473 => (if y468.length + y473.length < 4398046511104 then (some (y468 ++ y473)) else (none))) else (none)) else (none)) else ((some (l0.drop (x5_1 : Int).toNat : List (S48))).bind fun y480 => (if y468.length + y480.length < 4398046511104 then (some (y468 ++ y480)) else (none)))))) else (none)) = some r := by first | (rw [hy465]; with_reducible exact H) | (have H2_ := (Option.bind_some _ _).symm.trans H; rw [hy465]; with_reducible exact H2_) | (have H2_ := (Option.bind_some _ _).symm.trans H; with_reducible exact H2_) | with_reducible exact H | (rw [hy465]; exact H) | exact H
 have Ny465 := Aside0.mk hy465
 clear hy465
 by_cases c13 : y465.length < 4398046511104
 rotate_left
 ·rw [if_neg c13] at H
  exact absurd H (by simp)
 rw [if_pos c13] at H
 have LMc13 := Aside0.mk c13
 clear c13
 obtain ⟨y468, hy468⟩ : ∃ y_ : List (S48), y_ = (y465 ++ [(⟨a1_0, a1_1, a1_2⟩ : S48)]) := ⟨_, rfl⟩
 replace H : ((spec_l14Same.f ((rd_T48 l0 x5_1).f0) ((rd_T48 l0 x5_1).f1) ((rd_T48 l0 x5_1).f2) a1_0 a1_1 a1_2).bind fun t472 => (if t472 = true then (if 0 ≤ (wrap64 (x5_1 + 1)) then (if (wrap64 (x5_1 + 1)) ≤ (l0.length : Int) then ((some (l0.drop ((wrap64 (x5_1 + 1)) : Int).toNat : List (S48))).bind fun y473 => (if y468.length + y473.length < 4398046511104 then (some (y468 ++ y473)) else (none))) else (none)) else (none)) else ((some (l0.drop (x5_1 : Int).toNat : List (S48))).bind fun y480 => (if y468.length + y480.length < 4398046511104 then (some (y468 ++ y480)) else (none))))) = some r := by first | (rw [hy468]; with_reducible exact H) | (have H2_ := (Option.bind_some _ _).symm.trans H; rw [hy468]; with_reducible exact H2_) | (have H2_ := (Option.bind_some _ _).symm.trans H; with_reducible exact H2_) | with_reducible exact H | (rw [hy468]; exact H) | exact H
 have Ny468 := Aside0.mk hy468
 clear hy468
 replace H := Option.bind_eq_some_iff.mp H
 obtain ⟨t472, A140, H⟩ := H
 replace H : (if t472 = true then (if 0 ≤ (wrap64 (x5_1 + 1)) then (if (wrap64 (x5_1 + 1)) ≤ (l0.length : Int) then ((some (l0.drop ((wrap64 (x5_1 + 1)) : Int).toNat : List (S48))).bind fun y473 => (if y468.length + y473.length < 4398046511104 then (some (y468 ++ y473)) else (none))) else (none)) else (none)) else ((some (l0.drop (x5_1 : Int).toNat : List (S48))).bind fun y480 => (if y468.length + y480.length < 4398046511104 then (some (y468 ++ y480)) else (none)))) = some r := H
 have A14 := Aside0.mk A140
 clear A140
 by_cases c15 : t472 = true
 rotate_left
 ·replace c15 := Bool.eq_false_iff.mpr c15
  subst c15
  have H1 : ((some (l0.drop (x5_1 : Int).toNat : List (S48))).bind fun y480 => (if y468.length + y480.length < 4398046511104 then (some (y468 ++ y480)) else (none))) = some r := by rw [if_neg (show ¬ (false = true) by decide)] at H; exact H
  clear H
  have H := H1
  clear H1
  have c30b0 := eq_true (of_decide_eq_true (by first | (with_reducible assumption) | assumption) : 0 ≤ x5_1)
  have c31b0 := eq_true (of_decide_eq_true (by first | (with_reducible assumption) | assumption) : x5_1 ≤ (l0.length : Int))
  obtain ⟨y480, hy480⟩ : ∃ y_ : List (S48), y_ = (l0.drop (x5_1 : Int).toNat) := ⟨_, rfl⟩
  replace H : (if y468.length + y480.length < 4398046511104 then (some (y468 ++ y480)) else (none)) = some r := by first | (rw [hy480]; with_reducible exact H) | (have H2_ := (Option.bind_some _ _).symm.trans H; rw [hy480]; with_reducible exact H2_) | (have H2_ := (Option.bind_some _ _).symm.trans H; with_reducible exact H2_) | with_reducible exact H | (rw [hy480]; exact H) | exact H
  have Ny480 := Aside0.mk hy480
  clear hy480
  by_cases c32 : y468.length + y480.length < 4398046511104
  rotate_left
  ·rw [if_neg c32] at H
   exact absurd H (by simp)
  rw [if_pos c32] at H
  have LMc32 := Aside0.mk c32
  clear c32
  obtain ⟨y484, hy484⟩ : ∃ y_ : List (S48), y_ = (y468 ++ y480) := ⟨_, rfl⟩
  replace H : (some y484) = some r := by first | (rw [hy484]; with_reducible exact H) | (have H2_ := (Option.bind_some _ _).symm.trans H; rw [hy484]; with_reducible exact H2_) | (have H2_ := (Option.bind_some _ _).symm.trans H; with_reducible exact H2_) | with_reducible exact H | (rw [hy484]; exact H) | exact H
  have Ny484 := Aside0.mk hy484
  clear hy484
  obtain rfl := Option.some.inj H
  try go_wp2
  replace BK458 := Aside0.mk (blk_drew BK458.out)
  replace HB := Aside0.mk (below_drew1 HB.out)
  have p459 : 0 ≤ (x5_1 : Int) := of_decide_eq_true (by first | (with_reducible assumption) | assumption)
  have q459 : x5_1 < (l0.length : Int) := of_decide_eq_true (by first | (with_reducible assumption) | assumption)
  obtain ⟨ad459, e459, hx459_0, hx459_1, hx459_2⟩ := at_T48 HR0.out x5_1 p459 q459
  have hw459_2 := hx459_2
  have hw459_1 := hx459_1
  have hw459_0 := hx459_0
  cases e459
  replace hx459_0 := (HB.out.cell (World.block_lt_of_cell? w _ hx459_0)).trans hx459_0
  replace hx459_1 := (HB.out.cell (World.block_lt_of_cell? w _ hx459_1)).trans hx459_1
  replace hx459_2 := (HB.out.cell (World.block_lt_of_cell? w _ hx459_2)).trans hx459_2
  replace p459 := eq_true p459
  replace q459 := eq_true q459
  refine start_ (n := 12) (S := fun w' => w'.cell? ⟨gb458, 0, none⟩ = some (.string a1_0) ∧ w'.cell? ⟨gb458, 1, none⟩ = some (.int .i64 a1_1) ∧ w'.cell? ⟨gb458, 2, none⟩ = some (.int .i64 a1_2) ∧ w'.cell? (ad459.add ((x5_1).toNat * 3)) = some (.string ((rd_T48 l0 x5_1).f0)) ∧ w'.cell? ⟨(ad459.add ((x5_1).toNat * 3)).block, (ad459.add ((x5_1).toNat * 3)).off + 1, none⟩ = some (.int .i64 ((rd_T48 l0 x5_1).f1)) ∧ w'.cell? ⟨(ad459.add ((x5_1).toNat * 3)).block, (ad459.add ((x5_1).toNat * 3)).off + 2, none⟩ = some (.int .i64 ((rd_T48 l0 x5_1).f2))) (ds := []) #[false, false, false, false, false, false, false, false, false, false, false, false] (by kernel_rfl) rfl rfl ⟨bc_ BK458.out 0, bc_ BK458.out 1, bc_ BK458.out 2, ((HB.out.cell (World.block_lt_of_cell? w _ hw459_0)).trans hw459_0), ((HB.out.cell (World.block_lt_of_cell? w _ hw459_1)).trans hw459_1), ((HB.out.cell (World.block_lt_of_cell? w _ hw459_2)).trans hw459_2)⟩ (fun hHeld => ?_); refine with_tabW spec_l14Put.tab2 spec_l14Put.bits2 (fun HT_ HW_ => ?_)
  generalize wr.drew = w33 at BK458 HB hx459_0 hx459_1 hx459_2 hHeld ⊢
  refine pu_ 0 (some 7) (h := ?_)
  refine pu_ 1 (some 8) (h := ?_)
  refine pu_ 2 (some 9) (h := ?_)
  refine pu_ 3 (some 10) (h := ?_)
  refine pu_ 4 (some 11) (h := ?_)
  refine pu_ 5 (some 12) (h := ?_)
  refine pu_ 6 (some 13) (h := ?_)
  refine pu_ 7 (some 14) (h := ?_)
  refine tk6_ 8 (some 15) (h := ?_)
  refine tk6_ 9 (some 16) (h := ?_)
  refine on_ 10 (some 17) (h := fun K hK => ?_)
  refine goes_ Try.func53 (by kernel_rfl) rfl #[.agg #[.string ((rd_T48 l0 x5_1).f0), .int .i64 ((rd_T48 l0 x5_1).f1), .int .i64 ((rd_T48 l0 x5_1).f2)], .agg #[.string a1_0, .int .i64 a1_1, .int .i64 a1_2]] (by rfl) rfl rfl nc_ ?_
  with_reducible refine (spec_l14Less.calls ((rd_T48 l0 x5_1).f0) ((rd_T48 l0 x5_1).f1) ((rd_T48 l0 x5_1).f2) a1_0 a1_1 a1_2 false _ A6.out).mono ?_
  rintro e w34 ⟨rfl, hb⟩
  refine ⟨_, rfl, ?_⟩
  replace BK458 := bb_ BK458 hb
  replace HB := Aside0.mk (below_step bl_ hb)
  clear hb
  refine hK.out _ _ ⟨bc_ BK458.out 0, bc_ BK458.out 1, bc_ BK458.out 2, ((HB.out.cell (World.block_lt_of_cell? w _ hw459_0)).trans hw459_0), ((HB.out.cell (World.block_lt_of_cell? w _ hw459_1)).trans hw459_1), ((HB.out.cell (World.block_lt_of_cell? w _ hw459_2)).trans hw459_2)⟩ (fun hHeld => ?_)
  clear hK K
  refine norm_ nn_ ?_
  refine pu_ 11 (some 18) (h := ?_)
  refine done_ (done_of HT_.out (by kernel_rfl)) ?_
  have q35 : (x5_1 : Int) ≤ ((l0.length : Int) : Int) := of_decide_eq_true (by first | (with_reducible assumption) | assumption)
  obtain ⟨i035, hi035, _, hsz35, _⟩ := info_parts info48
  have hroom35 : l0.length ≤ c0 := HC0.out
  have hC35 : Kd.C k48 _ (some ad459) l0.length l0 := HR0.out
  have hcut35 := cut_to (P := Try.prog) 27 48 .i64 Try.underlying27 hi035 (some ad459) l0.length c0 x5_1 (of_decide_eq_true (by first | (with_reducible assumption) | assumption)) q35 hroom35
  have hr35 := Kd.C_take (m := (x5_1 : Int).toNat) hC35 (by omega)
  have hy35 : y461.length = (x5_1 : Int).toNat := (by rw [Ny461.out, List.length_take]; omega)
  rw [← Ny461.out] at hr35
  rw [← hy35] at hcut35
  have HR464 := Aside0.mk hr35
  have HC464 := Aside0.mk (show y461.length ≤ c0 from by omega)
  clear hr35 hC35 hroom35 hi035 hsz35
  have KY35 := Aside0.mk hy35
  clear hy35
  replace q35 := eq_true q35
  try go_wp2_with (first | ((with_reducible refine gate_builtin (b := .append) (xs := #[.tmp 21, .tmp 24]) rfl ?_); at_builtin; refine Kd.R_append_rows k48 (w0 := w) w.heap.size rfl (.tmp 21) (.tmp 24) 27 48 (.agg #[(.string ⟨#[]⟩), (.int .i64 0), (.int .i64 0)]) 32 rfl Try.underlying27 info48 rfl (by decide) (by omega) (.slice none 0 0) ([] : List (S48)) y461 _ _ _ (fun k_ => k_ ≠ gb458) (fun _ => False) rfl rfl ?aO ?aR (fun _ _ h => h) (fun _ h => h.elim) ?aF ?aB ?aS ?aL ?_; (case aR => exact kc_ (Kd.C_below HR464.out HB.out)); (case aB => exact bl_); (case aF => exact (fun k_ hk => Kd.freshB (kb_ BK458.out) k_ hk)); (case aO => exact ((Kd.R_nil _ _ _ _ (fun k_ => k_ ≠ gb458)))); (case aS => exact bz_); (case aL => have := LMc12.out; omega); intro v466 w36 ho hb hg hat; rw [← Ny465.out] at ho; replace BK458 := Aside0.mk (blk_grown (kb_ BK458.out) hg (by simp [Value.ownBlock])); replace HB := Aside0.mk (hb); have HO467 := Aside0.mk (ho); clear ho hb hg hat; have hcz37_0 : w36.cell? ⟨gb458, 0, none⟩ = some (.string a1_0) := bc_ BK458.out 0; have hcz37_1 : w36.cell? ⟨gb458, 1, none⟩ = some (.int .i64 a1_1) := bc_ BK458.out 1; have hcz37_2 : w36.cell? ⟨gb458, 2, none⟩ = some (.int .i64 a1_2) := bc_ BK458.out 2; have hfz37_0 := blk_frozen BK458.out 0; have hfz37_1 := blk_frozen BK458.out 1; have hfz37_2 := blk_frozen BK458.out 2) | ((with_reducible refine gate_builtin (b := .append) (xs := #[.tmp 26, .tmp 28]) rfl ?_); at_builtin; refine Kd.R_append k48 (w0 := w) w.heap.size rfl (.tmp 26) (.tmp 28) 27 48 (.agg #[(.string ⟨#[]⟩), (.int .i64 0), (.int .i64 0)]) 32 rfl Try.underlying27 info48 rfl (by decide) (by omega) v466 y465 (⟨a1_0, a1_1, a1_2⟩ : S48) [.string a1_0, .int .i64 a1_1, .int .i64 a1_2] (fun k_ => k_ ≠ gb458) (fun _ => False) rfl rfl ?aP (fun _ hk => hk.elim) ?aF ?aO ?aB ?aS ?aL ?_; (case aP => exact k48_mkM _ _ _ (⟨a1_0, a1_1, a1_2⟩ : S48)); (case aB => exact bl_); (case aF => exact (fun k_ hk => Kd.freshB (kb_ BK458.out) k_ hk)); (case aO => exact (kr_ HO467.out)); (case aS => exact bz_); (case aL => have := LMc13.out; omega); intro v469 w38 ho hb hg hat; rw [← Ny468.out] at ho; replace BK458 := Aside0.mk (blk_grown (kb_ BK458.out) hg (Kd.R_away HO467.out (fun _ hk => hk))); replace HB := Aside0.mk (hb); have HO470 := Aside0.mk (ho); clear HO467 ho hb hg hat))
  replace HO470 := Aside0.mk (Kd.R_drew HO470.out)
  replace BK458 := Aside0.mk (blk_drew BK458.out)
  replace HB := Aside0.mk (below_drew1 HB.out)
  have p471 : 0 ≤ (x5_1 : Int) := of_decide_eq_true (by first | (with_reducible assumption) | assumption)
  have q471 : x5_1 < (l0.length : Int) := of_decide_eq_true (by first | (with_reducible assumption) | assumption)
  obtain ⟨ad471, e471, hx471_0, hx471_1, hx471_2⟩ := at_T48 HR0.out x5_1 p471 q471
  have hw471_2 := hx471_2
  have hw471_1 := hx471_1
  have hw471_0 := hx471_0
  obtain rfl : ad459 = ad471 := (by injection e471)
  replace hx471_0 := (HB.out.cell (World.block_lt_of_cell? w _ hx471_0)).trans hx471_0
  replace hx471_1 := (HB.out.cell (World.block_lt_of_cell? w _ hx471_1)).trans hx471_1
  replace hx471_2 := (HB.out.cell (World.block_lt_of_cell? w _ hx471_2)).trans hx471_2
  replace p471 := eq_true p471
  replace q471 := eq_true q471
  refine start_ (n := 12) (S := fun w' => w'.cell? ⟨gb458, 0, none⟩ = some (.string a1_0) ∧ w'.cell? ⟨gb458, 1, none⟩ = some (.int .i64 a1_1) ∧ w'.cell? ⟨gb458, 2, none⟩ = some (.int .i64 a1_2) ∧ w'.cell? (ad459.add ((x5_1).toNat * 3)) = some (.string ((rd_T48 l0 x5_1).f0)) ∧ w'.cell? ⟨(ad459.add ((x5_1).toNat * 3)).block, (ad459.add ((x5_1).toNat * 3)).off + 1, none⟩ = some (.int .i64 ((rd_T48 l0 x5_1).f1)) ∧ w'.cell? ⟨(ad459.add ((x5_1).toNat * 3)).block, (ad459.add ((x5_1).toNat * 3)).off + 2, none⟩ = some (.int .i64 ((rd_T48 l0 x5_1).f2))) (ds := []) #[false, false, false, false, false, false, false, false, false, false, false, false] (by kernel_rfl) rfl rfl ⟨bc_ BK458.out 0, bc_ BK458.out 1, bc_ BK458.out 2, ((HB.out.cell (World.block_lt_of_cell? w _ hw471_0)).trans hw471_0), ((HB.out.cell (World.block_lt_of_cell? w _ hw471_1)).trans hw471_1), ((HB.out.cell (World.block_lt_of_cell? w _ hw471_2)).trans hw471_2)⟩ (fun hHeld => ?_); refine with_tabW spec_l14Put.tab7 spec_l14Put.bits7 (fun HT_ HW_ => ?_)
  generalize w38.drew = w39 at HO470 BK458 HB hx471_0 hx471_1 hx471_2 hHeld ⊢
  refine pu_ 0 (some 30) (h := ?_)
  refine pu_ 1 (some 31) (h := ?_)
  refine pu_ 2 (some 32) (h := ?_)
  refine pu_ 3 (some 33) (h := ?_)
  refine pu_ 4 (some 34) (h := ?_)
  refine pu_ 5 (some 35) (h := ?_)
  refine pu_ 6 (some 36) (h := ?_)
  refine pu_ 7 (some 37) (h := ?_)
  refine tk6_ 8 (some 38) (h := ?_)
  refine tk6_ 9 (some 39) (h := ?_)
  refine on_ 10 (some 40) (h := fun K hK => ?_)
  refine goes_ Try.func27 (by kernel_rfl) rfl #[.agg #[.string ((rd_T48 l0 x5_1).f0), .int .i64 ((rd_T48 l0 x5_1).f1), .int .i64 ((rd_T48 l0 x5_1).f2)], .agg #[.string a1_0, .int .i64 a1_1, .int .i64 a1_2]] (by rfl) rfl rfl nc_ ?_
  with_reducible refine (spec_l14Same.calls ((rd_T48 l0 x5_1).f0) ((rd_T48 l0 x5_1).f1) ((rd_T48 l0 x5_1).f2) a1_0 a1_1 a1_2 false _ A14.out).mono ?_
  rintro e w40 ⟨rfl, hb⟩
  refine ⟨_, rfl, ?_⟩
  replace HO470 := rb_ HO470 hb
  replace BK458 := bb_ BK458 hb
  replace HB := Aside0.mk (below_step bl_ hb)
  clear hb
  refine hK.out _ _ ⟨bc_ BK458.out 0, bc_ BK458.out 1, bc_ BK458.out 2, ((HB.out.cell (World.block_lt_of_cell? w _ hw471_0)).trans hw471_0), ((HB.out.cell (World.block_lt_of_cell? w _ hw471_1)).trans hw471_1), ((HB.out.cell (World.block_lt_of_cell? w _ hw471_2)).trans hw471_2)⟩ (fun hHeld => ?_)
  clear hK K
  refine norm_ nn_ ?_
  refine pu_ 11 (some 41) (h := ?_)
  refine done_ (done_of HT_.out (by kernel_rfl)) ?_
  have q41 : (x5_1 : Int) ≤ ((l0.length : Int) : Int) := of_decide_eq_true (by first | (with_reducible assumption) | assumption)
  obtain ⟨i041, hi041, _, hsz41, _⟩ := info_parts info48
  have hroom41 : l0.length ≤ c0 := HC0.out
  have hC41 : Kd.C k48 _ (some ad459) l0.length l0 := HR0.out
  have q041 : (0 : Int) ≤ (x5_1 : Int) := of_decide_eq_true (by first | (with_reducible assumption) | assumption)
  have hcut41 := cut_from (P := Try.prog) 27 48 .i64 Try.underlying27 hi041 3 hsz41 (some ad459) l0.length c0 x5_1 q041 q41
  have hr41 := Kd.C_drop (m := (x5_1 : Int).toNat) (c := c0) hC41 (by omega) hroom41
  obtain ⟨A41, hA41⟩ : ∃ A1, A1 = (if c0 = (x5_1 : Int).toNat then (some ad459) else ((some ad459) : Option Addr).map (·.add ((x5_1 : Int).toNat * 3))) := ⟨_, rfl⟩
  obtain ⟨c41, hc41⟩ : ∃ c1, c1 = c0 - (x5_1 : Int).toNat := ⟨_, rfl⟩
  have hy41 : y480.length = l0.length - (x5_1 : Int).toNat := (by rw [Ny480.out, List.length_drop] <;> omega)
  rw [show (l0).drop (x5_1 : Int).toNat = y480 from Ny480.out.symm] at hr41
  replace hr41 : Kd.C k48 _ A41 y480.length y480 := (by rw [hA41]; exact hr41)
  rw [← hy41, ← hA41, ← hc41] at hcut41
  have HR483 := Aside0.mk hr41
  have HC483 := Aside0.mk (show y480.length ≤ c41 from by rw [hy41, hc41]; exact Nat.sub_le_sub_right hroom41 _)
  clear hr41 hC41 hroom41 hi041 hsz41 hc41
  have KY41 := Aside0.mk hy41
  have KA41 := Aside0.mk hA41
  clear hy41 hA41
  replace q41 := eq_true q41
  try go_wp2_with (first | ((with_reducible refine gate_builtin (b := .append) (xs := #[.tmp 44, .tmp 47]) rfl ?_); at_builtin; refine Kd.R_append_rows k48 (w0 := w) w.heap.size rfl (.tmp 44) (.tmp 47) 27 48 (.agg #[(.string ⟨#[]⟩), (.int .i64 0), (.int .i64 0)]) 32 rfl Try.underlying27 info48 rfl (by decide) (by omega) v469 y468 y480 _ _ _ (fun k_ => k_ ≠ gb458) (fun _ => False) rfl rfl ?aO ?aR (fun _ _ h => h) (fun _ h => h.elim) ?aF ?aB ?aS ?aL ?_; (case aR => exact kc_ (Kd.C_below HR483.out HB.out)); (case aB => exact bl_); (case aF => exact (fun k_ hk => Kd.freshB (kb_ BK458.out) k_ hk)); (case aO => exact (kr_ HO470.out)); (case aS => exact bz_); (case aL => have := LMc32.out; omega); intro v485 w42 ho hb hg hat; rw [← Ny484.out] at ho; replace BK458 := Aside0.mk (blk_grown (kb_ BK458.out) hg (Kd.R_away HO470.out (fun _ hk => hk))); replace HB := Aside0.mk (hb); have HO486 := Aside0.mk (ho); clear HO470 ho hb hg hat))
  go_ret
  exact ⟨_, ng_, by exact kr_ (Kd.R_mono HO486.out (fun _ hk => trivial)), bl_⟩
 subst c15
 have H1 : (if 0 ≤ (wrap64 (x5_1 + 1)) then (if (wrap64 (x5_1 + 1)) ≤ (l0.length : Int) then ((some (l0.drop ((wrap64 (x5_1 + 1)) : Int).toNat : List (S48))).bind fun y473 => (if y468.length + y473.length < 4398046511104 then (some (y468 ++ y473)) else (none))) else (none)) else (none)) = some r := by rw [if_pos rfl] at H; exact H
 clear H
 have H := H1
 clear H1
 obtain ⟨ji16, hji16⟩ : ∃ j_ : Int, (wrap64 (x5_1 + 1)) = j_ := ⟨_, rfl⟩
 replace H : (if 0 ≤ (ji16) then (if (ji16) ≤ (l0.length : Int) then ((some (l0.drop ((ji16) : Int).toNat : List (S48))).bind fun y473 => (if y468.length + y473.length < 4398046511104 then (some (y468 ++ y473)) else (none))) else (none)) else (none)) = some r := by first | (rw [hji16] at H; exact H) | (simp only [hji16] at H ⊢; exact H)
 (try rw [hji16] at A6)
 (try rw [hji16] at A14)
 have hji16w : (IntKind.i64.wrap (x5_1 + 1)) = ji16 := (i64_w _).trans hji16
 by_cases c17 : 0 ≤ (ji16)
 rotate_left
 ·rw [if_neg c17] at H
  exact absurd H (by simp)
 rw [if_pos c17] at H
 have c17b0 := eq_true c17
 have c17b1 : decide (0 ≤ (ji16)) = true := decide_eq_true c17
 clear c17
 by_cases c18 : (ji16) ≤ (l0.length : Int)
 rotate_left
 ·rw [if_neg c18] at H
  exact absurd H (by simp)
 rw [if_pos c18] at H
 have c18b0 := eq_true c18
 have c18b1 : decide ((ji16) ≤ (l0.length : Int)) = true := decide_eq_true c18
 clear c18
 obtain ⟨y473, hy473⟩ : ∃ y_ : List (S48), y_ = (l0.drop ((ji16) : Int).toNat) := ⟨_, rfl⟩
 replace H : (if y468.length + y473.length < 4398046511104 then (some (y468 ++ y473)) else (none)) = some r := by first | (rw [hy473]; with_reducible exact H) | (have H2_ := (Option.bind_some _ _).symm.trans H; rw [hy473]; with_reducible exact H2_) | (have H2_ := (Option.bind_some _ _).symm.trans H; with_reducible exact H2_) | with_reducible exact H | (rw [hy473]; exact H) | exact H
 have Ny473 := Aside0.mk hy473
 clear hy473
 by_cases c19 : y468.length + y473.length < 4398046511104
 rotate_left
 ·rw [if_neg c19] at H
  exact absurd H (by simp)
 rw [if_pos c19] at H
 have LMc19 := Aside0.mk c19
 clear c19
 obtain ⟨y477, hy477⟩ : ∃ y_ : List (S48), y_ = (y468 ++ y473) := ⟨_, rfl⟩
 replace H : (some y477) = some r := by first | (rw [hy477]; with_reducible exact H) | (have H2_ := (Option.bind_some _ _).symm.trans H; rw [hy477]; with_reducible exact H2_) | (have H2_ := (Option.bind_some _ _).symm.trans H; with_reducible exact H2_) | with_reducible exact H | (rw [hy477]; exact H) | exact H
 have Ny477 := Aside0.mk hy477
 clear hy477
 obtain rfl := Option.some.inj H
 try go_wp2
 replace BK458 := Aside0.mk (blk_drew BK458.out)
 replace HB := Aside0.mk (below_drew1 HB.out)
 have p459 : 0 ≤ (x5_1 : Int) := of_decide_eq_true (by first | (with_reducible assumption) | assumption)
 have q459 : x5_1 < (l0.length : Int) := of_decide_eq_true (by first | (with_reducible assumption) | assumption)
 obtain ⟨ad459, e459, hx459_0, hx459_1, hx459_2⟩ := at_T48 HR0.out x5_1 p459 q459
 have hw459_2 := hx459_2
 have hw459_1 := hx459_1
 have hw459_0 := hx459_0
 cases e459
 replace hx459_0 := (HB.out.cell (World.block_lt_of_cell? w _ hx459_0)).trans hx459_0
 replace hx459_1 := (HB.out.cell (World.block_lt_of_cell? w _ hx459_1)).trans hx459_1
 replace hx459_2 := (HB.out.cell (World.block_lt_of_cell? w _ hx459_2)).trans hx459_2
 replace p459 := eq_true p459
 replace q459 := eq_true q459
 refine start_ (n := 12) (S := fun w' => w'.cell? ⟨gb458, 0, none⟩ = some (.string a1_0) ∧ w'.cell? ⟨gb458, 1, none⟩ = some (.int .i64 a1_1) ∧ w'.cell? ⟨gb458, 2, none⟩ = some (.int .i64 a1_2) ∧ w'.cell? (ad459.add ((x5_1).toNat * 3)) = some (.string ((rd_T48 l0 x5_1).f0)) ∧ w'.cell? ⟨(ad459.add ((x5_1).toNat * 3)).block, (ad459.add ((x5_1).toNat * 3)).off + 1, none⟩ = some (.int .i64 ((rd_T48 l0 x5_1).f1)) ∧ w'.cell? ⟨(ad459.add ((x5_1).toNat * 3)).block, (ad459.add ((x5_1).toNat * 3)).off + 2, none⟩ = some (.int .i64 ((rd_T48 l0 x5_1).f2))) (ds := []) #[false, false, false, false, false, false, false, false, false, false, false, false] (by kernel_rfl) rfl rfl ⟨bc_ BK458.out 0, bc_ BK458.out 1, bc_ BK458.out 2, ((HB.out.cell (World.block_lt_of_cell? w _ hw459_0)).trans hw459_0), ((HB.out.cell (World.block_lt_of_cell? w _ hw459_1)).trans hw459_1), ((HB.out.cell (World.block_lt_of_cell? w _ hw459_2)).trans hw459_2)⟩ (fun hHeld => ?_); refine with_tabW spec_l14Put.tab2 spec_l14Put.bits2 (fun HT_ HW_ => ?_)
 generalize wr.drew = w20 at BK458 HB hx459_0 hx459_1 hx459_2 hHeld ⊢
 refine pu_ 0 (some 7) (h := ?_)
 refine pu_ 1 (some 8) (h := ?_)
 refine pu_ 2 (some 9) (h := ?_)
 refine pu_ 3 (some 10) (h := ?_)
 refine pu_ 4 (some 11) (h := ?_)
 refine pu_ 5 (some 12) (h := ?_)
 refine pu_ 6 (some 13) (h := ?_)
 refine pu_ 7 (some 14) (h := ?_)
 refine tk6_ 8 (some 15) (h := ?_)
 refine tk6_ 9 (some 16) (h := ?_)
 refine on_ 10 (some 17) (h := fun K hK => ?_)
 refine goes_ Try.func53 (by kernel_rfl) rfl #[.agg #[.string ((rd_T48 l0 x5_1).f0), .int .i64 ((rd_T48 l0 x5_1).f1), .int .i64 ((rd_T48 l0 x5_1).f2)], .agg #[.string a1_0, .int .i64 a1_1, .int .i64 a1_2]] (by rfl) rfl rfl nc_ ?_
 with_reducible refine (spec_l14Less.calls ((rd_T48 l0 x5_1).f0) ((rd_T48 l0 x5_1).f1) ((rd_T48 l0 x5_1).f2) a1_0 a1_1 a1_2 false _ A6.out).mono ?_
 rintro e w21 ⟨rfl, hb⟩
 refine ⟨_, rfl, ?_⟩
 replace BK458 := bb_ BK458 hb
 replace HB := Aside0.mk (below_step bl_ hb)
 clear hb
 refine hK.out _ _ ⟨bc_ BK458.out 0, bc_ BK458.out 1, bc_ BK458.out 2, ((HB.out.cell (World.block_lt_of_cell? w _ hw459_0)).trans hw459_0), ((HB.out.cell (World.block_lt_of_cell? w _ hw459_1)).trans hw459_1), ((HB.out.cell (World.block_lt_of_cell? w _ hw459_2)).trans hw459_2)⟩ (fun hHeld => ?_)
 clear hK K
 refine norm_ nn_ ?_
 refine pu_ 11 (some 18) (h := ?_)
 refine done_ (done_of HT_.out (by kernel_rfl)) ?_
 have q22 : (x5_1 : Int) ≤ ((l0.length : Int) : Int) := of_decide_eq_true (by first | (with_reducible assumption) | assumption)
 obtain ⟨i022, hi022, _, hsz22, _⟩ := info_parts info48
 have hroom22 : l0.length ≤ c0 := HC0.out
 have hC22 : Kd.C k48 _ (some ad459) l0.length l0 := HR0.out
 have hcut22 := cut_to (P := Try.prog) 27 48 .i64 Try.underlying27 hi022 (some ad459) l0.length c0 x5_1 (of_decide_eq_true (by first | (with_reducible assumption) | assumption)) q22 hroom22
 have hr22 := Kd.C_take (m := (x5_1 : Int).toNat) hC22 (by omega)
 have hy22 : y461.length = (x5_1 : Int).toNat := (by rw [Ny461.out, List.length_take]; omega)
 rw [← Ny461.out] at hr22
 rw [← hy22] at hcut22
 have HR464 := Aside0.mk hr22
 have HC464 := Aside0.mk (show y461.length ≤ c0 from by omega)
 clear hr22 hC22 hroom22 hi022 hsz22
 have KY22 := Aside0.mk hy22
 clear hy22
 replace q22 := eq_true q22
 try go_wp2_with (first | ((with_reducible refine gate_builtin (b := .append) (xs := #[.tmp 21, .tmp 24]) rfl ?_); at_builtin; refine Kd.R_append_rows k48 (w0 := w) w.heap.size rfl (.tmp 21) (.tmp 24) 27 48 (.agg #[(.string ⟨#[]⟩), (.int .i64 0), (.int .i64 0)]) 32 rfl Try.underlying27 info48 rfl (by decide) (by omega) (.slice none 0 0) ([] : List (S48)) y461 _ _ _ (fun k_ => k_ ≠ gb458) (fun _ => False) rfl rfl ?aO ?aR (fun _ _ h => h) (fun _ h => h.elim) ?aF ?aB ?aS ?aL ?_; (case aR => exact kc_ (Kd.C_below HR464.out HB.out)); (case aB => exact bl_); (case aF => exact (fun k_ hk => Kd.freshB (kb_ BK458.out) k_ hk)); (case aO => exact ((Kd.R_nil _ _ _ _ (fun k_ => k_ ≠ gb458)))); (case aS => exact bz_); (case aL => have := LMc12.out; omega); intro v466 w23 ho hb hg hat; rw [← Ny465.out] at ho; replace BK458 := Aside0.mk (blk_grown (kb_ BK458.out) hg (by simp [Value.ownBlock])); replace HB := Aside0.mk (hb); have HO467 := Aside0.mk (ho); clear ho hb hg hat; have hcz24_0 : w23.cell? ⟨gb458, 0, none⟩ = some (.string a1_0) := bc_ BK458.out 0; have hcz24_1 : w23.cell? ⟨gb458, 1, none⟩ = some (.int .i64 a1_1) := bc_ BK458.out 1; have hcz24_2 : w23.cell? ⟨gb458, 2, none⟩ = some (.int .i64 a1_2) := bc_ BK458.out 2; have hfz24_0 := blk_frozen BK458.out 0; have hfz24_1 := blk_frozen BK458.out 1; have hfz24_2 := blk_frozen BK458.out 2) | ((with_reducible refine gate_builtin (b := .append) (xs := #[.tmp 26, .tmp 28]) rfl ?_); at_builtin; refine Kd.R_append k48 (w0 := w) w.heap.size rfl (.tmp 26) (.tmp 28) 27 48 (.agg #[(.string ⟨#[]⟩), (.int .i64 0), (.int .i64 0)]) 32 rfl Try.underlying27 info48 rfl (by decide) (by omega) v466 y465 (⟨a1_0, a1_1, a1_2⟩ : S48) [.string a1_0, .int .i64 a1_1, .int .i64 a1_2] (fun k_ => k_ ≠ gb458) (fun _ => False) rfl rfl ?aP (fun _ hk => hk.elim) ?aF ?aO ?aB ?aS ?aL ?_; (case aP => exact k48_mkM _ _ _ (⟨a1_0, a1_1, a1_2⟩ : S48)); (case aB => exact bl_); (case aF => exact (fun k_ hk => Kd.freshB (kb_ BK458.out) k_ hk)); (case aO => exact (kr_ HO467.out)); (case aS => exact bz_); (case aL => have := LMc13.out; omega); intro v469 w25 ho hb hg hat; rw [← Ny468.out] at ho; replace BK458 := Aside0.mk (blk_grown (kb_ BK458.out) hg (Kd.R_away HO467.out (fun _ hk => hk))); replace HB := Aside0.mk (hb); have HO470 := Aside0.mk (ho); clear HO467 ho hb hg hat))
 replace HO470 := Aside0.mk (Kd.R_drew HO470.out)
 replace BK458 := Aside0.mk (blk_drew BK458.out)
 replace HB := Aside0.mk (below_drew1 HB.out)
 have p471 : 0 ≤ (x5_1 : Int) := of_decide_eq_true (by first | (with_reducible assumption) | assumption)
 have q471 : x5_1 < (l0.length : Int) := of_decide_eq_true (by first | (with_reducible assumption) | assumption)
 obtain ⟨ad471, e471, hx471_0, hx471_1, hx471_2⟩ := at_T48 HR0.out x5_1 p471 q471
 have hw471_2 := hx471_2
 have hw471_1 := hx471_1
 have hw471_0 := hx471_0
 obtain rfl : ad459 = ad471 := (by injection e471)
 replace hx471_0 := (HB.out.cell (World.block_lt_of_cell? w _ hx471_0)).trans hx471_0
 replace hx471_1 := (HB.out.cell (World.block_lt_of_cell? w _ hx471_1)).trans hx471_1
 replace hx471_2 := (HB.out.cell (World.block_lt_of_cell? w _ hx471_2)).trans hx471_2
 replace p471 := eq_true p471
 replace q471 := eq_true q471
 refine start_ (n := 12) (S := fun w' => w'.cell? ⟨gb458, 0, none⟩ = some (.string a1_0) ∧ w'.cell? ⟨gb458, 1, none⟩ = some (.int .i64 a1_1) ∧ w'.cell? ⟨gb458, 2, none⟩ = some (.int .i64 a1_2) ∧ w'.cell? (ad459.add ((x5_1).toNat * 3)) = some (.string ((rd_T48 l0 x5_1).f0)) ∧ w'.cell? ⟨(ad459.add ((x5_1).toNat * 3)).block, (ad459.add ((x5_1).toNat * 3)).off + 1, none⟩ = some (.int .i64 ((rd_T48 l0 x5_1).f1)) ∧ w'.cell? ⟨(ad459.add ((x5_1).toNat * 3)).block, (ad459.add ((x5_1).toNat * 3)).off + 2, none⟩ = some (.int .i64 ((rd_T48 l0 x5_1).f2))) (ds := []) #[false, false, false, false, false, false, false, false, false, false, false, false] (by kernel_rfl) rfl rfl ⟨bc_ BK458.out 0, bc_ BK458.out 1, bc_ BK458.out 2, ((HB.out.cell (World.block_lt_of_cell? w _ hw471_0)).trans hw471_0), ((HB.out.cell (World.block_lt_of_cell? w _ hw471_1)).trans hw471_1), ((HB.out.cell (World.block_lt_of_cell? w _ hw471_2)).trans hw471_2)⟩ (fun hHeld => ?_); refine with_tabW spec_l14Put.tab7 spec_l14Put.bits7 (fun HT_ HW_ => ?_)
 generalize w25.drew = w26 at HO470 BK458 HB hx471_0 hx471_1 hx471_2 hHeld ⊢
 refine pu_ 0 (some 30) (h := ?_)
 refine pu_ 1 (some 31) (h := ?_)
 refine pu_ 2 (some 32) (h := ?_)
 refine pu_ 3 (some 33) (h := ?_)
 refine pu_ 4 (some 34) (h := ?_)
 refine pu_ 5 (some 35) (h := ?_)
 refine pu_ 6 (some 36) (h := ?_)
 refine pu_ 7 (some 37) (h := ?_)
 refine tk6_ 8 (some 38) (h := ?_)
 refine tk6_ 9 (some 39) (h := ?_)
 refine on_ 10 (some 40) (h := fun K hK => ?_)
 refine goes_ Try.func27 (by kernel_rfl) rfl #[.agg #[.string ((rd_T48 l0 x5_1).f0), .int .i64 ((rd_T48 l0 x5_1).f1), .int .i64 ((rd_T48 l0 x5_1).f2)], .agg #[.string a1_0, .int .i64 a1_1, .int .i64 a1_2]] (by rfl) rfl rfl nc_ ?_
 with_reducible refine (spec_l14Same.calls ((rd_T48 l0 x5_1).f0) ((rd_T48 l0 x5_1).f1) ((rd_T48 l0 x5_1).f2) a1_0 a1_1 a1_2 true _ A14.out).mono ?_
 rintro e w27 ⟨rfl, hb⟩
 refine ⟨_, rfl, ?_⟩
 replace HO470 := rb_ HO470 hb
 replace BK458 := bb_ BK458 hb
 replace HB := Aside0.mk (below_step bl_ hb)
 clear hb
 refine hK.out _ _ ⟨bc_ BK458.out 0, bc_ BK458.out 1, bc_ BK458.out 2, ((HB.out.cell (World.block_lt_of_cell? w _ hw471_0)).trans hw471_0), ((HB.out.cell (World.block_lt_of_cell? w _ hw471_1)).trans hw471_1), ((HB.out.cell (World.block_lt_of_cell? w _ hw471_2)).trans hw471_2)⟩ (fun hHeld => ?_)
 clear hK K
 refine norm_ nn_ ?_
 refine pu_ 11 (some 41) (h := ?_)
 refine done_ (done_of HT_.out (by kernel_rfl)) ?_
 have q28 : ((ji16) : Int) ≤ ((l0.length : Int) : Int) := of_decide_eq_true (by first | (with_reducible assumption) | assumption)
 obtain ⟨i028, hi028, _, hsz28, _⟩ := info_parts info48
 have hroom28 : l0.length ≤ c0 := HC0.out
 have hC28 : Kd.C k48 _ (some ad459) l0.length l0 := HR0.out
 have q028 : (0 : Int) ≤ ((ji16) : Int) := of_decide_eq_true (by first | (with_reducible assumption) | assumption)
 have hcut28 := cut_from (P := Try.prog) 27 48 .i64 Try.underlying27 hi028 3 hsz28 (some ad459) l0.length c0 (ji16) q028 q28
 have hr28 := Kd.C_drop (m := ((ji16) : Int).toNat) (c := c0) hC28 (by omega) hroom28
 obtain ⟨A28, hA28⟩ : ∃ A1, A1 = (if c0 = ((ji16) : Int).toNat then (some ad459) else ((some ad459) : Option Addr).map (·.add (((ji16) : Int).toNat * 3))) := ⟨_, rfl⟩
 obtain ⟨c28, hc28⟩ : ∃ c1, c1 = c0 - ((ji16) : Int).toNat := ⟨_, rfl⟩
 have hy28 : y473.length = l0.length - ((ji16) : Int).toNat := (by rw [Ny473.out, List.length_drop] <;> omega)
 rw [show (l0).drop ((ji16) : Int).toNat = y473 from Ny473.out.symm] at hr28
 replace hr28 : Kd.C k48 _ A28 y473.length y473 := (by rw [hA28]; exact hr28)
 rw [← hy28, ← hA28, ← hc28] at hcut28
 have HR476 := Aside0.mk hr28
 have HC476 := Aside0.mk (show y473.length ≤ c28 from by rw [hy28, hc28]; exact Nat.sub_le_sub_right hroom28 _)
 clear hr28 hC28 hroom28 hi028 hsz28 hc28
 have KY28 := Aside0.mk hy28
 have KA28 := Aside0.mk hA28
 clear hy28 hA28
 replace q28 := eq_true q28
 try go_wp2_with (first | ((with_reducible refine gate_builtin (b := .append) (xs := #[.tmp 44, .tmp 47]) rfl ?_); at_builtin; refine Kd.R_append_rows k48 (w0 := w) w.heap.size rfl (.tmp 44) (.tmp 47) 27 48 (.agg #[(.string ⟨#[]⟩), (.int .i64 0), (.int .i64 0)]) 32 rfl Try.underlying27 info48 rfl (by decide) (by omega) v469 y468 y473 _ _ _ (fun k_ => k_ ≠ gb458) (fun _ => False) rfl rfl ?aO ?aR (fun _ _ h => h) (fun _ h => h.elim) ?aF ?aB ?aS ?aL ?_; (case aR => exact kc_ (Kd.C_below HR476.out HB.out)); (case aB => exact bl_); (case aF => exact (fun k_ hk => Kd.freshB (kb_ BK458.out) k_ hk)); (case aO => exact (kr_ HO470.out)); (case aS => exact bz_); (case aL => have := LMc19.out; omega); intro v478 w29 ho hb hg hat; rw [← Ny477.out] at ho; replace BK458 := Aside0.mk (blk_grown (kb_ BK458.out) hg (Kd.R_away HO470.out (fun _ hk => hk))); replace HB := Aside0.mk (hb); have HO479 := Aside0.mk (ho); clear HO470 ho hb hg hat))
 go_ret
 exact ⟨_, by first | rfl | (simp [errW_none, errW_some] <;> rfl) | (simp only [← hji16]; first | rfl | (simp [errW_none, errW_some] <;> rfl)) | (simp [*, errW_none, errW_some] <;> rfl), by exact kr_ (Kd.R_mono HO479.out (fun _ hk => trivial)), bl_⟩

end Go.Proofs.Ytdnapgnnliibfaa.PMB
