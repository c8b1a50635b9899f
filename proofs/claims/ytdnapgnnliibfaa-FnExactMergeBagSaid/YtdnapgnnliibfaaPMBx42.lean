/- What this text proves (a hand-built part): impl.MergeBag's second closure, slices.DeleteFunc at adds with it, on a row of one's own. Conditions: as each theorem says. -/
import Derived.Test.YtdnapgnnliibfaaPMBx0
import Derived.Test.YtdnapgnnliibfaaPMBx1
import Derived.Test.YtdnapgnnliibfaaPMBx6
import Derived.Test.YtdnapgnnliibfaaPMBx23
import Derived.Test.YtdnapgnnliibfaaPMBx40
namespace Go.Proofs.Ytdnapgnnliibfaa.PMB
open Go.RowKit Go.Proofs.YtdnapgnnliibfaaW.PrintWords Go.Proofs.YtdnapgnnliibfaaW.PrintLast Go.Proofs.YtdnapgnnliibfaaW.PrintMore
attribute [local go_sem] max2_int min2_int max_two min_two max_three min_three max_four min_four   -- for this text's walks alone
set_option linter.unusedVariables false
set_option linter.unusedSimpArgs false

attribute [local go_sem high] eqA48
-- NOT PRINTED: function 80 (impl_Add_80)

-- NOT PRINTED: function 94 (impl_Add_94)

-- NOT PRINTED: function 81 (impl_Add_81)

-- NOT PRINTED: function 82 (impl_Add_82)

-- NOT PRINTED: function 98 (impl_Add_98)

-- NOT PRINTED: function 96 (impl_Add_96)

-- NOT PRINTED: function 95 (impl_Add_95)

-- NOT PRINTED: function 83 (impl_Add_83)

-- NOT PRINTED: function 84 (impl_Add_84)

-- NOT PRINTED: function 85 (impl_Add_85)

-- NOT PRINTED: function 86 (impl_Add_86)

-- NOT PRINTED: function 87 (impl_Add_87)

-- NOT PRINTED: function 67 (impl_Add_67)

-- NOT PRINTED: function 59 (impl_Add_59)

/-! ### impl_MergeBag_2: function 42 -/
theorem impl_MergeBag_2.calls (k : Nat) (x : S48) (A1 : Option Addr) (c1 : Nat) (m : List (S48)) (r : Bool) (w : World) (hr1 : Kd.C k48 w A1 m.length m) (hc1 : m.length ≤ c1) (h : impl_Add_43.f k m x.f0 x.f1 x.f2 = some r) {g : Nat} (hbk : w.heap[g]? = some (.cells #[.slice A1 m.length c1] 27 (0, 0))) :
  Calls Try.prog 42 #[.agg #[.string x.f0, .int .i64 x.f1, .int .i64 x.f2], .pointer (some ⟨g, 0, none⟩)] w fun e w' => e = .returned (.bool r) ∧ Below w.heap.size w w' := by
 have hu48 := Try.underlying48
 have HR1 := Aside0.mk hr1
 have HC1 := Aside0.mk hc1
 have HH := Aside0.mk h
 have BK := Aside0.mk hbk
 have HB := Aside0.mk (Below.refl w.heap.size w)
 clear hr1 hc1 h hbk
 go_enter Try.func42, Try.ntmps42
 go_wp2_with (first | ((with_reducible refine gate_dst (N := 2) rfl ?_); refine box_event rfl (N := 2) rfl (cs := #[.string x.f0, .int .i64 x.f1, .int .i64 x.f2]) (t := 48) gs_ ?_; intro gb hg w6 hbox hb; have n0_ := Aside0.mk (blk_below BK.out hb); have n1_ := Aside0.mk (below_step HB.out hb); have n2_ := Aside0.mk (hbox); clear BK HB; have BK := n0_; have HB := n1_; have BKb := n2_; clear n0_ n1_ n2_ hb hbox hg; have hcz_0 : w6.cell? ⟨gb, 0, none⟩ = some (.string x.f0) := bc_ BKb.out 0; have hcz_1 : w6.cell? ⟨gb, 1, none⟩ = some (.int .i64 x.f1) := bc_ BKb.out 1; have hcz_2 : w6.cell? ⟨gb, 2, none⟩ = some (.int .i64 x.f2) := bc_ BKb.out 2; have hfz_0 := blk_frozen BKb.out 0; have hfz_1 := blk_frozen BKb.out 1; have hfz_2 := blk_frozen BKb.out 2; have hcy_0 : w6.cell? ⟨g, 0, none⟩ = some (.slice A1 m.length c1) := bc_ BK.out 0; have hfy_0 := blk_frozen BK.out 0) | (go_at_call 43; (with_reducible refine (impl_Add_43.calls k A1 c1 m x.f0 x.f1 x.f2 r _ ?s1 HC1.out HH.out).mono ?_); (case s1 => exact Kd.C_below HR1.out HB.out); rintro e w10 ⟨rfl, hb⟩; have n0_ := Aside0.mk (below_step HB.out hb); clear HB; have HB := n0_; clear n0_ hb))
 go_ret
 exact ⟨rfl, HB.out⟩

/-! ### impl_Add_41: function 41 -/
def impl_Add_41.l0 : Nat → List (S48) → List (S48) → Int → Int → Option ((List (S48)))
 | 0, _, _, _, _ => none
 | k + 1, m, x0, x5, x6 => if x6 < (x0.length : Int) then (if 0 ≤ x6 then ((impl_Add_43.f k m ((rd_T48 x0 x6).f0) ((rd_T48 x0 x6).f1) ((rd_T48 x0 x6).f2)).bind fun t592 => (if t592 = true then (impl_Add_41.l0 k m x0 x5 (wrap64 (x6 + 1))) else (if 0 ≤ x5 then (if x5 < (x0.length : Int) then (impl_Add_41.l0 k m (x0.set (x5 : Int).toNat (⟨(rd_T48 x0 x6).f0, (rd_T48 x0 x6).f1, (rd_T48 x0 x6).f2⟩ : S48)) (wrap64 (x5 + 1)) (wrap64 (x6 + 1))) else (none)) else (none)))) else (none)) else (if 0 ≤ x5 then (if x5 < (x0.length : Int) then (some (x0.take (x5 : Int).toNat)) else (none)) else (none))
def impl_Add_41.f (k : Nat) (l0 : List (S48)) (m : List (S48)) : Option ((List (S48))) := (idxO (fun x : S48 => impl_Add_43.f k m x.f0 x.f1 x.f2) l0 0).bind fun a2 => (if a2 = (-1) then (some l0) else (impl_Add_41.l0 k m l0 a2 (wrap64 (a2 + 1))))
theorem impl_Add_41.mono_l : ∀ k, (∀ y y0 y1 y2, LeO (impl_Add_41.l0 k y y0 y1 y2) (impl_Add_41.l0 (k + 1) y y0 y1 y2))
 | 0 => fun _ _ _ _ r h => by simp [impl_Add_41.l0] at h
 | k + 1 => by
  have ih0 := impl_Add_41.mono_l k
  ·intro y y0 y1 y2
   unfold impl_Add_41.l0
   repeat' first
   | (with_reducible exact ih0 _ _ _ _)
   | (with_reducible exact impl_Add_43.mono _ _ _ _ _)
   | (with_reducible exact LeO.refl _)
   | (with_reducible exact LeO.none _)
   | (with_reducible refine LeO.ite ?_ ?_)
   | (with_reducible refine LeO.bind ?_ (fun _ => ?_))
   | exact ih0 _ _ _ _
   | exact LeO.none _
   | refine LeO.ite ?_ ?_
   | refine LeO.bind ?_ (fun _ => ?_)
theorem impl_Add_41.mono : ∀ a0 a1 k, LeO (impl_Add_41.f k a0 a1) (impl_Add_41.f (k + 1) a0 a1) := by
 intro a0 a1 k
 unfold impl_Add_41.f
 exact LeO.bind (idxO_le (fun x => impl_Add_43.mono _ _ _ _ k) _ _) (fun _ => LeO.ite (LeO.refl _) (impl_Add_41.mono_l k _ _ _ _))
set_option maxHeartbeats 8000000 in
set_option maxRecDepth 100000 in
theorem impl_Add_41.calls (k : Nat) (P0_ : Nat → Prop) (u9000_ : Value) (l0 : List (S48)) (A1 : Option Addr) (c1 : Nat) (m : List (S48)) (r : List (S48)) (w0 w : World) (hB : Below w0.heap.size w0 w) (ho0 : Kd.R k48 48 w w0.heap.size P0_ u9000_ l0) (h : impl_Add_41.f k l0 m = some r) (hm : ∀ W', Kept w W' (fun k_ => P0_ k_) → Kd.C k48 W' A1 m.length m) (hc1 : m.length ≤ c1) {g9 : Nat} (hb9 : ∀ W', Kept w W' (fun k_ => P0_ k_) → W'.heap[g9]? = some (.cells #[.slice A1 m.length c1] 27 (0, 0))) :
  Calls Try.prog 41 #[u9000_, .func (.func 42) #[] #[.pointer (some ⟨g9, 0, none⟩)]] w fun e w' => ∃ v0_ : Value, e = .returned (v0_) ∧ Kd.R k48 48 w' w0.heap.size (fun k_ => (P0_ k_ ∨ w.heap.size ≤ k_)) v0_ r ∧ Below w0.heap.size w0 w' ∧ Kept w w' (fun k_ => P0_ k_) := by
 have hu48 := Try.underlying48
 have HO0 := Aside0.mk (show Kd.R k48 48 w w0.heap.size (fun k_ => (P0_ k_ ∨ w.heap.size ≤ k_)) u9000_ l0 from Kd.R_mono ho0 (fun k_ hk => (.inl hk)))
 have HK := Aside0.mk (Kept.refl w (fun k_ => P0_ k_))
 have HW0 := Aside0.mk hB.size
 have HB := Aside0.mk hB
 clear hB
 have HM := Aside0.mk hm
 have H9 := Aside0.mk hb9
 have HC1 := Aside0.mk hc1
 unfold impl_Add_41.f at h
 obtain ⟨a2, hi9, H⟩ := Option.bind_eq_some_iff.mp h
 clear h
 have HIDX := Aside0.mk (show ∀ W, Below w.heap.size w W → Calls Try.prog 61 #[u9000_, .func (.func 42) #[] #[.pointer (some ⟨g9, 0, none⟩)]] W fun e w' => e = .returned (.int .i64 a2) ∧ Below W.heap.size W w' from fun W hW => by
  obtain ⟨A, c, e⟩ := Kd.R_slice ho0
  rw [e] at ho0 ⊢
  exact idxT48.any 42 #[.pointer (some ⟨g9, 0, none⟩)] (Go.Proofs.enters_of Try.func42 (by kernel_rfl) rfl) (fun x : S48 => impl_Add_43.f k m x.f0 x.f1 x.f2) A c l0 a2 W (fun x b W' hx hB_ => impl_MergeBag_2.calls k x A1 c1 m b W' (hm W' (Kept.below (Kept.of_below hW _) hB_)) hc1 hx (hb9 W' (Kept.below (Kept.of_below hW _) hB_))) (Kd.C_below (Kd.R_reads' ho0).2.2 hW) hi9)
 clear hm hb9 hc1 hi9
 by_cases c4 : a2 = (-1)
 ·rw [if_pos c4] at H
  have c4b0 : (a2 == (-1)) = true := beq_iff_eq.mpr c4
  have c4b1 : (a2 != (-1)) = false := bne_eq_false_iff_eq.mpr c4
  clear c4
  obtain rfl := Option.some.inj H
  go_enter Try.func41, Try.ntmps41
  go_wp2_with (go_at_call 61; refine (HIDX.out _ (by repeat (first | exact Below.refl _ _ | apply below_alloc | apply pw_below_drewN | apply below_drew1))).mono ?_; rintro e w1_ ⟨rfl, hb⟩; have n0_ := rb_ HO0 hb; have n1_ := Aside0.mk (Kept.below (S := (fun k_ => P0_ k_)) (by repeat (first | (with_reducible first | exact HK.out | apply Kept.alloc | apply Kept.drewN | apply Kept.drew) | exact HK.out)) hb); have n2_ := Aside0.mk (below_step bl_ hb); clear HO0 HK HB; have HO0 := n0_; have HK := n1_; have HB := n2_; clear n0_ n1_ n2_ hb)
  go_ret
  exact ⟨_, ng_, by exact kr_ HO0.out, bl_, by repeat (first | (with_reducible first | exact HK.out | apply Kept.alloc | apply Kept.drewN | apply Kept.drew) | exact HK.out)⟩
 rw [if_neg c4] at H
 have c4b0 : (a2 == (-1)) = false := beq_eq_false_iff_ne.mpr c4
 have c4b1 : (a2 != (-1)) = true := bne_iff_ne.mpr c4
 have H' := Aside0.mk H
 clear H
 go_enter Try.func41, Try.ntmps41
 go_wp2_with (go_at_call 61; refine (HIDX.out _ (by repeat (first | exact Below.refl _ _ | apply below_alloc | apply pw_below_drewN | apply below_drew1))).mono ?_; rintro e w1_ ⟨rfl, hb⟩; have n0_ := rb_ HO0 hb; have n1_ := Aside0.mk (Kept.below (S := (fun k_ => P0_ k_)) (by repeat (first | (with_reducible first | exact HK.out | apply Kept.alloc | apply Kept.drewN | apply Kept.drew) | exact HK.out)) hb); have n2_ := Aside0.mk (below_step bl_ hb); clear HO0 HK HB; have HO0 := n0_; have HK := n1_; have HB := n2_; clear n0_ n1_ n2_ hb)
 go_loopg [5, 6] k (fun kq v5 v6 w' => ∃ (x0_1 : List (S48)) (x5_1 : Int) (x6_1 : Int), v5 = .int .i64 x5_1 ∧ v6 = .int .i64 x6_1 ∧ Aside0 (impl_Add_41.l0 kq m x0_1 x5_1 x6_1 = some r) ∧ Aside0 (kq ≤ k) ∧ Aside0 (Kd.R k48 48 w' w0.heap.size (fun k_ => (P0_ k_ ∨ w.heap.size ≤ k_)) u9000_ x0_1) ∧ Aside0 (Kept w w' (fun k_ => P0_ k_)) ∧ Aside0 (Below w0.heap.size w0 w'))
 case atStart => exact ⟨(l0), (a2), (wrap64 (a2 + 1)), (by first | rfl | (simp; done) | (simp [*]; done)), (by first | rfl | (simp; done) | (simp [*]; done)), H', ⟨Nat.le_refl _⟩, ⟨by exact kr_ HO0.out⟩, ⟨by repeat (first | (with_reducible first | exact HK.out | apply Kept.alloc | apply Kept.drewN | apply Kept.drew) | exact HK.out)⟩, ⟨bl_⟩⟩
 clear H'
 try clear c4
 try clear c4b0
 try clear c4b1
 obtain ⟨x0_1, x5_1, x6_1, rfl, rfl, HA, HK1, HO_0, HK, HB⟩ := hrel
 cases gk with
 | zero => exact absurd HA.out (by simp [impl_Add_41.l0])
 | succ k1 => ?_
 have H := HA.out
 clear HA
 simp only [impl_Add_41.l0] at H
 by_cases c5 : x6_1 < (x0_1.length : Int)
 rotate_left
 ·rw [if_neg c5] at H
  have c5b0 : decide (x6_1 < (x0_1.length : Int)) = false := decide_eq_false c5
  clear c5
  by_cases c23 : 0 ≤ x5_1
  rotate_left
  ·rw [if_neg c23] at H
   exact absurd H (by simp)
  rw [if_pos c23] at H
  have c23b0 := eq_true c23
  have c23b1 : decide (0 ≤ x5_1) = true := decide_eq_true c23
  clear c23
  by_cases c24 : x5_1 < (x0_1.length : Int)
  rotate_left
  ·rw [if_neg c24] at H
   exact absurd H (by simp)
  rw [if_pos c24] at H
  have c24L := Aside0.mk (And.intro (of_eq_true c23b0) c24)
  replace c24 : x5_1 ≤ (x0_1.length : Int) := Int.le_of_lt c24
  have c24b0 := eq_true c24
  have c24b1 : decide (x5_1 ≤ (x0_1.length : Int)) = true := decide_eq_true c24
  clear c24
  obtain ⟨y594, hy594⟩ : ∃ y_ : List (S48), y_ = (x0_1.drop (x5_1 : Int).toNat) := ⟨_, rfl⟩
  replace H : (some (x0_1.take (x5_1 : Int).toNat)) = some r := by first | (rw [hy594]; with_reducible exact H) | (have H2_ := (Option.bind_some _ _).symm.trans H; rw [hy594]; with_reducible exact H2_) | (have H2_ := (Option.bind_some _ _).symm.trans H; with_reducible exact H2_) | with_reducible exact H | (rw [hy594]; exact H) | exact H
  have Ny594 := Aside0.mk hy594
  clear hy594
  have c25b0 := eq_true (of_decide_eq_true (by first | (with_reducible assumption) | assumption) : x5_1 ≤ (x0_1.length : Int))
  obtain ⟨y598, hy598⟩ : ∃ y_ : List (S48), y_ = (x0_1.take (x5_1 : Int).toNat) := ⟨_, rfl⟩
  replace H : (some y598) = some r := by first | (rw [hy598]; with_reducible exact H) | (have H2_ := (Option.bind_some _ _).symm.trans H; rw [hy598]; with_reducible exact H2_) | (have H2_ := (Option.bind_some _ _).symm.trans H; with_reducible exact H2_) | with_reducible exact H | (rw [hy598]; exact H) | exact H
  have Ny598 := Aside0.mk hy598
  clear hy598
  obtain rfl := Option.some.inj H
  obtain ⟨Ao26, co26, eo26⟩ := Kd.R_slice HO_0.out
  subst eo26
  obtain ⟨go30, co30, eo30, gb30, gl30, cl30, HG30⟩ := Kd.R_form HO_0.out (by have := c24L.out; omega)
  obtain rfl : Ao26 = some ⟨go30, 0, none⟩ := by injection eo30
  have q27 : (x5_1 : Int) ≤ ((x0_1.length : Int) : Int) := of_decide_eq_true (by first | (with_reducible assumption) | assumption)
  obtain ⟨i027, hi027, _, hsz27, _⟩ := info_parts info48
  have hroom27 : x0_1.length ≤ co26 := (Kd.R_reads' HO_0.out).2.1
  have hC27 : Kd.C k48 _ (some ⟨go30, 0, none⟩) x0_1.length x0_1 := (Kd.R_reads' HO_0.out).2.2
  have q027 : (0 : Int) ≤ (x5_1 : Int) := of_decide_eq_true (by first | (with_reducible assumption) | assumption)
  have hcut27 := cut_from (P := Try.prog) 27 48 .i64 Try.underlying27 hi027 3 hsz27 (some ⟨go30, 0, none⟩) x0_1.length co26 x5_1 q027 q27
  have hr27 := Kd.C_drop (m := (x5_1 : Int).toNat) (c := co26) hC27 (by omega) hroom27
  obtain ⟨A27, hA27⟩ : ∃ A1, A1 = (if co26 = (x5_1 : Int).toNat then (some ⟨go30, 0, none⟩) else (some ⟨go30, 0, none⟩ : Option Addr).map (·.add ((x5_1 : Int).toNat * 3))) := ⟨_, rfl⟩
  obtain ⟨c27, hc27⟩ : ∃ c1, c1 = co26 - (x5_1 : Int).toNat := ⟨_, rfl⟩
  have hy27 : y594.length = x0_1.length - (x5_1 : Int).toNat := (by rw [Ny594.out, List.length_drop] <;> omega)
  rw [show (x0_1).drop (x5_1 : Int).toNat = y594 from Ny594.out.symm] at hr27
  replace hr27 : Kd.C k48 _ A27 y594.length y594 := (by rw [hA27]; exact hr27)
  rw [← hy27, ← hA27, ← hc27] at hcut27
  have HR597 := Aside0.mk hr27
  have HC597 := Aside0.mk (show y594.length ≤ c27 from by rw [hy27, hc27]; exact Nat.sub_le_sub_right hroom27 _)
  clear hr27 hC27 hroom27 hi027 hsz27 hc27
  have KY27 := Aside0.mk hy27
  have KA27 := Aside0.mk hA27
  clear hy27 hA27
  have KL27 := Aside0.mk (show (x5_1 : Int).toNat ≤ x0_1.length from by omega)
  replace q27 := eq_true q27
  have hcl : ∀ ty, (Builtin.clear_ #[27] ty #[.slice A27 y594.length c27]).run Try.prog wr = .ok (.tuple #[]) (wr.setCells go30 ((x5_1 : Int).toNat * 3) (zeroL (x0_1.length - (x5_1 : Int).toNat))) := by
    intro ty
    have hlt := c24L.out
    have hro := (Kd.R_reads' HO_0.out).2.1
    have eA : A27 = some ⟨go30, (x5_1 : Int).toNat * 3, none⟩ := by rw [KA27.out, if_neg (by omega)]; (first | (simp only [Option.map_some, add_plain]; done) | (simp [Addr.add]; done) | (simp [Addr.add]; intro h_; omega))
    rw [eA, KY27.out]
    exact clear_run HO_0.out (by omega) ty
  obtain ⟨hR2, hG2⟩ := clearA (x0_1.length - (x5_1 : Int).toNat) (x5_1 : Int).toNat x0_1 wr (by have := c24L.out; omega) HO_0.out
  generalize hw30 : wr.setCells go30 ((x5_1 : Int).toNat * 3) (zeroL (x0_1.length - (x5_1 : Int).toNat)) = w30 at hcl hR2 hG2
  clear hw30
  replace HK := Aside0.mk (Kept.of_grown (S := (fun k_ => P0_ k_)) hG2 HK.out (fun k_ e_ => (HO_0.out.1 k_ e_)))
  replace HB := Aside0.mk (pw_below_grown HB.out _ HB.out.size hG2 (fun k_ e_ => by cases e_; exact gb30))
  replace HO_0 := Aside0.mk hR2
  clear hR2 hG2
  have q28 : (x5_1 : Int) ≤ ((x0_1.length : Int) : Int) := of_decide_eq_true (by first | (with_reducible assumption) | assumption)
  obtain ⟨i028, hi028, _, hsz28, _⟩ := info_parts info48
  have hcut28 := cut_to (P := Try.prog) 27 48 .i64 Try.underlying27 hi028 (some ⟨go30, 0, none⟩) x0_1.length co26 x5_1 (of_decide_eq_true (by first | (with_reducible assumption) | assumption)) q28 (Kd.R_reads' HO_0.out).2.1
  have hr28 := Kd.R_take (m := (x5_1 : Int).toNat) HO_0.out (by simp; omega)
  rw [List.take_left' (by simp; omega)] at hr28
  have hy28 : y598.length = (x5_1 : Int).toNat := (by rw [Ny598.out, List.length_take]; omega)
  rw [← Ny598.out] at hr28
  rw [← hy28] at hr28 hcut28
  clear hy28 hi028 hsz28 HO_0
  have HO600 := Aside0.mk hr28
  clear hr28
  replace q28 := eq_true q28
  go_wp2
  go_ret
  exact ⟨_, ng_, by exact kr_ HO600.out, bl_, by repeat (first | (with_reducible first | exact HK.out | apply Kept.alloc | apply Kept.drewN | apply Kept.drew) | exact HK.out)⟩
 rw [if_pos c5] at H
 have c5b0 : decide (x6_1 < (x0_1.length : Int)) = true := decide_eq_true c5
 clear c5
 by_cases c6 : 0 ≤ x6_1
 rotate_left
 ·rw [if_neg c6] at H
  exact absurd H (by simp)
 rw [if_pos c6] at H
 have c6b0 : decide (0 ≤ x6_1) = true := decide_eq_true c6
 clear c6
 replace H := Option.bind_eq_some_iff.mp H
 obtain ⟨t592, A70, H⟩ := H
 replace H : (if t592 = true then (impl_Add_41.l0 k1 m x0_1 x5_1 (wrap64 (x6_1 + 1))) else (if 0 ≤ x5_1 then (if x5_1 < (x0_1.length : Int) then (impl_Add_41.l0 k1 m (x0_1.set (x5_1 : Int).toNat (⟨(rd_T48 x0_1 x6_1).f0, (rd_T48 x0_1 x6_1).f1, (rd_T48 x0_1 x6_1).f2⟩ : S48)) (wrap64 (x5_1 + 1)) (wrap64 (x6_1 + 1))) else (none)) else (none))) = some r := H
 have A7 := Aside0.mk A70
 clear A70
 by_cases c8 : t592 = true
 ·subst c8
  have H1 : (impl_Add_41.l0 k1 m x0_1 x5_1 (wrap64 (x6_1 + 1))) = some r := by rw [if_pos rfl] at H; exact H
  clear H
  have H := H1
  clear H1
  have H' := Aside0.mk H
  clear H
  obtain ⟨Ao9, co9, eo9⟩ := Kd.R_slice HO_0.out
  subst eo9
  have p590 : 0 ≤ (x6_1 : Int) := of_decide_eq_true (by first | (with_reducible assumption) | assumption)
  have q590 : x6_1 < (x0_1.length : Int) := of_decide_eq_true (by first | (with_reducible assumption) | assumption)
  obtain ⟨ad590, e590, hx590_0, hx590_1, hx590_2⟩ := at_T48 (Kd.R_reads' HO_0.out).2.2 x6_1 p590 q590
  cases e590
  replace p590 := eq_true p590
  replace q590 := eq_true q590
  go_wp2_with (first | ((with_reducible refine gate_dst (N := 7) rfl ?_); refine box_event rfl (N := 7) rfl (cs := #[.string (⟨#[]⟩ : ByteArray), .int .i64 0, .int .i64 0]) (t := 48) gs_ ?_; intro gb591 hg w10 hbox hb; replace HO_0 := Aside0.mk (Kd.R_below (Kd.R_elderB (kr_ HO_0.out) gb591 (Nat.le_of_eq hg.symm)) hb); have BK591 := Aside0.mk (hbox); have GW591 := Aside0.mk ((by rw [hg]; exact (by first | exact HK.out.1 | exact (show Kept w _ (fun k_ => P0_ k_) from by repeat (first | (with_reducible first | exact HK.out | apply Kept.alloc | apply Kept.drewN | apply Kept.drew) | exact HK.out)).1) : w.heap.size ≤ gb591)); replace HK := Aside0.mk (Kept.below (S := (fun k_ => P0_ k_)) (by repeat (first | (with_reducible first | exact HK.out | apply Kept.alloc | apply Kept.drewN | apply Kept.drew) | exact HK.out)) hb); have GE591 := Aside0.mk ((by rw [hg]; exact bz_ : w0.heap.size ≤ gb591)); replace HB := Aside0.mk (below_step bl_ hb); clear hb hbox hg; have hcz11_0 : w10.cell? ⟨gb591, 0, none⟩ = some (.string (⟨#[]⟩ : ByteArray)) := bc_ BK591.out 0; have hcz11_1 : w10.cell? ⟨gb591, 1, none⟩ = some (.int .i64 0) := bc_ BK591.out 1; have hcz11_2 : w10.cell? ⟨gb591, 2, none⟩ = some (.int .i64 0) := bc_ BK591.out 2; have hfz11_0 := blk_frozen BK591.out 0; have hfz11_1 := blk_frozen BK591.out 1; have hfz11_2 := blk_frozen BK591.out 2) | (go_at_call 42; refine (impl_MergeBag_2.calls k1 (rd_T48 x0_1 x6_1) A1 c1 m true _ (HM.out _ (show Kept w _ (fun k_ => P0_ k_) from by repeat (first | (with_reducible first | exact HK.out | apply Kept.alloc | apply Kept.drewN | apply Kept.drew | refine Kept.setCell ?_ (.inr GW591.out) _) | exact HK.out))) HC1.out A7.out (H9.out _ (show Kept w _ (fun k_ => P0_ k_) from by repeat (first | (with_reducible first | exact HK.out | apply Kept.alloc | apply Kept.drewN | apply Kept.drew | refine Kept.setCell ?_ (.inr GW591.out) _) | exact HK.out)))).mono ?_; rintro e w12 ⟨rfl, hb⟩; replace HO_0 := Aside0.mk (Kd.R_below (by exact kr_ ((Kd.R_mono (Kd.R_far (p := ⟨gb591, 2, none⟩) (Kd.R_far (p := ⟨gb591, 1, none⟩) (Kd.R_far (p := ⟨gb591, 0, none⟩) (Kd.R_mono HO_0.out (fun k_ hk => (⟨hk, hk.2⟩ : _ ∧ k_ ≠ gb591))) (fun _ hk => hk.2) (.string ((rd_T48 x0_1 x6_1).f0))) (fun _ hk => hk.2) (.int .i64 ((rd_T48 x0_1 x6_1).f1))) (fun _ hk => hk.2) (.int .i64 ((rd_T48 x0_1 x6_1).f2))) (fun _ h_ => h_.1)))) hb); replace BK591 := Aside0.mk (blk_below (g := gb591) (o := .cells #[.string ((rd_T48 x0_1 x6_1).f0), .int .i64 ((rd_T48 x0_1 x6_1).f1), .int .i64 ((rd_T48 x0_1 x6_1).f2)] 48 (0, 0)) (by (with_reducible repeat (first | refine blk_drewN ?_ _ | refine blk_drew ?_ | refine blk_alloc ?_ _)); refine blk_put (cs := #[.string ((rd_T48 x0_1 x6_1).f0), .int .i64 ((rd_T48 x0_1 x6_1).f1), .int .i64 0]) ?_ 2 _ rfl; (with_reducible repeat (first | refine blk_drewN ?_ _ | refine blk_drew ?_ | refine blk_alloc ?_ _)); refine blk_put (cs := #[.string ((rd_T48 x0_1 x6_1).f0), .int .i64 0, .int .i64 0]) ?_ 1 _ rfl; (with_reducible repeat (first | refine blk_drewN ?_ _ | refine blk_drew ?_ | refine blk_alloc ?_ _)); refine blk_put (cs := #[.string (⟨#[]⟩ : ByteArray), .int .i64 0, .int .i64 0]) ?_ 0 _ rfl; exact kb_ BK591.out) hb); replace HK := Aside0.mk (Kept.below (S := (fun k_ => P0_ k_)) (by repeat (first | (with_reducible first | exact HK.out | apply Kept.alloc | apply Kept.drewN | apply Kept.drew | refine Kept.setCell ?_ (.inr GW591.out) _) | exact HK.out)) hb); replace HB := Aside0.mk (below_step bl_ hb); clear hb))
  go_roundg k1
  case measure => have := HK1.out; omega
  case rel => exact ⟨(x0_1), (x5_1), (wrap64 (x6_1 + 1)), (by first | rfl | (simp; done) | (simp [*]; done)), (by first | rfl | (simp; done) | (simp [*]; done)), H', ⟨by have := HK1.out; omega⟩, ⟨kp_ HO_0.out⟩, ⟨by repeat (first | (with_reducible first | exact HK.out | apply Kept.alloc | apply Kept.drewN | apply Kept.drew | refine Kept.setCell ?_ (.inr GW591.out) _) | exact HK.out)⟩, ⟨bl_⟩⟩
 replace c8 := Bool.eq_false_iff.mpr c8
 subst c8
 have H1 : (if 0 ≤ x5_1 then (if x5_1 < (x0_1.length : Int) then (impl_Add_41.l0 k1 m (x0_1.set (x5_1 : Int).toNat (⟨(rd_T48 x0_1 x6_1).f0, (rd_T48 x0_1 x6_1).f1, (rd_T48 x0_1 x6_1).f2⟩ : S48)) (wrap64 (x5_1 + 1)) (wrap64 (x6_1 + 1))) else (none)) else (none)) = some r := by rw [if_neg (show ¬ (false = true) by decide)] at H; exact H
 clear H
 have H := H1
 clear H1
 by_cases c13 : 0 ≤ x5_1
 rotate_left
 ·rw [if_neg c13] at H
  exact absurd H (by simp)
 rw [if_pos c13] at H
 have c13b0 : decide (0 ≤ x5_1) = true := decide_eq_true c13
 clear c13
 by_cases c14 : x5_1 < (x0_1.length : Int)
 rotate_left
 ·rw [if_neg c14] at H
  exact absurd H (by simp)
 rw [if_pos c14] at H
 have c14b0 : decide (x5_1 < (x0_1.length : Int)) = true := decide_eq_true c14
 clear c14
 obtain ⟨y593, hy593⟩ : ∃ y_ : List (S48), y_ = (x0_1.set (x5_1 : Int).toNat (⟨(rd_T48 x0_1 x6_1).f0, (rd_T48 x0_1 x6_1).f1, (rd_T48 x0_1 x6_1).f2⟩ : S48)) := ⟨_, rfl⟩
 replace H : (impl_Add_41.l0 k1 m y593 (wrap64 (x5_1 + 1)) (wrap64 (x6_1 + 1))) = some r := by first | (rw [hy593]; with_reducible exact H) | (have H2_ := (Option.bind_some _ _).symm.trans H; rw [hy593]; with_reducible exact H2_) | (have H2_ := (Option.bind_some _ _).symm.trans H; with_reducible exact H2_) | with_reducible exact H | (rw [hy593]; exact H) | exact H
 have Ny593 := Aside0.mk hy593
 clear hy593
 have H' := Aside0.mk H
 clear H
 obtain ⟨Ao16, co16, eo16⟩ := Kd.R_slice HO_0.out
 subst eo16
 have p590 : 0 ≤ (x6_1 : Int) := of_decide_eq_true (by first | (with_reducible assumption) | assumption)
 have q590 : x6_1 < (x0_1.length : Int) := of_decide_eq_true (by first | (with_reducible assumption) | assumption)
 obtain ⟨ad590, e590, hx590_0, hx590_1, hx590_2⟩ := at_T48 (Kd.R_reads' HO_0.out).2.2 x6_1 p590 q590
 cases e590
 replace p590 := eq_true p590
 replace q590 := eq_true q590
 go_wp2_with (first | ((with_reducible refine gate_dst (N := 7) rfl ?_); refine box_event rfl (N := 7) rfl (cs := #[.string (⟨#[]⟩ : ByteArray), .int .i64 0, .int .i64 0]) (t := 48) gs_ ?_; intro gb591 hg w17 hbox hb; replace HO_0 := Aside0.mk (Kd.R_below (Kd.R_elderB (kr_ HO_0.out) gb591 (Nat.le_of_eq hg.symm)) hb); have BK591 := Aside0.mk (hbox); have GW591 := Aside0.mk ((by rw [hg]; exact (by first | exact HK.out.1 | exact (show Kept w _ (fun k_ => P0_ k_) from by repeat (first | (with_reducible first | exact HK.out | apply Kept.alloc | apply Kept.drewN | apply Kept.drew) | exact HK.out)).1) : w.heap.size ≤ gb591)); replace HK := Aside0.mk (Kept.below (S := (fun k_ => P0_ k_)) (by repeat (first | (with_reducible first | exact HK.out | apply Kept.alloc | apply Kept.drewN | apply Kept.drew) | exact HK.out)) hb); have GE591 := Aside0.mk ((by rw [hg]; exact bz_ : w0.heap.size ≤ gb591)); replace HB := Aside0.mk (below_step bl_ hb); clear hb hbox hg; have hcz18_0 : w17.cell? ⟨gb591, 0, none⟩ = some (.string (⟨#[]⟩ : ByteArray)) := bc_ BK591.out 0; have hcz18_1 : w17.cell? ⟨gb591, 1, none⟩ = some (.int .i64 0) := bc_ BK591.out 1; have hcz18_2 : w17.cell? ⟨gb591, 2, none⟩ = some (.int .i64 0) := bc_ BK591.out 2; have hfz18_0 := blk_frozen BK591.out 0; have hfz18_1 := blk_frozen BK591.out 1; have hfz18_2 := blk_frozen BK591.out 2) | (go_at_call 42; refine (impl_MergeBag_2.calls k1 (rd_T48 x0_1 x6_1) A1 c1 m false _ (HM.out _ (show Kept w _ (fun k_ => P0_ k_) from by repeat (first | (with_reducible first | exact HK.out | apply Kept.alloc | apply Kept.drewN | apply Kept.drew | refine Kept.setCell ?_ (.inr GW591.out) _) | exact HK.out))) HC1.out A7.out (H9.out _ (show Kept w _ (fun k_ => P0_ k_) from by repeat (first | (with_reducible first | exact HK.out | apply Kept.alloc | apply Kept.drewN | apply Kept.drew | refine Kept.setCell ?_ (.inr GW591.out) _) | exact HK.out)))).mono ?_; rintro e w19 ⟨rfl, hb⟩; replace HO_0 := Aside0.mk (Kd.R_below (by exact kr_ ((Kd.R_mono (Kd.R_far (p := ⟨gb591, 2, none⟩) (Kd.R_far (p := ⟨gb591, 1, none⟩) (Kd.R_far (p := ⟨gb591, 0, none⟩) (Kd.R_mono HO_0.out (fun k_ hk => (⟨hk, hk.2⟩ : _ ∧ k_ ≠ gb591))) (fun _ hk => hk.2) (.string ((rd_T48 x0_1 x6_1).f0))) (fun _ hk => hk.2) (.int .i64 ((rd_T48 x0_1 x6_1).f1))) (fun _ hk => hk.2) (.int .i64 ((rd_T48 x0_1 x6_1).f2))) (fun _ h_ => h_.1)))) hb); replace BK591 := Aside0.mk (blk_below (g := gb591) (o := .cells #[.string ((rd_T48 x0_1 x6_1).f0), .int .i64 ((rd_T48 x0_1 x6_1).f1), .int .i64 ((rd_T48 x0_1 x6_1).f2)] 48 (0, 0)) (by (with_reducible repeat (first | refine blk_drewN ?_ _ | refine blk_drew ?_ | refine blk_alloc ?_ _)); refine blk_put (cs := #[.string ((rd_T48 x0_1 x6_1).f0), .int .i64 ((rd_T48 x0_1 x6_1).f1), .int .i64 0]) ?_ 2 _ rfl; (with_reducible repeat (first | refine blk_drewN ?_ _ | refine blk_drew ?_ | refine blk_alloc ?_ _)); refine blk_put (cs := #[.string ((rd_T48 x0_1 x6_1).f0), .int .i64 0, .int .i64 0]) ?_ 1 _ rfl; (with_reducible repeat (first | refine blk_drewN ?_ _ | refine blk_drew ?_ | refine blk_alloc ?_ _)); refine blk_put (cs := #[.string (⟨#[]⟩ : ByteArray), .int .i64 0, .int .i64 0]) ?_ 0 _ rfl; exact kb_ BK591.out) hb); replace HK := Aside0.mk (Kept.below (S := (fun k_ => P0_ k_)) (by repeat (first | (with_reducible first | exact HK.out | apply Kept.alloc | apply Kept.drewN | apply Kept.drew | refine Kept.setCell ?_ (.inr GW591.out) _) | exact HK.out)) hb); replace HB := Aside0.mk (below_step bl_ hb); clear hb; have hcz20_0 : w19.cell? ⟨gb591, 0, none⟩ = some (.string ((rd_T48 x0_1 x6_1).f0)) := bc_ BK591.out 0; have hcz20_1 : w19.cell? ⟨gb591, 1, none⟩ = some (.int .i64 ((rd_T48 x0_1 x6_1).f1)) := bc_ BK591.out 1; have hcz20_2 : w19.cell? ⟨gb591, 2, none⟩ = some (.int .i64 ((rd_T48 x0_1 x6_1).f2)) := bc_ BK591.out 2; have hfz20_0 := blk_frozen BK591.out 0; have hfz20_1 := blk_frozen BK591.out 1; have hfz20_2 := blk_frozen BK591.out 2; have p15 : 0 ≤ (x5_1 : Int) := of_decide_eq_true (by first | (with_reducible assumption) | assumption); have q15 : (x5_1 : Int) < ((x0_1.length : Int) : Int) := of_decide_eq_true (by first | (with_reducible assumption) | assumption); obtain ⟨go15, co15, eo15, gb15, gl15, cl15, HG15⟩ := Kd.R_form HO_0.out (by omega); (first | cases eo15 | (injection eo15 with ea_ en_ ec_; (first | subst ea_ | (injection ea_ with ea_; subst ea_)); subst ec_; clear en_)); have GB15 := Aside0.mk gb15; have GG15 := Aside0.mk HG15; clear gb15 gl15 HG15; have HMgo15 := Aside0.mk (show (P0_ go15 ∨ w.heap.size ≤ go15) from (HO_0.out.1 _ rfl).1); (first | simp only [add_plain] at hx590_0 | skip); (first | simp only [add_plain] at hx590_1 | skip); (first | simp only [add_plain] at hx590_2 | skip); obtain ⟨ce15, hcl15, hM15, hcc15, hfr15⟩ := Kd.R_elem HO_0.out z48 (x5_1 : Int) p15 q15; obtain rfl := k48_openM hM15; have hx15_0 : w19.cell? ⟨go15, (x5_1 : Int).toNat * 3, none⟩ = some (.string ((rd_T48 x0_1 x5_1).f0)) := hcc15 0 _ rfl; have hx15_1 : w19.cell? ⟨go15, (x5_1 : Int).toNat * 3 + 1, none⟩ = some (.int .i64 ((rd_T48 x0_1 x5_1).f1)) := hcc15 1 _ rfl; have hx15_2 : w19.cell? ⟨go15, (x5_1 : Int).toNat * 3 + 2, none⟩ = some (.int .i64 ((rd_T48 x0_1 x5_1).f2)) := hcc15 2 _ rfl; have hf15_0 : w19.frozen? ⟨go15, (x5_1 : Int).toNat * 3, none⟩ = false := hfr15 0; have hf15_1 : w19.frozen? ⟨go15, (x5_1 : Int).toNat * 3 + 1, none⟩ = false := hfr15 1; have hf15_2 : w19.frozen? ⟨go15, (x5_1 : Int).toNat * 3 + 2, none⟩ = false := hfr15 2; clear hcl15 hcc15 hfr15 hM15; replace p15 := eq_true p15; replace q15 := eq_true q15; have HX21 := Aside0.mk (show Kd.R k48 48 w19 w0.heap.size (fun k_ => (P0_ k_ ∨ w.heap.size ≤ k_) ∧ k_ ≠ gb591) (.slice (some ⟨go15, 0, none⟩) x0_1.length co16) x0_1 from (kr_ HO_0.out)); obtain ⟨ce21, hcl21, hM21, hcc21, hfr21⟩ := Kd.R_elem HX21.out z48 (x5_1 : Int) (of_decide_eq_true (by first | (with_reducible assumption) | assumption)) (by have h_ : (x5_1 : Int) < ((x0_1.length : Int) : Int) := of_decide_eq_true (by first | (with_reducible assumption) | assumption); first | exact h_ | (have e_ := (Kd.R_reads' HO_0.out).1; omega) | simpa using h_); obtain rfl := k48_openM hM21; have HP21 := Kd.R_seg HX21.out (x5_1 : Int) (of_decide_eq_true (by first | (with_reducible assumption) | assumption)) (by have h_ : (x5_1 : Int) < ((x0_1.length : Int) : Int) := of_decide_eq_true (by first | (with_reducible assumption) | assumption); first | exact h_ | (have e_ := (Kd.R_reads' HO_0.out).1; omega) | simpa using h_) (seg := [.string ((rd_T48 x0_1 x6_1).f0), .int .i64 ((rd_T48 x0_1 x6_1).f1), .int .i64 ((rd_T48 x0_1 x6_1).f2)]) (j := 0) hcl21 hcc21 (show 3 ≤ 3 from by decide) (x' := (⟨(rd_T48 x0_1 x6_1).f0, (rd_T48 x0_1 x6_1).f1, (rd_T48 x0_1 x6_1).f2⟩ : S48)) (k48_mkM _ _ _ (⟨(rd_T48 x0_1 x6_1).f0, (rd_T48 x0_1 x6_1).f1, (rd_T48 x0_1 x6_1).f2⟩ : S48) ) (fun _ hk => hk); have hx21_0 := hcc21 0 _ rfl; (try simp only [show (k48).sz = 3 from rfl, Nat.mul_one, Nat.add_zero] at hx21_0); have hf21_0 := hfr21 0; (try simp only [show (k48).sz = 3 from rfl, Nat.mul_one, Nat.add_zero] at hf21_0); have hx21_1 := hcc21 1 _ rfl; (try simp only [show (k48).sz = 3 from rfl, Nat.mul_one, Nat.add_zero] at hx21_1); have hf21_1 := hfr21 1; (try simp only [show (k48).sz = 3 from rfl, Nat.mul_one, Nat.add_zero] at hf21_1); have hx21_2 := hcc21 2 _ rfl; (try simp only [show (k48).sz = 3 from rfl, Nat.mul_one, Nat.add_zero] at hx21_2); have hf21_2 := hfr21 2; (try simp only [show (k48).sz = 3 from rfl, Nat.mul_one, Nat.add_zero] at hf21_2); clear hcl21 hcc21 hfr21 hM21) | ((with_reducible refine gate_store (t := 48) (p := 33) rfl ?_); refine store_event (t := 48) (p := 33) (v := ?vo_w22) (w1 := (((w19.setCell ⟨go15, (x5_1 : Int).toNat * 3, none⟩ (.string ((rd_T48 x0_1 x6_1).f0))).setCell ⟨go15, (x5_1 : Int).toNat * 3 + 1, none⟩ (.int .i64 ((rd_T48 x0_1 x6_1).f1))).setCell ⟨go15, (x5_1 : Int).toNat * 3 + 2, none⟩ (.int .i64 ((rd_T48 x0_1 x6_1).f2)))) ?hg ?ho ?hn ?hr ?_; (case ho => rfl); (case hg => rfl); (case hn => rfl); (case hr => first | (go_simp; done) | (go_simp; rfl)); intro w22 hw; have hg : w19.grownBy w22 (some go15) := (by rw [hw]; exact HP21.2); have hp_ : Kd.R k48 48 w22 w0.heap.size (fun k_ => (P0_ k_ ∨ w.heap.size ≤ k_) ∧ k_ ≠ gb591) (.slice (some ⟨go15, 0, none⟩) x0_1.length co16) y593 := (by rw [hw, Ny593.out]; exact HP21.1); clear HP21; replace BK591 := Aside0.mk (blk_grown (kb_ BK591.out) hg (Kd.R_away HO_0.out (fun _ hk => hk.2))); replace HB := Aside0.mk ((by rw [hw]; exact below_set (below_set (below_set (HB.out) GB15.out) GB15.out) GB15.out : Below w0.heap.size w0 w22)); replace HK := Aside0.mk (Kept.of_grown (S := (fun k_ => P0_ k_)) hg (by repeat (first | (with_reducible first | exact HK.out | apply Kept.alloc | apply Kept.drewN | apply Kept.drew | refine Kept.setCell ?_ (.inr GW591.out) _) | exact HK.out)) (fun k_ e_ => (HO_0.out.1 k_ e_).1)); replace HO_0 := Aside0.mk (hp_); clear hg hw hp_))
 go_roundg k1
 case measure => have := HK1.out; omega
 case rel => exact ⟨(y593), (wrap64 (x5_1 + 1)), (wrap64 (x6_1 + 1)), (by first | rfl | (simp; done) | (simp [*]; done)), (by first | rfl | (simp; done) | (simp [*]; done)), H', ⟨by have := HK1.out; omega⟩, ⟨kp_ HO_0.out⟩, ⟨by repeat (first | (with_reducible first | exact HK.out | apply Kept.alloc | apply Kept.drewN | apply Kept.drew | refine Kept.setCell ?_ (.inr GW591.out) _) | exact HK.out)⟩, ⟨bl_⟩⟩
end Go.Proofs.Ytdnapgnnliibfaa.PMB
