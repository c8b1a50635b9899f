/- What this text proves: the machine calls of these functions return what the plain functions say. Conditions: as each theorem says. Printed by a program of this session out of the translation. -/
import Derived.Test.YtdnapgnnliibfaaPMBx0
import Derived.Test.YtdnapgnnliibfaaPMBx5
import Derived.Test.YtdnapgnnliibfaaPMBx19
import Derived.Test.YtdnapgnnliibfaaPMBx20
namespace Go.Proofs.Ytdnapgnnliibfaa.PMB
open Go.RowKit Go.Proofs.YtdnapgnnliibfaaW.PrintWords Go.Proofs.YtdnapgnnliibfaaW.PrintLast Go.Proofs.YtdnapgnnliibfaaW.PrintMore
attribute [local go_sem] max2_int min2_int max_two min_two max_three min_three max_four min_four   -- for this text's walks alone
set_option linter.unusedVariables false
set_option linter.unusedSimpArgs false

theorem gr_of {w W : World} {g : Nat} (hg : g = W.heap.size) (h : Below w.heap.size w W) : w.heap.size ≤ g := hg ▸ h.size
theorem below_self_of {α : Type} {d : Kd α} {w : World} {A : Option Addr} {n : Nat} {xs : List α} (_h : d.C w A n xs) : Below w.heap.size w w := Below.refl _ _
/-- A row of adds reads the same behind a store into a block of slices. -/
theorem C_farS {W : World} {A : Option Addr} {n : Nat} {xs : List S48} {g : Nat} {cs : Array Value} {t : TypeId} (h : Kd.C k48 W A n xs) (hb : W.heap[g]? = some (.cells cs t (0, 0))) (hcs : ∀ u ∈ cs, ∃ A n c, u = .slice A n c) (i : Nat) (v : Value) : Kd.C k48 (W.setCell ⟨g, i, none⟩ v) A n xs := by
  obtain ⟨h1, h2, h3⟩ := h
  refine ⟨h1, h2, fun hp => ?_⟩
  obtain ⟨ad, e, hc⟩ := h3 hp
  refine ⟨ad, e, fun j p hj => ?_⟩
  obtain ⟨c, hl, hK, hcell⟩ := hc j p hj
  have hK' := k48_open hK
  refine ⟨c, hl, by rw [hK']; exact k48_mk _ p, fun q u hu => ?_⟩
  have hq := hcell q u hu
  have hne : ∀ A n c', u ≠ .slice A n c' := by
    intro A n c' e
    rw [hK', e] at hu
    match q, hu with
    | 0, hu => cases hu
    | 1, hu => cases hu
    | 2, hu => cases hu
    | (q + 3), hu => cases hu
  rw [World.cell?_setCell_other]
  · exact hq
  · intro e2
    rw [← e2] at hq
    simp only [World.cell?, hb] at hq
    have hm : u ∈ cs := by
      simp only [Option.isSome_none, Bool.false_eq_true, if_false] at hq
      exact Array.mem_of_getElem? hq
    obtain ⟨A', n', c', e3⟩ := hcs u hm
    exact hne A' n' c' e3
theorem kqq_ {α : Type} {d : Kd α} {e : Nat} {w w1 : World} {base : Nat} {ok ok' : Nat → Prop} {v : Value} {xs : List α} (h : d.R e w base ok v xs) [k : Keep_ w w1] (hok : ∀ k, ok k → ok' k := by intro _ hk; first | exact hk | exact hk.1 | exact hk.2 | (simp only [ne_eq] at hk ⊢; simp only [hk, not_false_eq_true, and_self])) : d.R e w1 base ok' v xs := kr_ (Kd.R_mono h hok)

/-! ### spec_MergeBag: function 17 -/
mutual
def spec_MergeBag.j0 : Nat → Bool → List (S48) → List (S48) → List (S48) → List (S48) → Option ((List (S48)) × (List (S48)) × Bool)
 | 0, _, _, _, _, _ => none
 | k + 1, x48, x514000, x514001, x515000, x515001 => if x48 = true then (some (([] : List (S48)), ([] : List (S48)), false)) else ((some (([] : List (S48)) : List (S48))).bind fun y522 => (if y522.length + x514001.length < 4398046511104 then (spec_MergeBag.l0 k x515001 (x515001.length : Int) 0 x514000 x514001 x515000 x515001 (y522 ++ x514001)) else (none)))
def spec_MergeBag.l0 : Nat → List (S48) → Int → Int → List (S48) → List (S48) → List (S48) → List (S48) → List (S48) → Option ((List (S48)) × (List (S48)) × Bool)
 | 0, _, _, _, _, _, _, _, _ => none
 | k + 1, x56, x57, x58, x514000, x514001, x515000, x515001, x529001 => if x58 < x57 then (if 0 ≤ x58 then (if x58 < (x56.length : Int) then ((spec_l14Put.f k x529001 ((rd_T48 x56 x58).f0) ((rd_T48 x56 x58).f1) ((rd_T48 x56 x58).f2)).bind fun t531 => (spec_MergeBag.l0 k x56 x57 (wrap64 (x58 + 1)) x514000 x514001 x515000 x515001 t531)) else (none)) else (none)) else ((some (([x514000, x515000] : List (List (S48))) : List (List (S48)))).bind fun y534 => (spec_MergeBag.l1 k y534 (y534.length : Int) 0 ([] : List (S48)) x529001))
def spec_MergeBag.l1 : Nat → List (List (S48)) → Int → Int → List (S48) → List (S48) → Option ((List (S48)) × (List (S48)) × Bool)
 | 0, _, _, _, _, _ => none
 | k + 1, x72, x73, x74, x529000, x529001 => if x74 < x73 then (if 0 ≤ x74 then (if x74 < (x72.length : Int) then (spec_MergeBag.l2 k x72 x73 x74 (rd_L6 x72 x74) ((rd_L6 x72 x74).length : Int) 0 x529000 x529001) else (none)) else (none)) else ((spec_GoodBag.f k x529000 x529001).bind fun t537 => (if t537 = true then (some (x529000, x529001, true)) else (some (([] : List (S48)), ([] : List (S48)), false))))
def spec_MergeBag.l2 : Nat → List (List (S48)) → Int → Int → List (S48) → Int → Int → List (S48) → List (S48) → Option ((List (S48)) × (List (S48)) × Bool)
 | 0, _, _, _, _, _, _, _, _ => none
 | k + 1, x72, x73, x74, x78, x79, x80, x529000, x529001 => if x80 < x79 then (if 0 ≤ x80 then (if x80 < (x78.length : Int) then ((spec_l14Has.f k x529001 ((rd_T48 x78 x80).f0) ((rd_T48 x78 x80).f1) ((rd_T48 x78 x80).f2)).bind fun t541 => (if t541 = true then (spec_MergeBag.l2 k x72 x73 x74 x78 x79 (wrap64 (x80 + 1)) x529000 x529001) else ((spec_l14Put.f k x529000 ((rd_T48 x78 x80).f0) ((rd_T48 x78 x80).f1) ((rd_T48 x78 x80).f2)).bind fun t542 => (spec_MergeBag.l2 k x72 x73 x74 x78 x79 (wrap64 (x80 + 1)) t542 x529001)))) else (none)) else (none)) else (spec_MergeBag.l1 k x72 x73 (wrap64 (x74 + 1)) x529000 x529001)
end
def spec_MergeBag.f (k : Nat) (l0_0 : List (S48)) (l0_1 : List (S48)) (l1_0 : List (S48)) (l1_1 : List (S48)) : Option ((List (S48)) × (List (S48)) × Bool) := (spec_GoodBag.f k l0_0 l0_1).bind fun t516 => (if t516 = true then ((spec_GoodBag.f k l1_0 l1_1).bind fun t517 => (if t517 = true then ((spec_l14Clash.f k l0_0 l1_0).bind fun t518 => (if t518 = true then (spec_MergeBag.j0 k true l0_0 l0_1 l1_0 l1_1) else ((spec_l14Clash.f k l0_0 l1_1).bind fun t519 => (if t519 = true then (spec_MergeBag.j0 k true l0_0 l0_1 l1_0 l1_1) else ((spec_l14Clash.f k l0_1 l1_0).bind fun t520 => (if t520 = true then (spec_MergeBag.j0 k true l0_0 l0_1 l1_0 l1_1) else ((spec_l14Clash.f k l0_1 l1_1).bind fun t521 => (spec_MergeBag.j0 k t521 l0_0 l0_1 l1_0 l1_1)))))))) else (spec_MergeBag.j0 k true l0_0 l0_1 l1_0 l1_1))) else (spec_MergeBag.j0 k true l0_0 l0_1 l1_0 l1_1))
theorem spec_MergeBag.mono_l : ∀ k, (∀ y0 y1 y2 y3 y4, LeO (spec_MergeBag.j0 k y0 y1 y2 y3 y4) (spec_MergeBag.j0 (k + 1) y0 y1 y2 y3 y4)) ∧ (∀ y0 y1 y2 y3 y4 y5 y6 y7, LeO (spec_MergeBag.l0 k y0 y1 y2 y3 y4 y5 y6 y7) (spec_MergeBag.l0 (k + 1) y0 y1 y2 y3 y4 y5 y6 y7)) ∧ (∀ y0 y1 y2 y3 y4, LeO (spec_MergeBag.l1 k y0 y1 y2 y3 y4) (spec_MergeBag.l1 (k + 1) y0 y1 y2 y3 y4)) ∧ (∀ y0 y1 y2 y3 y4 y5 y6 y7, LeO (spec_MergeBag.l2 k y0 y1 y2 y3 y4 y5 y6 y7) (spec_MergeBag.l2 (k + 1) y0 y1 y2 y3 y4 y5 y6 y7))
 | 0 => ⟨fun _ _ _ _ _ r h => by simp [spec_MergeBag.j0] at h, fun _ _ _ _ _ _ _ _ r h => by simp [spec_MergeBag.l0] at h, fun _ _ _ _ _ r h => by simp [spec_MergeBag.l1] at h, fun _ _ _ _ _ _ _ _ r h => by simp [spec_MergeBag.l2] at h⟩
 | k + 1 => by
  obtain ⟨ih0, ih1, ih2, ih3⟩ := spec_MergeBag.mono_l k
  refine ⟨?_, ?_, ?_, ?_⟩
  ·intro y0 y1 y2 y3 y4
   unfold spec_MergeBag.j0
   repeat' first
   | (with_reducible exact ih0 _ _ _ _ _)
   | (with_reducible exact ih1 _ _ _ _ _ _ _ _)
   | (with_reducible exact ih2 _ _ _ _ _)
   | (with_reducible exact ih3 _ _ _ _ _ _ _ _)
   | (with_reducible exact spec_GoodBag.mono _ _ _)
   | (with_reducible exact spec_l14Clash.mono _ _ _)
   | (with_reducible exact spec_l14Has.mono _ _ _ _ _)
   | (with_reducible exact spec_l14Put.mono _ _ _ _ _)
   | (with_reducible exact LeO.refl _)
   | (with_reducible exact LeO.none _)
   | (with_reducible refine LeO.ite ?_ ?_)
   | (with_reducible refine LeO.bind ?_ (fun _ => ?_))
   | exact ih0 _ _ _ _ _
   | exact ih1 _ _ _ _ _ _ _ _
   | exact ih2 _ _ _ _ _
   | exact ih3 _ _ _ _ _ _ _ _
   | exact spec_GoodBag.mono _ _ _
   | exact spec_l14Clash.mono _ _ _
   | exact spec_l14Has.mono _ _ _ _ _
   | exact spec_l14Put.mono _ _ _ _ _
   | exact LeO.none _
   | refine LeO.ite ?_ ?_
   | refine LeO.bind ?_ (fun _ => ?_)
  ·intro y0 y1 y2 y3 y4 y5 y6 y7
   unfold spec_MergeBag.l0
   repeat' first
   | (with_reducible exact ih0 _ _ _ _ _)
   | (with_reducible exact ih1 _ _ _ _ _ _ _ _)
   | (with_reducible exact ih2 _ _ _ _ _)
   | (with_reducible exact ih3 _ _ _ _ _ _ _ _)
   | (with_reducible exact spec_GoodBag.mono _ _ _)
   | (with_reducible exact spec_l14Clash.mono _ _ _)
   | (with_reducible exact spec_l14Has.mono _ _ _ _ _)
   | (with_reducible exact spec_l14Put.mono _ _ _ _ _)
   | (with_reducible exact LeO.refl _)
   | (with_reducible exact LeO.none _)
   | (with_reducible refine LeO.ite ?_ ?_)
   | (with_reducible refine LeO.bind ?_ (fun _ => ?_))
   | exact ih0 _ _ _ _ _
   | exact ih1 _ _ _ _ _ _ _ _
   | exact ih2 _ _ _ _ _
   | exact ih3 _ _ _ _ _ _ _ _
   | exact spec_GoodBag.mono _ _ _
   | exact spec_l14Clash.mono _ _ _
   | exact spec_l14Has.mono _ _ _ _ _
   | exact spec_l14Put.mono _ _ _ _ _
   | exact LeO.none _
   | refine LeO.ite ?_ ?_
   | refine LeO.bind ?_ (fun _ => ?_)
  ·intro y0 y1 y2 y3 y4
   unfold spec_MergeBag.l1
   repeat' first
   | (with_reducible exact ih0 _ _ _ _ _)
   | (with_reducible exact ih1 _ _ _ _ _ _ _ _)
   | (with_reducible exact ih2 _ _ _ _ _)
   | (with_reducible exact ih3 _ _ _ _ _ _ _ _)
   | (with_reducible exact spec_GoodBag.mono _ _ _)
   | (with_reducible exact spec_l14Clash.mono _ _ _)
   | (with_reducible exact spec_l14Has.mono _ _ _ _ _)
   | (with_reducible exact spec_l14Put.mono _ _ _ _ _)
   | (with_reducible exact LeO.refl _)
   | (with_reducible exact LeO.none _)
   | (with_reducible refine LeO.ite ?_ ?_)
   | (with_reducible refine LeO.bind ?_ (fun _ => ?_))
   | exact ih0 _ _ _ _ _
   | exact ih1 _ _ _ _ _ _ _ _
   | exact ih2 _ _ _ _ _
   | exact ih3 _ _ _ _ _ _ _ _
   | exact spec_GoodBag.mono _ _ _
   | exact spec_l14Clash.mono _ _ _
   | exact spec_l14Has.mono _ _ _ _ _
   | exact spec_l14Put.mono _ _ _ _ _
   | exact LeO.none _
   | refine LeO.ite ?_ ?_
   | refine LeO.bind ?_ (fun _ => ?_)
  ·intro y0 y1 y2 y3 y4 y5 y6 y7
   unfold spec_MergeBag.l2
   repeat' first
   | (with_reducible exact ih0 _ _ _ _ _)
   | (with_reducible exact ih1 _ _ _ _ _ _ _ _)
   | (with_reducible exact ih2 _ _ _ _ _)
   | (with_reducible exact ih3 _ _ _ _ _ _ _ _)
   | (with_reducible exact spec_GoodBag.mono _ _ _)
   | (with_reducible exact spec_l14Clash.mono _ _ _)
   | (with_reducible exact spec_l14Has.mono _ _ _ _ _)
   | (with_reducible exact spec_l14Put.mono _ _ _ _ _)
   | (with_reducible exact LeO.refl _)
   | (with_reducible exact LeO.none _)
   | (with_reducible refine LeO.ite ?_ ?_)
   | (with_reducible refine LeO.bind ?_ (fun _ => ?_))
   | exact ih0 _ _ _ _ _
   | exact ih1 _ _ _ _ _ _ _ _
   | exact ih2 _ _ _ _ _
   | exact ih3 _ _ _ _ _ _ _ _
   | exact spec_GoodBag.mono _ _ _
   | exact spec_l14Clash.mono _ _ _
   | exact spec_l14Has.mono _ _ _ _ _
   | exact spec_l14Put.mono _ _ _ _ _
   | exact LeO.none _
   | refine LeO.ite ?_ ?_
   | refine LeO.bind ?_ (fun _ => ?_)
theorem spec_MergeBag.mono : ∀ a0 a1 a2 a3 k, LeO (spec_MergeBag.f k a0 a1 a2 a3) (spec_MergeBag.f (k + 1) a0 a1 a2 a3) := by
 intro a0 a1 a2 a3 k
 obtain ⟨ih0, ih1, ih2, ih3⟩ := spec_MergeBag.mono_l k
 unfold spec_MergeBag.f
 repeat' first
   | (with_reducible exact ih0 _ _ _ _ _)
   | (with_reducible exact ih1 _ _ _ _ _ _ _ _)
   | (with_reducible exact ih2 _ _ _ _ _)
   | (with_reducible exact ih3 _ _ _ _ _ _ _ _)
   | (with_reducible exact spec_GoodBag.mono _ _ _)
   | (with_reducible exact spec_l14Clash.mono _ _ _)
   | (with_reducible exact spec_l14Has.mono _ _ _ _ _)
   | (with_reducible exact spec_l14Put.mono _ _ _ _ _)
   | (with_reducible exact LeO.refl _)
   | (with_reducible exact LeO.none _)
   | (with_reducible refine LeO.ite ?_ ?_)
   | (with_reducible refine LeO.bind ?_ (fun _ => ?_))
   | exact ih0 _ _ _ _ _
   | exact ih1 _ _ _ _ _ _ _ _
   | exact ih2 _ _ _ _ _
   | exact ih3 _ _ _ _ _ _ _ _
   | exact spec_GoodBag.mono _ _ _
   | exact spec_l14Clash.mono _ _ _
   | exact spec_l14Has.mono _ _ _ _ _
   | exact spec_l14Put.mono _ _ _ _ _
   | exact LeO.none _
   | refine LeO.ite ?_ ?_
   | refine LeO.bind ?_ (fun _ => ?_)
set_option maxHeartbeats 8000000 in
set_option maxRecDepth 100000 in
theorem spec_MergeBag.calls (k : Nat) (P0_0_ : Nat → Prop) (A0_0 : Option Addr) (c0_0 : Nat) (l0_0 : List (S48)) (A0_1 : Option Addr) (c0_1 : Nat) (l0_1 : List (S48)) (P1_0_ : Nat → Prop) (A1_0 : Option Addr) (c1_0 : Nat) (l1_0 : List (S48)) (A1_1 : Option Addr) (c1_1 : Nat) (l1_1 : List (S48)) (r1 : List (S48)) (r2 : List (S48)) (r3 : Bool) (w : World) (hs0_0 : Kd.V k48 48 w w.heap.size (fun k_ => P0_0_ k_) (.slice A0_0 l0_0.length c0_0) l0_0) (hr0_1 : Kd.C k48 w A0_1 l0_1.length l0_1) (hc0_1 : l0_1.length ≤ c0_1) (hs1_0 : Kd.V k48 48 w w.heap.size (fun k_ => P1_0_ k_) (.slice A1_0 l1_0.length c1_0) l1_0) (hr1_1 : Kd.C k48 w A1_1 l1_1.length l1_1) (hc1_1 : l1_1.length ≤ c1_1) (h : spec_MergeBag.f k l0_0 l0_1 l1_0 l1_1 = some (r1, r2, r3)) :
  Calls Try.prog 17 #[.agg #[.slice A0_0 l0_0.length c0_0, .slice A0_1 l0_1.length c0_1], .agg #[.slice A1_0 l1_0.length c1_0, .slice A1_1 l1_1.length c1_1]] w fun e w' => ∃ v0_ v1_ : Value, e = .returned (.tuple #[.agg #[v0_, v1_], .bool r3]) ∧ Kd.R k48 48 w' w.heap.size (fun k_ => (w.heap.size ≤ k_) ∧ some k_ ≠ (v1_ : Value).ownBlock) v0_ r1 ∧ Kd.R k48 48 w' w.heap.size (fun k_ => (w.heap.size ≤ k_) ∧ some k_ ≠ (v0_ : Value).ownBlock) v1_ r2 ∧ Below w.heap.size w w' := by
 have hu29 := Try.underlying29
 have hu48 := Try.underlying48
 have HO0_0 := Aside0.mk (show Kd.V k48 48 w w.heap.size (fun k_ => ((P0_0_ k_ ∨ P1_0_ k_) ∨ w.heap.size ≤ k_)) (.slice A0_0 l0_0.length c0_0) l0_0 from Kd.V_mono hs0_0 (fun k_ hk => .inl (.inl hk)))
 have HR0_1 := Aside0.mk hr0_1
 have HC0_1 := Aside0.mk hc0_1
 clear hr0_1 hc0_1
 have HO1_0 := Aside0.mk (show Kd.V k48 48 w w.heap.size (fun k_ => ((P0_0_ k_ ∨ P1_0_ k_) ∨ w.heap.size ≤ k_)) (.slice A1_0 l1_0.length c1_0) l1_0 from Kd.V_mono hs1_0 (fun k_ hk => .inl (.inr hk)))
 have HR1_1 := Aside0.mk hr1_1
 have HC1_1 := Aside0.mk hc1_1
 clear hr1_1 hc1_1
 have HB := Aside0.mk (Below.refl w.heap.size w)
 have H : ((spec_GoodBag.f k l0_0 l0_1).bind fun t516 => (if t516 = true then ((spec_GoodBag.f k l1_0 l1_1).bind fun t517 => (if t517 = true then ((spec_l14Clash.f k l0_0 l1_0).bind fun t518 => (if t518 = true then (spec_MergeBag.j0 k true l0_0 l0_1 l1_0 l1_1) else ((spec_l14Clash.f k l0_0 l1_1).bind fun t519 => (if t519 = true then (spec_MergeBag.j0 k true l0_0 l0_1 l1_0 l1_1) else ((spec_l14Clash.f k l0_1 l1_0).bind fun t520 => (if t520 = true then (spec_MergeBag.j0 k true l0_0 l0_1 l1_0 l1_1) else ((spec_l14Clash.f k l0_1 l1_1).bind fun t521 => (spec_MergeBag.j0 k t521 l0_0 l0_1 l1_0 l1_1)))))))) else (spec_MergeBag.j0 k true l0_0 l0_1 l1_0 l1_1))) else (spec_MergeBag.j0 k true l0_0 l0_1 l1_0 l1_1))) = some (r1, r2, r3) := h
 clear h
 have HC3 := Aside0.mk H
 clear H
 go_enter Try.func17, Try.ntmps17
 go_upto_region 1 with (first | ((with_reducible refine gate_dst (N := 2) rfl ?_); refine box_event rfl (N := 2) rfl (cs := #[.slice A0_0 l0_0.length c0_0, .slice A0_1 l0_1.length c0_1]) (t := 29) gs_ ?_; intro gb513 hg w4 hbox hb; replace HO0_0 := Aside0.mk (Kd.V_below (Kd.V_elderB (by (with_reducible repeat (first | apply Kd.V_alloc | apply Kd.V_drewN | apply Kd.V_drew)); exact HO0_0.out) gb513 (Nat.le_of_eq hg.symm)) hb); replace HO1_0 := Aside0.mk (Kd.V_below (Kd.V_elderB (by (with_reducible repeat (first | apply Kd.V_alloc | apply Kd.V_drewN | apply Kd.V_drew)); exact HO1_0.out) gb513 (Nat.le_of_eq hg.symm)) hb); have BK513 := Aside0.mk (hbox); have GW513 := Aside0.mk ((by rw [hg]; exact bz_ : w.heap.size ≤ gb513)); have GE513 := GW513; replace HB := Aside0.mk (below_step bl_ hb); clear hb hbox hg) | ((with_reducible refine gate_dst (N := 3) rfl ?_); refine box_event rfl (N := 3) rfl (cs := #[.slice A1_0 l1_0.length c1_0, .slice A1_1 l1_1.length c1_1]) (t := 29) gs_ ?_; intro gb514 hg w5 hbox hb; replace HO0_0 := Aside0.mk (Kd.V_below (Kd.V_elderB (by (with_reducible repeat (first | apply Kd.V_alloc | apply Kd.V_drewN | apply Kd.V_drew)); exact HO0_0.out) gb514 (Nat.le_of_eq hg.symm)) hb); replace HO1_0 := Aside0.mk (Kd.V_below (Kd.V_elderB (by (with_reducible repeat (first | apply Kd.V_alloc | apply Kd.V_drewN | apply Kd.V_drew)); exact HO1_0.out) gb514 (Nat.le_of_eq hg.symm)) hb); have BK514 := Aside0.mk (hbox); have GW514 := Aside0.mk ((by rw [hg]; exact bz_ : w.heap.size ≤ gb514)); have GE514 := GW514; replace HB := Aside0.mk (below_step bl_ hb); have NB513_514 := nl_ hg BK513; have NB514_513 := nm_ hg BK513; replace BK513 := bb_ BK513 hb; clear hb hbox hg) | ((with_reducible refine gate_dst (N := 4) rfl ?_); refine box_event rfl (N := 4) rfl (cs := #[.slice none 0 0, .slice none 0 0]) (t := 29) gs_ ?_; intro gb515 hg w6 hbox hb; replace HO0_0 := Aside0.mk (Kd.V_below (Kd.V_elderB (by (with_reducible repeat (first | apply Kd.V_alloc | apply Kd.V_drewN | apply Kd.V_drew)); exact HO0_0.out) gb515 (Nat.le_of_eq hg.symm)) hb); replace HO1_0 := Aside0.mk (Kd.V_below (Kd.V_elderB (by (with_reducible repeat (first | apply Kd.V_alloc | apply Kd.V_drewN | apply Kd.V_drew)); exact HO1_0.out) gb515 (Nat.le_of_eq hg.symm)) hb); have BK515 := Aside0.mk (hbox); have GW515 := Aside0.mk ((by rw [hg]; exact bz_ : w.heap.size ≤ gb515)); have GE515 := GW515; replace HB := Aside0.mk (below_step bl_ hb); have NB513_515 := nl_ hg BK513; have NB515_513 := nm_ hg BK513; replace BK513 := bb_ BK513 hb; have NB514_515 := nl_ hg BK514; have NB515_514 := nm_ hg BK514; replace BK514 := bb_ BK514 hb; clear hb hbox hg))
 (try simp only [Act.put, List.setIfInBounds_toArray, List.set_cons_zero, List.set_cons_succ])
 go_cut [48] (fun v48 wc => ∃ (kq : Nat) (x48_2 : Bool), v48 = .bool x48_2 ∧ Aside0 (spec_MergeBag.j0 kq x48_2 l0_0 l0_1 l1_0 l1_1 = some (r1, r2, r3)) ∧ Aside0 (kq ≤ k) ∧ Aside0 (Kd.V k48 48 wc w.heap.size (fun k_ => ((P0_0_ k_ ∨ P1_0_ k_) ∨ w.heap.size ≤ k_) ∧ k_ ≠ gb513 ∧ k_ ≠ gb514 ∧ k_ ≠ gb515) (.slice A0_0 l0_0.length c0_0) l0_0) ∧ Aside0 (Kd.V k48 48 wc w.heap.size (fun k_ => ((P0_0_ k_ ∨ P1_0_ k_) ∨ w.heap.size ≤ k_) ∧ k_ ≠ gb513 ∧ k_ ≠ gb514 ∧ k_ ≠ gb515) (.slice A1_0 l1_0.length c1_0) l1_0) ∧ Aside0 (wc.heap[gb513]? = some (.cells #[(.slice A0_0 l0_0.length c0_0), (.slice A0_1 l0_1.length c0_1)] 29 (0, 0))) ∧ Aside0 (wc.heap[gb514]? = some (.cells #[(.slice A1_0 l1_0.length c1_0), (.slice A1_1 l1_1.length c1_1)] 29 (0, 0))) ∧ Aside0 (wc.heap[gb515]? = some (.cells #[(.slice none 0 0), (.slice none 0 0)] 29 (0, 0))) ∧ Aside0 (Below w.heap.size w wc))
 case first =>
  have H := HC3.out
  clear HC3
  replace H := Option.bind_eq_some_iff.mp H
  obtain ⟨t516, A70, H⟩ := H
  replace H : (if t516 = true then ((spec_GoodBag.f k l1_0 l1_1).bind fun t517 => (if t517 = true then ((spec_l14Clash.f k l0_0 l1_0).bind fun t518 => (if t518 = true then (spec_MergeBag.j0 k true l0_0 l0_1 l1_0 l1_1) else ((spec_l14Clash.f k l0_0 l1_1).bind fun t519 => (if t519 = true then (spec_MergeBag.j0 k true l0_0 l0_1 l1_0 l1_1) else ((spec_l14Clash.f k l0_1 l1_0).bind fun t520 => (if t520 = true then (spec_MergeBag.j0 k true l0_0 l0_1 l1_0 l1_1) else ((spec_l14Clash.f k l0_1 l1_1).bind fun t521 => (spec_MergeBag.j0 k t521 l0_0 l0_1 l1_0 l1_1)))))))) else (spec_MergeBag.j0 k true l0_0 l0_1 l1_0 l1_1))) else (spec_MergeBag.j0 k true l0_0 l0_1 l1_0 l1_1)) = some (r1, r2, r3) := H
  have A7 := Aside0.mk A70
  clear A70
  by_cases c8 : t516 = true
  rotate_left
  ·replace c8 := Bool.eq_false_iff.mpr c8
   subst c8
   have H1 : (spec_MergeBag.j0 k true l0_0 l0_1 l1_0 l1_1) = some (r1, r2, r3) := by rw [if_neg (show ¬ (false = true) by decide)] at H; exact H
   clear H
   have H := H1
   clear H1
   have H' := Aside0.mk H
   clear H
   have hnb83 := NB513_514.out
   have hnc83 := NB514_513.out
   have hnb84 := NB513_515.out
   have hnc84 := NB515_513.out
   have hcz85_0 : w6.cell? ⟨gb513, 0, none⟩ = some (.slice A0_0 l0_0.length c0_0) := bc_ BK513.out 0
   have hcz85_1 : w6.cell? ⟨gb513, 1, none⟩ = some (.slice A0_1 l0_1.length c0_1) := bc_ BK513.out 1
   have hfz85_0 := blk_frozen BK513.out 0
   have hfz85_1 := blk_frozen BK513.out 1
   go_wp2_with (first | ((with_reducible refine gate_callee (f := 9) rfl ?_); refine goesL_ (some 14) rfl rfl Try.func9 (by kernel_rfl) rfl #[.agg #[.slice A0_0 l0_0.length c0_0, .slice A0_1 l0_1.length c0_1]] rfl nc_ ?_; (with_reducible refine (spec_GoodBag.calls k _ _ l0_0 _ _ l0_1 false _ ?side1 ?side2 ?side3 ?side4 A7.out).mono ?_); (case side1 => exact kc_ (Kd.V_reads' HO0_0.out).2.2); (case side2 => exact (Kd.V_reads' HO0_0.out).2.1); (case side3 => exact kc_ (Kd.C_below HR0_1.out HB.out)); (case side4 => exact HC0_1.out); rintro e w86 ⟨rfl, hb⟩; refine ⟨_, rfl, ?_⟩; replace HO0_0 := Aside0.mk (Kd.V_below (by (with_reducible repeat (first | apply Kd.V_alloc | apply Kd.V_drewN | apply Kd.V_drew)); exact HO0_0.out) hb); replace HO1_0 := Aside0.mk (Kd.V_below (by (with_reducible repeat (first | apply Kd.V_alloc | apply Kd.V_drewN | apply Kd.V_drew)); exact HO1_0.out) hb); replace BK513 := bb_ BK513 hb; replace BK514 := bb_ BK514 hb; replace BK515 := bb_ BK515 hb; replace HB := Aside0.mk (below_step bl_ hb); clear hb))
   go_meet
   case rel => exact ⟨_, (true), (by first | rfl | (simp; done) | (simp [*]; done)), H', ⟨by first | omega | exact Nat.le_refl _⟩, ⟨by (with_reducible repeat (first | apply Kd.V_alloc | apply Kd.V_drewN | apply Kd.V_drew)); exact Kd.V_mono HO0_0.out (fun _ hk => ⟨hk.1.1.1, ⟨hk.1.1.2, ⟨hk.1.2, hk.2⟩⟩⟩)⟩, ⟨by (with_reducible repeat (first | apply Kd.V_alloc | apply Kd.V_drewN | apply Kd.V_drew)); exact Kd.V_mono HO1_0.out (fun _ hk => ⟨hk.1.1.1, ⟨hk.1.1.2, ⟨hk.1.2, hk.2⟩⟩⟩)⟩, ⟨by exact kb_ BK513.out⟩, ⟨by exact kb_ BK514.out⟩, ⟨by exact kb_ BK515.out⟩, ⟨bl_⟩⟩
  subst c8
  have H1 : ((spec_GoodBag.f k l1_0 l1_1).bind fun t517 => (if t517 = true then ((spec_l14Clash.f k l0_0 l1_0).bind fun t518 => (if t518 = true then (spec_MergeBag.j0 k true l0_0 l0_1 l1_0 l1_1) else ((spec_l14Clash.f k l0_0 l1_1).bind fun t519 => (if t519 = true then (spec_MergeBag.j0 k true l0_0 l0_1 l1_0 l1_1) else ((spec_l14Clash.f k l0_1 l1_0).bind fun t520 => (if t520 = true then (spec_MergeBag.j0 k true l0_0 l0_1 l1_0 l1_1) else ((spec_l14Clash.f k l0_1 l1_1).bind fun t521 => (spec_MergeBag.j0 k t521 l0_0 l0_1 l1_0 l1_1)))))))) else (spec_MergeBag.j0 k true l0_0 l0_1 l1_0 l1_1))) = some (r1, r2, r3) := by rw [if_pos rfl] at H; exact H
  clear H
  have H := H1
  clear H1
  replace H := Option.bind_eq_some_iff.mp H
  obtain ⟨t517, A90, H⟩ := H
  replace H : (if t517 = true then ((spec_l14Clash.f k l0_0 l1_0).bind fun t518 => (if t518 = true then (spec_MergeBag.j0 k true l0_0 l0_1 l1_0 l1_1) else ((spec_l14Clash.f k l0_0 l1_1).bind fun t519 => (if t519 = true then (spec_MergeBag.j0 k true l0_0 l0_1 l1_0 l1_1) else ((spec_l14Clash.f k l0_1 l1_0).bind fun t520 => (if t520 = true then (spec_MergeBag.j0 k true l0_0 l0_1 l1_0 l1_1) else ((spec_l14Clash.f k l0_1 l1_1).bind fun t521 => (spec_MergeBag.j0 k t521 l0_0 l0_1 l1_0 l1_1)))))))) else (spec_MergeBag.j0 k true l0_0 l0_1 l1_0 l1_1)) = some (r1, r2, r3) := H
  have A9 := Aside0.mk A90
  clear A90
  by_cases c10 : t517 = true
  rotate_left
  ·replace c10 := Bool.eq_false_iff.mpr c10
   subst c10
   have H1 : (spec_MergeBag.j0 k true l0_0 l0_1 l1_0 l1_1) = some (r1, r2, r3) := by rw [if_neg (show ¬ (false = true) by decide)] at H; exact H
   clear H
   have H := H1
   clear H1
   have H' := Aside0.mk H
   clear H
   have hnb76 := NB513_514.out
   have hnc76 := NB514_513.out
   have hnb77 := NB513_515.out
   have hnc77 := NB515_513.out
   have hcz78_0 : w6.cell? ⟨gb513, 0, none⟩ = some (.slice A0_0 l0_0.length c0_0) := bc_ BK513.out 0
   have hcz78_1 : w6.cell? ⟨gb513, 1, none⟩ = some (.slice A0_1 l0_1.length c0_1) := bc_ BK513.out 1
   have hfz78_0 := blk_frozen BK513.out 0
   have hfz78_1 := blk_frozen BK513.out 1
   go_wp2_with (first | ((with_reducible refine gate_callee (f := 9) rfl ?_); refine goesL_ (some 14) rfl rfl Try.func9 (by kernel_rfl) rfl #[.agg #[.slice A0_0 l0_0.length c0_0, .slice A0_1 l0_1.length c0_1]] rfl nc_ ?_; (with_reducible refine (spec_GoodBag.calls k _ _ l0_0 _ _ l0_1 true _ ?side1 ?side2 ?side3 ?side4 A7.out).mono ?_); (case side1 => exact kc_ (Kd.V_reads' HO0_0.out).2.2); (case side2 => exact (Kd.V_reads' HO0_0.out).2.1); (case side3 => exact kc_ (Kd.C_below HR0_1.out HB.out)); (case side4 => exact HC0_1.out); rintro e w79 ⟨rfl, hb⟩; refine ⟨_, rfl, ?_⟩; replace HO0_0 := Aside0.mk (Kd.V_below (by (with_reducible repeat (first | apply Kd.V_alloc | apply Kd.V_drewN | apply Kd.V_drew)); exact HO0_0.out) hb); replace HO1_0 := Aside0.mk (Kd.V_below (by (with_reducible repeat (first | apply Kd.V_alloc | apply Kd.V_drewN | apply Kd.V_drew)); exact HO1_0.out) hb); replace BK513 := bb_ BK513 hb; replace BK514 := bb_ BK514 hb; replace BK515 := bb_ BK515 hb; replace HB := Aside0.mk (below_step bl_ hb); clear hb; have hnb80 := NB514_515.out; have hnc80 := NB515_514.out; have hcz81_0 : w79.cell? ⟨gb514, 0, none⟩ = some (.slice A1_0 l1_0.length c1_0) := bc_ BK514.out 0; have hcz81_1 : w79.cell? ⟨gb514, 1, none⟩ = some (.slice A1_1 l1_1.length c1_1) := bc_ BK514.out 1; have hfz81_0 := blk_frozen BK514.out 0; have hfz81_1 := blk_frozen BK514.out 1) | (go_at_call 9; (with_reducible refine (spec_GoodBag.calls k _ _ l1_0 _ _ l1_1 false _ ?side1 ?side2 ?side3 ?side4 A9.out).mono ?_); (case side1 => exact kc_ (Kd.V_reads' HO1_0.out).2.2); (case side2 => exact (Kd.V_reads' HO1_0.out).2.1); (case side3 => exact kc_ (Kd.C_below HR1_1.out HB.out)); (case side4 => exact HC1_1.out); rintro e w82 ⟨rfl, hb⟩; replace HO0_0 := Aside0.mk (Kd.V_below (by (with_reducible repeat (first | apply Kd.V_alloc | apply Kd.V_drewN | apply Kd.V_drew)); exact HO0_0.out) hb); replace HO1_0 := Aside0.mk (Kd.V_below (by (with_reducible repeat (first | apply Kd.V_alloc | apply Kd.V_drewN | apply Kd.V_drew)); exact HO1_0.out) hb); replace BK513 := bb_ BK513 hb; replace BK514 := bb_ BK514 hb; replace BK515 := bb_ BK515 hb; replace HB := Aside0.mk (below_step bl_ hb); clear hb))
   go_meet
   case rel => exact ⟨_, (true), (by first | rfl | (simp; done) | (simp [*]; done)), H', ⟨by first | omega | exact Nat.le_refl _⟩, ⟨by (with_reducible repeat (first | apply Kd.V_alloc | apply Kd.V_drewN | apply Kd.V_drew)); exact Kd.V_mono HO0_0.out (fun _ hk => ⟨hk.1.1.1, ⟨hk.1.1.2, ⟨hk.1.2, hk.2⟩⟩⟩)⟩, ⟨by (with_reducible repeat (first | apply Kd.V_alloc | apply Kd.V_drewN | apply Kd.V_drew)); exact Kd.V_mono HO1_0.out (fun _ hk => ⟨hk.1.1.1, ⟨hk.1.1.2, ⟨hk.1.2, hk.2⟩⟩⟩)⟩, ⟨by exact kb_ BK513.out⟩, ⟨by exact kb_ BK514.out⟩, ⟨by exact kb_ BK515.out⟩, ⟨bl_⟩⟩
  subst c10
  have H1 : ((spec_l14Clash.f k l0_0 l1_0).bind fun t518 => (if t518 = true then (spec_MergeBag.j0 k true l0_0 l0_1 l1_0 l1_1) else ((spec_l14Clash.f k l0_0 l1_1).bind fun t519 => (if t519 = true then (spec_MergeBag.j0 k true l0_0 l0_1 l1_0 l1_1) else ((spec_l14Clash.f k l0_1 l1_0).bind fun t520 => (if t520 = true then (spec_MergeBag.j0 k true l0_0 l0_1 l1_0 l1_1) else ((spec_l14Clash.f k l0_1 l1_1).bind fun t521 => (spec_MergeBag.j0 k t521 l0_0 l0_1 l1_0 l1_1)))))))) = some (r1, r2, r3) := by rw [if_pos rfl] at H; exact H
  clear H
  have H := H1
  clear H1
  replace H := Option.bind_eq_some_iff.mp H
  obtain ⟨t518, A110, H⟩ := H
  replace H : (if t518 = true then (spec_MergeBag.j0 k true l0_0 l0_1 l1_0 l1_1) else ((spec_l14Clash.f k l0_0 l1_1).bind fun t519 => (if t519 = true then (spec_MergeBag.j0 k true l0_0 l0_1 l1_0 l1_1) else ((spec_l14Clash.f k l0_1 l1_0).bind fun t520 => (if t520 = true then (spec_MergeBag.j0 k true l0_0 l0_1 l1_0 l1_1) else ((spec_l14Clash.f k l0_1 l1_1).bind fun t521 => (spec_MergeBag.j0 k t521 l0_0 l0_1 l1_0 l1_1))))))) = some (r1, r2, r3) := H
  have A11 := Aside0.mk A110
  clear A110
  by_cases c12 : t518 = true
  ·subst c12
   have H1 : (spec_MergeBag.j0 k true l0_0 l0_1 l1_0 l1_1) = some (r1, r2, r3) := by rw [if_pos rfl] at H; exact H
   clear H
   have H := H1
   clear H1
   have H' := Aside0.mk H
   clear H
   have hnb13 := NB513_514.out
   have hnc13 := NB514_513.out
   have hnb14 := NB513_515.out
   have hnc14 := NB515_513.out
   have hcz15_0 : w6.cell? ⟨gb513, 0, none⟩ = some (.slice A0_0 l0_0.length c0_0) := bc_ BK513.out 0
   have hcz15_1 : w6.cell? ⟨gb513, 1, none⟩ = some (.slice A0_1 l0_1.length c0_1) := bc_ BK513.out 1
   have hfz15_0 := blk_frozen BK513.out 0
   have hfz15_1 := blk_frozen BK513.out 1
   go_wp2_with (first | ((with_reducible refine gate_callee (f := 9) rfl ?_); refine goesL_ (some 14) rfl rfl Try.func9 (by kernel_rfl) rfl #[.agg #[.slice A0_0 l0_0.length c0_0, .slice A0_1 l0_1.length c0_1]] rfl nc_ ?_; (with_reducible refine (spec_GoodBag.calls k _ _ l0_0 _ _ l0_1 true _ ?side1 ?side2 ?side3 ?side4 A7.out).mono ?_); (case side1 => exact kc_ (Kd.V_reads' HO0_0.out).2.2); (case side2 => exact (Kd.V_reads' HO0_0.out).2.1); (case side3 => exact kc_ (Kd.C_below HR0_1.out HB.out)); (case side4 => exact HC0_1.out); rintro e w16 ⟨rfl, hb⟩; refine ⟨_, rfl, ?_⟩; replace HO0_0 := Aside0.mk (Kd.V_below (by (with_reducible repeat (first | apply Kd.V_alloc | apply Kd.V_drewN | apply Kd.V_drew)); exact HO0_0.out) hb); replace HO1_0 := Aside0.mk (Kd.V_below (by (with_reducible repeat (first | apply Kd.V_alloc | apply Kd.V_drewN | apply Kd.V_drew)); exact HO1_0.out) hb); replace BK513 := bb_ BK513 hb; replace BK514 := bb_ BK514 hb; replace BK515 := bb_ BK515 hb; replace HB := Aside0.mk (below_step bl_ hb); clear hb; have hnb17 := NB514_515.out; have hnc17 := NB515_514.out; have hcz18_0 : w16.cell? ⟨gb514, 0, none⟩ = some (.slice A1_0 l1_0.length c1_0) := bc_ BK514.out 0; have hcz18_1 : w16.cell? ⟨gb514, 1, none⟩ = some (.slice A1_1 l1_1.length c1_1) := bc_ BK514.out 1; have hfz18_0 := blk_frozen BK514.out 0; have hfz18_1 := blk_frozen BK514.out 1) | (go_at_call 9; (with_reducible refine (spec_GoodBag.calls k _ _ l1_0 _ _ l1_1 true _ ?side1 ?side2 ?side3 ?side4 A9.out).mono ?_); (case side1 => exact kc_ (Kd.V_reads' HO1_0.out).2.2); (case side2 => exact (Kd.V_reads' HO1_0.out).2.1); (case side3 => exact kc_ (Kd.C_below HR1_1.out HB.out)); (case side4 => exact HC1_1.out); rintro e w19 ⟨rfl, hb⟩; replace HO0_0 := Aside0.mk (Kd.V_below (by (with_reducible repeat (first | apply Kd.V_alloc | apply Kd.V_drewN | apply Kd.V_drew)); exact HO0_0.out) hb); replace HO1_0 := Aside0.mk (Kd.V_below (by (with_reducible repeat (first | apply Kd.V_alloc | apply Kd.V_drewN | apply Kd.V_drew)); exact HO1_0.out) hb); replace BK513 := bb_ BK513 hb; replace BK514 := bb_ BK514 hb; replace BK515 := bb_ BK515 hb; replace HB := Aside0.mk (below_step bl_ hb); clear hb; have hcz20_0 : w19.cell? ⟨gb513, 0, none⟩ = some (.slice A0_0 l0_0.length c0_0) := bc_ BK513.out 0; have hcz20_1 : w19.cell? ⟨gb513, 1, none⟩ = some (.slice A0_1 l0_1.length c0_1) := bc_ BK513.out 1; have hfz20_0 := blk_frozen BK513.out 0; have hfz20_1 := blk_frozen BK513.out 1; have hcz21_0 : w19.cell? ⟨gb514, 0, none⟩ = some (.slice A1_0 l1_0.length c1_0) := bc_ BK514.out 0; have hcz21_1 : w19.cell? ⟨gb514, 1, none⟩ = some (.slice A1_1 l1_1.length c1_1) := bc_ BK514.out 1; have hfz21_0 := blk_frozen BK514.out 0; have hfz21_1 := blk_frozen BK514.out 1) | (go_at_call 36; (with_reducible refine (spec_l14Clash.calls k _ _ l0_0 _ _ l1_0 true _ ?side1 ?side2 ?side3 ?side4 A11.out).mono ?_); (case side1 => exact kc_ (Kd.V_reads' HO0_0.out).2.2); (case side2 => exact (Kd.V_reads' HO0_0.out).2.1); (case side3 => exact kc_ (Kd.V_reads' HO1_0.out).2.2); (case side4 => exact (Kd.V_reads' HO1_0.out).2.1); rintro e w22 ⟨rfl, hb⟩; replace HO0_0 := Aside0.mk (Kd.V_below (by (with_reducible repeat (first | apply Kd.V_alloc | apply Kd.V_drewN | apply Kd.V_drew)); exact HO0_0.out) hb); replace HO1_0 := Aside0.mk (Kd.V_below (by (with_reducible repeat (first | apply Kd.V_alloc | apply Kd.V_drewN | apply Kd.V_drew)); exact HO1_0.out) hb); replace BK513 := bb_ BK513 hb; replace BK514 := bb_ BK514 hb; replace BK515 := bb_ BK515 hb; replace HB := Aside0.mk (below_step bl_ hb); clear hb))
   go_meet
   case rel => exact ⟨_, (true), (by first | rfl | (simp; done) | (simp [*]; done)), H', ⟨by first | omega | exact Nat.le_refl _⟩, ⟨by (with_reducible repeat (first | apply Kd.V_alloc | apply Kd.V_drewN | apply Kd.V_drew)); exact Kd.V_mono HO0_0.out (fun _ hk => ⟨hk.1.1.1, ⟨hk.1.1.2, ⟨hk.1.2, hk.2⟩⟩⟩)⟩, ⟨by (with_reducible repeat (first | apply Kd.V_alloc | apply Kd.V_drewN | apply Kd.V_drew)); exact Kd.V_mono HO1_0.out (fun _ hk => ⟨hk.1.1.1, ⟨hk.1.1.2, ⟨hk.1.2, hk.2⟩⟩⟩)⟩, ⟨by exact kb_ BK513.out⟩, ⟨by exact kb_ BK514.out⟩, ⟨by exact kb_ BK515.out⟩, ⟨bl_⟩⟩
  replace c12 := Bool.eq_false_iff.mpr c12
  subst c12
  have H1 : ((spec_l14Clash.f k l0_0 l1_1).bind fun t519 => (if t519 = true then (spec_MergeBag.j0 k true l0_0 l0_1 l1_0 l1_1) else ((spec_l14Clash.f k l0_1 l1_0).bind fun t520 => (if t520 = true then (spec_MergeBag.j0 k true l0_0 l0_1 l1_0 l1_1) else ((spec_l14Clash.f k l0_1 l1_1).bind fun t521 => (spec_MergeBag.j0 k t521 l0_0 l0_1 l1_0 l1_1)))))) = some (r1, r2, r3) := by rw [if_neg (show ¬ (false = true) by decide)] at H; exact H
  clear H
  have H := H1
  clear H1
  replace H := Option.bind_eq_some_iff.mp H
  obtain ⟨t519, A230, H⟩ := H
  replace H : (if t519 = true then (spec_MergeBag.j0 k true l0_0 l0_1 l1_0 l1_1) else ((spec_l14Clash.f k l0_1 l1_0).bind fun t520 => (if t520 = true then (spec_MergeBag.j0 k true l0_0 l0_1 l1_0 l1_1) else ((spec_l14Clash.f k l0_1 l1_1).bind fun t521 => (spec_MergeBag.j0 k t521 l0_0 l0_1 l1_0 l1_1))))) = some (r1, r2, r3) := H
  have A23 := Aside0.mk A230
  clear A230
  by_cases c24 : t519 = true
  ·subst c24
   have H1 : (spec_MergeBag.j0 k true l0_0 l0_1 l1_0 l1_1) = some (r1, r2, r3) := by rw [if_pos rfl] at H; exact H
   clear H
   have H := H1
   clear H1
   have H' := Aside0.mk H
   clear H
   have hnb25 := NB513_514.out
   have hnc25 := NB514_513.out
   have hnb26 := NB513_515.out
   have hnc26 := NB515_513.out
   have hcz27_0 : w6.cell? ⟨gb513, 0, none⟩ = some (.slice A0_0 l0_0.length c0_0) := bc_ BK513.out 0
   have hcz27_1 : w6.cell? ⟨gb513, 1, none⟩ = some (.slice A0_1 l0_1.length c0_1) := bc_ BK513.out 1
   have hfz27_0 := blk_frozen BK513.out 0
   have hfz27_1 := blk_frozen BK513.out 1
   go_wp2_with (first | ((with_reducible refine gate_callee (f := 9) rfl ?_); refine goesL_ (some 14) rfl rfl Try.func9 (by kernel_rfl) rfl #[.agg #[.slice A0_0 l0_0.length c0_0, .slice A0_1 l0_1.length c0_1]] rfl nc_ ?_; (with_reducible refine (spec_GoodBag.calls k _ _ l0_0 _ _ l0_1 true _ ?side1 ?side2 ?side3 ?side4 A7.out).mono ?_); (case side1 => exact kc_ (Kd.V_reads' HO0_0.out).2.2); (case side2 => exact (Kd.V_reads' HO0_0.out).2.1); (case side3 => exact kc_ (Kd.C_below HR0_1.out HB.out)); (case side4 => exact HC0_1.out); rintro e w28 ⟨rfl, hb⟩; refine ⟨_, rfl, ?_⟩; replace HO0_0 := Aside0.mk (Kd.V_below (by (with_reducible repeat (first | apply Kd.V_alloc | apply Kd.V_drewN | apply Kd.V_drew)); exact HO0_0.out) hb); replace HO1_0 := Aside0.mk (Kd.V_below (by (with_reducible repeat (first | apply Kd.V_alloc | apply Kd.V_drewN | apply Kd.V_drew)); exact HO1_0.out) hb); replace BK513 := bb_ BK513 hb; replace BK514 := bb_ BK514 hb; replace BK515 := bb_ BK515 hb; replace HB := Aside0.mk (below_step bl_ hb); clear hb; have hnb29 := NB514_515.out; have hnc29 := NB515_514.out; have hcz30_0 : w28.cell? ⟨gb514, 0, none⟩ = some (.slice A1_0 l1_0.length c1_0) := bc_ BK514.out 0; have hcz30_1 : w28.cell? ⟨gb514, 1, none⟩ = some (.slice A1_1 l1_1.length c1_1) := bc_ BK514.out 1; have hfz30_0 := blk_frozen BK514.out 0; have hfz30_1 := blk_frozen BK514.out 1) | (go_at_call 9; (with_reducible refine (spec_GoodBag.calls k _ _ l1_0 _ _ l1_1 true _ ?side1 ?side2 ?side3 ?side4 A9.out).mono ?_); (case side1 => exact kc_ (Kd.V_reads' HO1_0.out).2.2); (case side2 => exact (Kd.V_reads' HO1_0.out).2.1); (case side3 => exact kc_ (Kd.C_below HR1_1.out HB.out)); (case side4 => exact HC1_1.out); rintro e w31 ⟨rfl, hb⟩; replace HO0_0 := Aside0.mk (Kd.V_below (by (with_reducible repeat (first | apply Kd.V_alloc | apply Kd.V_drewN | apply Kd.V_drew)); exact HO0_0.out) hb); replace HO1_0 := Aside0.mk (Kd.V_below (by (with_reducible repeat (first | apply Kd.V_alloc | apply Kd.V_drewN | apply Kd.V_drew)); exact HO1_0.out) hb); replace BK513 := bb_ BK513 hb; replace BK514 := bb_ BK514 hb; replace BK515 := bb_ BK515 hb; replace HB := Aside0.mk (below_step bl_ hb); clear hb; have hcz32_0 : w31.cell? ⟨gb513, 0, none⟩ = some (.slice A0_0 l0_0.length c0_0) := bc_ BK513.out 0; have hcz32_1 : w31.cell? ⟨gb513, 1, none⟩ = some (.slice A0_1 l0_1.length c0_1) := bc_ BK513.out 1; have hfz32_0 := blk_frozen BK513.out 0; have hfz32_1 := blk_frozen BK513.out 1; have hcz33_0 : w31.cell? ⟨gb514, 0, none⟩ = some (.slice A1_0 l1_0.length c1_0) := bc_ BK514.out 0; have hcz33_1 : w31.cell? ⟨gb514, 1, none⟩ = some (.slice A1_1 l1_1.length c1_1) := bc_ BK514.out 1; have hfz33_0 := blk_frozen BK514.out 0; have hfz33_1 := blk_frozen BK514.out 1) | (go_at_call 36; (with_reducible refine (spec_l14Clash.calls k _ _ l0_0 _ _ l1_0 false _ ?side1 ?side2 ?side3 ?side4 A11.out).mono ?_); (case side1 => exact kc_ (Kd.V_reads' HO0_0.out).2.2); (case side2 => exact (Kd.V_reads' HO0_0.out).2.1); (case side3 => exact kc_ (Kd.V_reads' HO1_0.out).2.2); (case side4 => exact (Kd.V_reads' HO1_0.out).2.1); rintro e w34 ⟨rfl, hb⟩; replace HO0_0 := Aside0.mk (Kd.V_below (by (with_reducible repeat (first | apply Kd.V_alloc | apply Kd.V_drewN | apply Kd.V_drew)); exact HO0_0.out) hb); replace HO1_0 := Aside0.mk (Kd.V_below (by (with_reducible repeat (first | apply Kd.V_alloc | apply Kd.V_drewN | apply Kd.V_drew)); exact HO1_0.out) hb); replace BK513 := bb_ BK513 hb; replace BK514 := bb_ BK514 hb; replace BK515 := bb_ BK515 hb; replace HB := Aside0.mk (below_step bl_ hb); clear hb; have hcz35_0 : w34.cell? ⟨gb513, 0, none⟩ = some (.slice A0_0 l0_0.length c0_0) := bc_ BK513.out 0; have hcz35_1 : w34.cell? ⟨gb513, 1, none⟩ = some (.slice A0_1 l0_1.length c0_1) := bc_ BK513.out 1; have hfz35_0 := blk_frozen BK513.out 0; have hfz35_1 := blk_frozen BK513.out 1; have hcz36_0 : w34.cell? ⟨gb514, 0, none⟩ = some (.slice A1_0 l1_0.length c1_0) := bc_ BK514.out 0; have hcz36_1 : w34.cell? ⟨gb514, 1, none⟩ = some (.slice A1_1 l1_1.length c1_1) := bc_ BK514.out 1; have hfz36_0 := blk_frozen BK514.out 0; have hfz36_1 := blk_frozen BK514.out 1) | (go_at_call 36; (with_reducible refine (spec_l14Clash.calls k _ _ l0_0 _ _ l1_1 true _ ?side1 ?side2 ?side3 ?side4 A23.out).mono ?_); (case side1 => exact kc_ (Kd.V_reads' HO0_0.out).2.2); (case side2 => exact (Kd.V_reads' HO0_0.out).2.1); (case side3 => exact kc_ (Kd.C_below HR1_1.out HB.out)); (case side4 => exact HC1_1.out); rintro e w37 ⟨rfl, hb⟩; replace HO0_0 := Aside0.mk (Kd.V_below (by (with_reducible repeat (first | apply Kd.V_alloc | apply Kd.V_drewN | apply Kd.V_drew)); exact HO0_0.out) hb); replace HO1_0 := Aside0.mk (Kd.V_below (by (with_reducible repeat (first | apply Kd.V_alloc | apply Kd.V_drewN | apply Kd.V_drew)); exact HO1_0.out) hb); replace BK513 := bb_ BK513 hb; replace BK514 := bb_ BK514 hb; replace BK515 := bb_ BK515 hb; replace HB := Aside0.mk (below_step bl_ hb); clear hb))
   go_meet
   case rel => exact ⟨_, (true), (by first | rfl | (simp; done) | (simp [*]; done)), H', ⟨by first | omega | exact Nat.le_refl _⟩, ⟨by (with_reducible repeat (first | apply Kd.V_alloc | apply Kd.V_drewN | apply Kd.V_drew)); exact Kd.V_mono HO0_0.out (fun _ hk => ⟨hk.1.1.1, ⟨hk.1.1.2, ⟨hk.1.2, hk.2⟩⟩⟩)⟩, ⟨by (with_reducible repeat (first | apply Kd.V_alloc | apply Kd.V_drewN | apply Kd.V_drew)); exact Kd.V_mono HO1_0.out (fun _ hk => ⟨hk.1.1.1, ⟨hk.1.1.2, ⟨hk.1.2, hk.2⟩⟩⟩)⟩, ⟨by exact kb_ BK513.out⟩, ⟨by exact kb_ BK514.out⟩, ⟨by exact kb_ BK515.out⟩, ⟨bl_⟩⟩
  replace c24 := Bool.eq_false_iff.mpr c24
  subst c24
  have H1 : ((spec_l14Clash.f k l0_1 l1_0).bind fun t520 => (if t520 = true then (spec_MergeBag.j0 k true l0_0 l0_1 l1_0 l1_1) else ((spec_l14Clash.f k l0_1 l1_1).bind fun t521 => (spec_MergeBag.j0 k t521 l0_0 l0_1 l1_0 l1_1)))) = some (r1, r2, r3) := by rw [if_neg (show ¬ (false = true) by decide)] at H; exact H
  clear H
  have H := H1
  clear H1
  replace H := Option.bind_eq_some_iff.mp H
  obtain ⟨t520, A380, H⟩ := H
  replace H : (if t520 = true then (spec_MergeBag.j0 k true l0_0 l0_1 l1_0 l1_1) else ((spec_l14Clash.f k l0_1 l1_1).bind fun t521 => (spec_MergeBag.j0 k t521 l0_0 l0_1 l1_0 l1_1))) = some (r1, r2, r3) := H
  have A38 := Aside0.mk A380
  clear A380
  by_cases c39 : t520 = true
  ·subst c39
   have H1 : (spec_MergeBag.j0 k true l0_0 l0_1 l1_0 l1_1) = some (r1, r2, r3) := by rw [if_pos rfl] at H; exact H
   clear H
   have H := H1
   clear H1
   have H' := Aside0.mk H
   clear H
   have hnb40 := NB513_514.out
   have hnc40 := NB514_513.out
   have hnb41 := NB513_515.out
   have hnc41 := NB515_513.out
   have hcz42_0 : w6.cell? ⟨gb513, 0, none⟩ = some (.slice A0_0 l0_0.length c0_0) := bc_ BK513.out 0
   have hcz42_1 : w6.cell? ⟨gb513, 1, none⟩ = some (.slice A0_1 l0_1.length c0_1) := bc_ BK513.out 1
   have hfz42_0 := blk_frozen BK513.out 0
   have hfz42_1 := blk_frozen BK513.out 1
   go_wp2_with (first | ((with_reducible refine gate_callee (f := 9) rfl ?_); refine goesL_ (some 14) rfl rfl Try.func9 (by kernel_rfl) rfl #[.agg #[.slice A0_0 l0_0.length c0_0, .slice A0_1 l0_1.length c0_1]] rfl nc_ ?_; (with_reducible refine (spec_GoodBag.calls k _ _ l0_0 _ _ l0_1 true _ ?side1 ?side2 ?side3 ?side4 A7.out).mono ?_); (case side1 => exact kc_ (Kd.V_reads' HO0_0.out).2.2); (case side2 => exact (Kd.V_reads' HO0_0.out).2.1); (case side3 => exact kc_ (Kd.C_below HR0_1.out HB.out)); (case side4 => exact HC0_1.out); rintro e w43 ⟨rfl, hb⟩; refine ⟨_, rfl, ?_⟩; replace HO0_0 := Aside0.mk (Kd.V_below (by (with_reducible repeat (first | apply Kd.V_alloc | apply Kd.V_drewN | apply Kd.V_drew)); exact HO0_0.out) hb); replace HO1_0 := Aside0.mk (Kd.V_below (by (with_reducible repeat (first | apply Kd.V_alloc | apply Kd.V_drewN | apply Kd.V_drew)); exact HO1_0.out) hb); replace BK513 := bb_ BK513 hb; replace BK514 := bb_ BK514 hb; replace BK515 := bb_ BK515 hb; replace HB := Aside0.mk (below_step bl_ hb); clear hb; have hnb44 := NB514_515.out; have hnc44 := NB515_514.out; have hcz45_0 : w43.cell? ⟨gb514, 0, none⟩ = some (.slice A1_0 l1_0.length c1_0) := bc_ BK514.out 0; have hcz45_1 : w43.cell? ⟨gb514, 1, none⟩ = some (.slice A1_1 l1_1.length c1_1) := bc_ BK514.out 1; have hfz45_0 := blk_frozen BK514.out 0; have hfz45_1 := blk_frozen BK514.out 1) | (go_at_call 9; (with_reducible refine (spec_GoodBag.calls k _ _ l1_0 _ _ l1_1 true _ ?side1 ?side2 ?side3 ?side4 A9.out).mono ?_); (case side1 => exact kc_ (Kd.V_reads' HO1_0.out).2.2); (case side2 => exact (Kd.V_reads' HO1_0.out).2.1); (case side3 => exact kc_ (Kd.C_below HR1_1.out HB.out)); (case side4 => exact HC1_1.out); rintro e w46 ⟨rfl, hb⟩; replace HO0_0 := Aside0.mk (Kd.V_below (by (with_reducible repeat (first | apply Kd.V_alloc | apply Kd.V_drewN | apply Kd.V_drew)); exact HO0_0.out) hb); replace HO1_0 := Aside0.mk (Kd.V_below (by (with_reducible repeat (first | apply Kd.V_alloc | apply Kd.V_drewN | apply Kd.V_drew)); exact HO1_0.out) hb); replace BK513 := bb_ BK513 hb; replace BK514 := bb_ BK514 hb; replace BK515 := bb_ BK515 hb; replace HB := Aside0.mk (below_step bl_ hb); clear hb; have hcz47_0 : w46.cell? ⟨gb513, 0, none⟩ = some (.slice A0_0 l0_0.length c0_0) := bc_ BK513.out 0; have hcz47_1 : w46.cell? ⟨gb513, 1, none⟩ = some (.slice A0_1 l0_1.length c0_1) := bc_ BK513.out 1; have hfz47_0 := blk_frozen BK513.out 0; have hfz47_1 := blk_frozen BK513.out 1; have hcz48_0 : w46.cell? ⟨gb514, 0, none⟩ = some (.slice A1_0 l1_0.length c1_0) := bc_ BK514.out 0; have hcz48_1 : w46.cell? ⟨gb514, 1, none⟩ = some (.slice A1_1 l1_1.length c1_1) := bc_ BK514.out 1; have hfz48_0 := blk_frozen BK514.out 0; have hfz48_1 := blk_frozen BK514.out 1) | (go_at_call 36; (with_reducible refine (spec_l14Clash.calls k _ _ l0_0 _ _ l1_0 false _ ?side1 ?side2 ?side3 ?side4 A11.out).mono ?_); (case side1 => exact kc_ (Kd.V_reads' HO0_0.out).2.2); (case side2 => exact (Kd.V_reads' HO0_0.out).2.1); (case side3 => exact kc_ (Kd.V_reads' HO1_0.out).2.2); (case side4 => exact (Kd.V_reads' HO1_0.out).2.1); rintro e w49 ⟨rfl, hb⟩; replace HO0_0 := Aside0.mk (Kd.V_below (by (with_reducible repeat (first | apply Kd.V_alloc | apply Kd.V_drewN | apply Kd.V_drew)); exact HO0_0.out) hb); replace HO1_0 := Aside0.mk (Kd.V_below (by (with_reducible repeat (first | apply Kd.V_alloc | apply Kd.V_drewN | apply Kd.V_drew)); exact HO1_0.out) hb); replace BK513 := bb_ BK513 hb; replace BK514 := bb_ BK514 hb; replace BK515 := bb_ BK515 hb; replace HB := Aside0.mk (below_step bl_ hb); clear hb; have hcz50_0 : w49.cell? ⟨gb513, 0, none⟩ = some (.slice A0_0 l0_0.length c0_0) := bc_ BK513.out 0; have hcz50_1 : w49.cell? ⟨gb513, 1, none⟩ = some (.slice A0_1 l0_1.length c0_1) := bc_ BK513.out 1; have hfz50_0 := blk_frozen BK513.out 0; have hfz50_1 := blk_frozen BK513.out 1; have hcz51_0 : w49.cell? ⟨gb514, 0, none⟩ = some (.slice A1_0 l1_0.length c1_0) := bc_ BK514.out 0; have hcz51_1 : w49.cell? ⟨gb514, 1, none⟩ = some (.slice A1_1 l1_1.length c1_1) := bc_ BK514.out 1; have hfz51_0 := blk_frozen BK514.out 0; have hfz51_1 := blk_frozen BK514.out 1) | (go_at_call 36; (with_reducible refine (spec_l14Clash.calls k _ _ l0_0 _ _ l1_1 false _ ?side1 ?side2 ?side3 ?side4 A23.out).mono ?_); (case side1 => exact kc_ (Kd.V_reads' HO0_0.out).2.2); (case side2 => exact (Kd.V_reads' HO0_0.out).2.1); (case side3 => exact kc_ (Kd.C_below HR1_1.out HB.out)); (case side4 => exact HC1_1.out); rintro e w52 ⟨rfl, hb⟩; replace HO0_0 := Aside0.mk (Kd.V_below (by (with_reducible repeat (first | apply Kd.V_alloc | apply Kd.V_drewN | apply Kd.V_drew)); exact HO0_0.out) hb); replace HO1_0 := Aside0.mk (Kd.V_below (by (with_reducible repeat (first | apply Kd.V_alloc | apply Kd.V_drewN | apply Kd.V_drew)); exact HO1_0.out) hb); replace BK513 := bb_ BK513 hb; replace BK514 := bb_ BK514 hb; replace BK515 := bb_ BK515 hb; replace HB := Aside0.mk (below_step bl_ hb); clear hb; have hcz53_0 : w52.cell? ⟨gb513, 0, none⟩ = some (.slice A0_0 l0_0.length c0_0) := bc_ BK513.out 0; have hcz53_1 : w52.cell? ⟨gb513, 1, none⟩ = some (.slice A0_1 l0_1.length c0_1) := bc_ BK513.out 1; have hfz53_0 := blk_frozen BK513.out 0; have hfz53_1 := blk_frozen BK513.out 1; have hcz54_0 : w52.cell? ⟨gb514, 0, none⟩ = some (.slice A1_0 l1_0.length c1_0) := bc_ BK514.out 0; have hcz54_1 : w52.cell? ⟨gb514, 1, none⟩ = some (.slice A1_1 l1_1.length c1_1) := bc_ BK514.out 1; have hfz54_0 := blk_frozen BK514.out 0; have hfz54_1 := blk_frozen BK514.out 1) | (go_at_call 36; (with_reducible refine (spec_l14Clash.calls k _ _ l0_1 _ _ l1_0 true _ ?side1 ?side2 ?side3 ?side4 A38.out).mono ?_); (case side1 => exact kc_ (Kd.C_below HR0_1.out HB.out)); (case side2 => exact HC0_1.out); (case side3 => exact kc_ (Kd.V_reads' HO1_0.out).2.2); (case side4 => exact (Kd.V_reads' HO1_0.out).2.1); rintro e w55 ⟨rfl, hb⟩; replace HO0_0 := Aside0.mk (Kd.V_below (by (with_reducible repeat (first | apply Kd.V_alloc | apply Kd.V_drewN | apply Kd.V_drew)); exact HO0_0.out) hb); replace HO1_0 := Aside0.mk (Kd.V_below (by (with_reducible repeat (first | apply Kd.V_alloc | apply Kd.V_drewN | apply Kd.V_drew)); exact HO1_0.out) hb); replace BK513 := bb_ BK513 hb; replace BK514 := bb_ BK514 hb; replace BK515 := bb_ BK515 hb; replace HB := Aside0.mk (below_step bl_ hb); clear hb))
   go_meet
   case rel => exact ⟨_, (true), (by first | rfl | (simp; done) | (simp [*]; done)), H', ⟨by first | omega | exact Nat.le_refl _⟩, ⟨by (with_reducible repeat (first | apply Kd.V_alloc | apply Kd.V_drewN | apply Kd.V_drew)); exact Kd.V_mono HO0_0.out (fun _ hk => ⟨hk.1.1.1, ⟨hk.1.1.2, ⟨hk.1.2, hk.2⟩⟩⟩)⟩, ⟨by (with_reducible repeat (first | apply Kd.V_alloc | apply Kd.V_drewN | apply Kd.V_drew)); exact Kd.V_mono HO1_0.out (fun _ hk => ⟨hk.1.1.1, ⟨hk.1.1.2, ⟨hk.1.2, hk.2⟩⟩⟩)⟩, ⟨by exact kb_ BK513.out⟩, ⟨by exact kb_ BK514.out⟩, ⟨by exact kb_ BK515.out⟩, ⟨bl_⟩⟩
  replace c39 := Bool.eq_false_iff.mpr c39
  subst c39
  have H1 : ((spec_l14Clash.f k l0_1 l1_1).bind fun t521 => (spec_MergeBag.j0 k t521 l0_0 l0_1 l1_0 l1_1)) = some (r1, r2, r3) := by rw [if_neg (show ¬ (false = true) by decide)] at H; exact H
  clear H
  have H := H1
  clear H1
  replace H := Option.bind_eq_some_iff.mp H
  obtain ⟨t521, A560, H⟩ := H
  replace H : (spec_MergeBag.j0 k t521 l0_0 l0_1 l1_0 l1_1) = some (r1, r2, r3) := H
  have A56 := Aside0.mk A560
  clear A560
  have H' := Aside0.mk H
  clear H
  have hnb57 := NB513_514.out
  have hnc57 := NB514_513.out
  have hnb58 := NB513_515.out
  have hnc58 := NB515_513.out
  have hcz59_0 : w6.cell? ⟨gb513, 0, none⟩ = some (.slice A0_0 l0_0.length c0_0) := bc_ BK513.out 0
  have hcz59_1 : w6.cell? ⟨gb513, 1, none⟩ = some (.slice A0_1 l0_1.length c0_1) := bc_ BK513.out 1
  have hfz59_0 := blk_frozen BK513.out 0
  have hfz59_1 := blk_frozen BK513.out 1
  go_wp2_with (first | ((with_reducible refine gate_callee (f := 9) rfl ?_); refine goesL_ (some 14) rfl rfl Try.func9 (by kernel_rfl) rfl #[.agg #[.slice A0_0 l0_0.length c0_0, .slice A0_1 l0_1.length c0_1]] rfl nc_ ?_; (with_reducible refine (spec_GoodBag.calls k _ _ l0_0 _ _ l0_1 true _ ?side1 ?side2 ?side3 ?side4 A7.out).mono ?_); (case side1 => exact kc_ (Kd.V_reads' HO0_0.out).2.2); (case side2 => exact (Kd.V_reads' HO0_0.out).2.1); (case side3 => exact kc_ (Kd.C_below HR0_1.out HB.out)); (case side4 => exact HC0_1.out); rintro e w60 ⟨rfl, hb⟩; refine ⟨_, rfl, ?_⟩; replace HO0_0 := Aside0.mk (Kd.V_below (by (with_reducible repeat (first | apply Kd.V_alloc | apply Kd.V_drewN | apply Kd.V_drew)); exact HO0_0.out) hb); replace HO1_0 := Aside0.mk (Kd.V_below (by (with_reducible repeat (first | apply Kd.V_alloc | apply Kd.V_drewN | apply Kd.V_drew)); exact HO1_0.out) hb); replace BK513 := bb_ BK513 hb; replace BK514 := bb_ BK514 hb; replace BK515 := bb_ BK515 hb; replace HB := Aside0.mk (below_step bl_ hb); clear hb; have hnb61 := NB514_515.out; have hnc61 := NB515_514.out; have hcz62_0 : w60.cell? ⟨gb514, 0, none⟩ = some (.slice A1_0 l1_0.length c1_0) := bc_ BK514.out 0; have hcz62_1 : w60.cell? ⟨gb514, 1, none⟩ = some (.slice A1_1 l1_1.length c1_1) := bc_ BK514.out 1; have hfz62_0 := blk_frozen BK514.out 0; have hfz62_1 := blk_frozen BK514.out 1) | (go_at_call 9; (with_reducible refine (spec_GoodBag.calls k _ _ l1_0 _ _ l1_1 true _ ?side1 ?side2 ?side3 ?side4 A9.out).mono ?_); (case side1 => exact kc_ (Kd.V_reads' HO1_0.out).2.2); (case side2 => exact (Kd.V_reads' HO1_0.out).2.1); (case side3 => exact kc_ (Kd.C_below HR1_1.out HB.out)); (case side4 => exact HC1_1.out); rintro e w63 ⟨rfl, hb⟩; replace HO0_0 := Aside0.mk (Kd.V_below (by (with_reducible repeat (first | apply Kd.V_alloc | apply Kd.V_drewN | apply Kd.V_drew)); exact HO0_0.out) hb); replace HO1_0 := Aside0.mk (Kd.V_below (by (with_reducible repeat (first | apply Kd.V_alloc | apply Kd.V_drewN | apply Kd.V_drew)); exact HO1_0.out) hb); replace BK513 := bb_ BK513 hb; replace BK514 := bb_ BK514 hb; replace BK515 := bb_ BK515 hb; replace HB := Aside0.mk (below_step bl_ hb); clear hb; have hcz64_0 : w63.cell? ⟨gb513, 0, none⟩ = some (.slice A0_0 l0_0.length c0_0) := bc_ BK513.out 0; have hcz64_1 : w63.cell? ⟨gb513, 1, none⟩ = some (.slice A0_1 l0_1.length c0_1) := bc_ BK513.out 1; have hfz64_0 := blk_frozen BK513.out 0; have hfz64_1 := blk_frozen BK513.out 1; have hcz65_0 : w63.cell? ⟨gb514, 0, none⟩ = some (.slice A1_0 l1_0.length c1_0) := bc_ BK514.out 0; have hcz65_1 : w63.cell? ⟨gb514, 1, none⟩ = some (.slice A1_1 l1_1.length c1_1) := bc_ BK514.out 1; have hfz65_0 := blk_frozen BK514.out 0; have hfz65_1 := blk_frozen BK514.out 1) | (go_at_call 36; (with_reducible refine (spec_l14Clash.calls k _ _ l0_0 _ _ l1_0 false _ ?side1 ?side2 ?side3 ?side4 A11.out).mono ?_); (case side1 => exact kc_ (Kd.V_reads' HO0_0.out).2.2); (case side2 => exact (Kd.V_reads' HO0_0.out).2.1); (case side3 => exact kc_ (Kd.V_reads' HO1_0.out).2.2); (case side4 => exact (Kd.V_reads' HO1_0.out).2.1); rintro e w66 ⟨rfl, hb⟩; replace HO0_0 := Aside0.mk (Kd.V_below (by (with_reducible repeat (first | apply Kd.V_alloc | apply Kd.V_drewN | apply Kd.V_drew)); exact HO0_0.out) hb); replace HO1_0 := Aside0.mk (Kd.V_below (by (with_reducible repeat (first | apply Kd.V_alloc | apply Kd.V_drewN | apply Kd.V_drew)); exact HO1_0.out) hb); replace BK513 := bb_ BK513 hb; replace BK514 := bb_ BK514 hb; replace BK515 := bb_ BK515 hb; replace HB := Aside0.mk (below_step bl_ hb); clear hb; have hcz67_0 : w66.cell? ⟨gb513, 0, none⟩ = some (.slice A0_0 l0_0.length c0_0) := bc_ BK513.out 0; have hcz67_1 : w66.cell? ⟨gb513, 1, none⟩ = some (.slice A0_1 l0_1.length c0_1) := bc_ BK513.out 1; have hfz67_0 := blk_frozen BK513.out 0; have hfz67_1 := blk_frozen BK513.out 1; have hcz68_0 : w66.cell? ⟨gb514, 0, none⟩ = some (.slice A1_0 l1_0.length c1_0) := bc_ BK514.out 0; have hcz68_1 : w66.cell? ⟨gb514, 1, none⟩ = some (.slice A1_1 l1_1.length c1_1) := bc_ BK514.out 1; have hfz68_0 := blk_frozen BK514.out 0; have hfz68_1 := blk_frozen BK514.out 1) | (go_at_call 36; (with_reducible refine (spec_l14Clash.calls k _ _ l0_0 _ _ l1_1 false _ ?side1 ?side2 ?side3 ?side4 A23.out).mono ?_); (case side1 => exact kc_ (Kd.V_reads' HO0_0.out).2.2); (case side2 => exact (Kd.V_reads' HO0_0.out).2.1); (case side3 => exact kc_ (Kd.C_below HR1_1.out HB.out)); (case side4 => exact HC1_1.out); rintro e w69 ⟨rfl, hb⟩; replace HO0_0 := Aside0.mk (Kd.V_below (by (with_reducible repeat (first | apply Kd.V_alloc | apply Kd.V_drewN | apply Kd.V_drew)); exact HO0_0.out) hb); replace HO1_0 := Aside0.mk (Kd.V_below (by (with_reducible repeat (first | apply Kd.V_alloc | apply Kd.V_drewN | apply Kd.V_drew)); exact HO1_0.out) hb); replace BK513 := bb_ BK513 hb; replace BK514 := bb_ BK514 hb; replace BK515 := bb_ BK515 hb; replace HB := Aside0.mk (below_step bl_ hb); clear hb; have hcz70_0 : w69.cell? ⟨gb513, 0, none⟩ = some (.slice A0_0 l0_0.length c0_0) := bc_ BK513.out 0; have hcz70_1 : w69.cell? ⟨gb513, 1, none⟩ = some (.slice A0_1 l0_1.length c0_1) := bc_ BK513.out 1; have hfz70_0 := blk_frozen BK513.out 0; have hfz70_1 := blk_frozen BK513.out 1; have hcz71_0 : w69.cell? ⟨gb514, 0, none⟩ = some (.slice A1_0 l1_0.length c1_0) := bc_ BK514.out 0; have hcz71_1 : w69.cell? ⟨gb514, 1, none⟩ = some (.slice A1_1 l1_1.length c1_1) := bc_ BK514.out 1; have hfz71_0 := blk_frozen BK514.out 0; have hfz71_1 := blk_frozen BK514.out 1) | (go_at_call 36; (with_reducible refine (spec_l14Clash.calls k _ _ l0_1 _ _ l1_0 false _ ?side1 ?side2 ?side3 ?side4 A38.out).mono ?_); (case side1 => exact kc_ (Kd.C_below HR0_1.out HB.out)); (case side2 => exact HC0_1.out); (case side3 => exact kc_ (Kd.V_reads' HO1_0.out).2.2); (case side4 => exact (Kd.V_reads' HO1_0.out).2.1); rintro e w72 ⟨rfl, hb⟩; replace HO0_0 := Aside0.mk (Kd.V_below (by (with_reducible repeat (first | apply Kd.V_alloc | apply Kd.V_drewN | apply Kd.V_drew)); exact HO0_0.out) hb); replace HO1_0 := Aside0.mk (Kd.V_below (by (with_reducible repeat (first | apply Kd.V_alloc | apply Kd.V_drewN | apply Kd.V_drew)); exact HO1_0.out) hb); replace BK513 := bb_ BK513 hb; replace BK514 := bb_ BK514 hb; replace BK515 := bb_ BK515 hb; replace HB := Aside0.mk (below_step bl_ hb); clear hb; have hcz73_0 : w72.cell? ⟨gb513, 0, none⟩ = some (.slice A0_0 l0_0.length c0_0) := bc_ BK513.out 0; have hcz73_1 : w72.cell? ⟨gb513, 1, none⟩ = some (.slice A0_1 l0_1.length c0_1) := bc_ BK513.out 1; have hfz73_0 := blk_frozen BK513.out 0; have hfz73_1 := blk_frozen BK513.out 1; have hcz74_0 : w72.cell? ⟨gb514, 0, none⟩ = some (.slice A1_0 l1_0.length c1_0) := bc_ BK514.out 0; have hcz74_1 : w72.cell? ⟨gb514, 1, none⟩ = some (.slice A1_1 l1_1.length c1_1) := bc_ BK514.out 1; have hfz74_0 := blk_frozen BK514.out 0; have hfz74_1 := blk_frozen BK514.out 1) | (go_at_call 36; (with_reducible refine (spec_l14Clash.calls k _ _ l0_1 _ _ l1_1 t521 _ ?side1 ?side2 ?side3 ?side4 A56.out).mono ?_); (case side1 => exact kc_ (Kd.C_below HR0_1.out HB.out)); (case side2 => exact HC0_1.out); (case side3 => exact kc_ (Kd.C_below HR1_1.out HB.out)); (case side4 => exact HC1_1.out); rintro e w75 ⟨rfl, hb⟩; replace HO0_0 := Aside0.mk (Kd.V_below (by (with_reducible repeat (first | apply Kd.V_alloc | apply Kd.V_drewN | apply Kd.V_drew)); exact HO0_0.out) hb); replace HO1_0 := Aside0.mk (Kd.V_below (by (with_reducible repeat (first | apply Kd.V_alloc | apply Kd.V_drewN | apply Kd.V_drew)); exact HO1_0.out) hb); replace BK513 := bb_ BK513 hb; replace BK514 := bb_ BK514 hb; replace BK515 := bb_ BK515 hb; replace HB := Aside0.mk (below_step bl_ hb); clear hb))
  go_meet
  case rel => exact ⟨_, (t521), (by first | rfl | (simp; done) | (simp [*]; done)), H', ⟨by first | omega | exact Nat.le_refl _⟩, ⟨by (with_reducible repeat (first | apply Kd.V_alloc | apply Kd.V_drewN | apply Kd.V_drew)); exact Kd.V_mono HO0_0.out (fun _ hk => ⟨hk.1.1.1, ⟨hk.1.1.2, ⟨hk.1.2, hk.2⟩⟩⟩)⟩, ⟨by (with_reducible repeat (first | apply Kd.V_alloc | apply Kd.V_drewN | apply Kd.V_drew)); exact Kd.V_mono HO1_0.out (fun _ hk => ⟨hk.1.1.1, ⟨hk.1.1.2, ⟨hk.1.2, hk.2⟩⟩⟩)⟩, ⟨by exact kb_ BK513.out⟩, ⟨by exact kb_ BK514.out⟩, ⟨by exact kb_ BK515.out⟩, ⟨bl_⟩⟩
 clear HC3
 try clear c1
 try clear c2
 try clear p2
 try clear c3
 try clear c4
 try clear c5
 try clear c6
 try clear c7
 try clear c8
 try clear c9
 try clear c10
 try clear c12
 try clear c13
 try clear c14
 try clear c17
 try clear c24
 try clear c25
 try clear c26
 try clear c29
 try clear c39
 try clear c40
 try clear c41
 try clear c44
 try clear c57
 try clear c58
 try clear c61
 try clear c76
 try clear c77
 try clear c80
 try clear c83
 try clear c84
 try clear hcz15_0
 try clear hcz15_1
 try clear hcz18_0
 try clear hcz18_1
 try clear hcz20_0
 try clear hcz20_1
 try clear hcz21_0
 try clear hcz21_1
 try clear hcz27_0
 try clear hcz27_1
 try clear hcz30_0
 try clear hcz30_1
 try clear hcz32_0
 try clear hcz32_1
 try clear hcz33_0
 try clear hcz33_1
 try clear hcz35_0
 try clear hcz35_1
 try clear hcz36_0
 try clear hcz36_1
 try clear hcz42_0
 try clear hcz42_1
 try clear hcz45_0
 try clear hcz45_1
 try clear hcz47_0
 try clear hcz47_1
 try clear hcz48_0
 try clear hcz48_1
 try clear hcz50_0
 try clear hcz50_1
 try clear hcz51_0
 try clear hcz51_1
 try clear hcz53_0
 try clear hcz53_1
 try clear hcz54_0
 try clear hcz54_1
 try clear hcz59_0
 try clear hcz59_1
 try clear hcz62_0
 try clear hcz62_1
 try clear hcz64_0
 try clear hcz64_1
 try clear hcz65_0
 try clear hcz65_1
 try clear hcz67_0
 try clear hcz67_1
 try clear hcz68_0
 try clear hcz68_1
 try clear hcz70_0
 try clear hcz70_1
 try clear hcz71_0
 try clear hcz71_1
 try clear hcz73_0
 try clear hcz73_1
 try clear hcz74_0
 try clear hcz74_1
 try clear hcz78_0
 try clear hcz78_1
 try clear hcz81_0
 try clear hcz81_1
 try clear hcz85_0
 try clear hcz85_1
 try clear hfz15_0
 try clear hfz15_1
 try clear hfz18_0
 try clear hfz18_1
 try clear hfz20_0
 try clear hfz20_1
 try clear hfz21_0
 try clear hfz21_1
 try clear hfz27_0
 try clear hfz27_1
 try clear hfz30_0
 try clear hfz30_1
 try clear hfz32_0
 try clear hfz32_1
 try clear hfz33_0
 try clear hfz33_1
 try clear hfz35_0
 try clear hfz35_1
 try clear hfz36_0
 try clear hfz36_1
 try clear hfz42_0
 try clear hfz42_1
 try clear hfz45_0
 try clear hfz45_1
 try clear hfz47_0
 try clear hfz47_1
 try clear hfz48_0
 try clear hfz48_1
 try clear hfz50_0
 try clear hfz50_1
 try clear hfz51_0
 try clear hfz51_1
 try clear hfz53_0
 try clear hfz53_1
 try clear hfz54_0
 try clear hfz54_1
 try clear hfz59_0
 try clear hfz59_1
 try clear hfz62_0
 try clear hfz62_1
 try clear hfz64_0
 try clear hfz64_1
 try clear hfz65_0
 try clear hfz65_1
 try clear hfz67_0
 try clear hfz67_1
 try clear hfz68_0
 try clear hfz68_1
 try clear hfz70_0
 try clear hfz70_1
 try clear hfz71_0
 try clear hfz71_1
 try clear hfz73_0
 try clear hfz73_1
 try clear hfz74_0
 try clear hfz74_1
 try clear hfz78_0
 try clear hfz78_1
 try clear hfz81_0
 try clear hfz81_1
 try clear hfz85_0
 try clear hfz85_1
 obtain ⟨kq, x48_2, rfl, HA, HJ2, HO_514000, HO_515000, BK513, BK514, BK515, HB⟩ := hcut
 cases kq with
 | zero => exact absurd HA.out (by simp [spec_MergeBag.j0])
 | succ kj2 => ?_
 have H := HA.out
 clear HA
 simp only [spec_MergeBag.j0] at H
 by_cases c87 : x48_2 = true
 ·subst c87
  have H1 : (some (([] : List (S48)), ([] : List (S48)), false)) = some (r1, r2, r3) := by rw [if_pos rfl] at H; exact H
  clear H
  have H := H1
  clear H1
  simp only [Option.some.injEq, Prod.mk.injEq] at H
  obtain ⟨rfl, rfl, rfl⟩ := H
  have hnb88 := NB515_513.out
  have hnc88 := NB513_515.out
  have hnb89 := NB515_514.out
  have hnc89 := NB514_515.out
  have hcz90_0 : wc.cell? ⟨gb515, 0, none⟩ = some (.slice none 0 0) := bc_ BK515.out 0
  have hcz90_1 : wc.cell? ⟨gb515, 1, none⟩ = some (.slice none 0 0) := bc_ BK515.out 1
  have hfz90_0 := blk_frozen BK515.out 0
  have hfz90_1 := blk_frozen BK515.out 1
  go_wp2
  refine bodyPost_ret (results_ct rfl _ _ gb515 29 #[.slice none 0 0, .slice none 0 0] (0, 0) _ rfl (by (with_reducible repeat (first | refine blk_drewN ?_ _ | refine blk_drew ?_ | refine blk_alloc ?_ _)); refine blk_put (cs := #[.slice none 0 0, .slice none 0 0]) ?_ 1 _ rfl; (with_reducible repeat (first | refine blk_drewN ?_ _ | refine blk_drew ?_ | refine blk_alloc ?_ _)); refine blk_put (cs := #[.slice none 0 0, .slice none 0 0]) ?_ 0 _ rfl; exact kb_ BK515.out) Try.underlying29 rfl (by kernel_rfl)) rfl ?_
  exact ⟨_, _, ng_, by first | exact Kd.R_nil _ _ _ _ _ | exact Kd.N_nil _ _ _ _ _ | exact Kd.V_nil _ _ _ _ _ | exact Kd.Q_nil _ _ _ _ _ | exact Kd.S_nil _ _ _ _ _, by first | exact Kd.R_nil _ _ _ _ _ | exact Kd.N_nil _ _ _ _ _ | exact Kd.V_nil _ _ _ _ _ | exact Kd.Q_nil _ _ _ _ _ | exact Kd.S_nil _ _ _ _ _, bl_⟩
 replace c87 := Bool.eq_false_iff.mpr c87
 subst c87
 have H1 : ((some (([] : List (S48)) : List (S48))).bind fun y522 => (if y522.length + l0_1.length < 4398046511104 then (spec_MergeBag.l0 kj2 l1_1 (l1_1.length : Int) 0 l0_0 l0_1 l1_0 l1_1 (y522 ++ l0_1)) else (none))) = some (r1, r2, r3) := by rw [if_neg (show ¬ (false = true) by decide)] at H; exact H
 clear H
 have H := H1
 clear H1
 obtain ⟨y522, hy522⟩ : ∃ y_ : List (S48), y_ = (([] : List (S48))) := ⟨_, rfl⟩
 replace H : (if y522.length + l0_1.length < 4398046511104 then (spec_MergeBag.l0 kj2 l1_1 (l1_1.length : Int) 0 l0_0 l0_1 l1_0 l1_1 (y522 ++ l0_1)) else (none)) = some (r1, r2, r3) := by first | (rw [hy522]; with_reducible exact H) | (have H2_ := (Option.bind_some _ _).symm.trans H; rw [hy522]; with_reducible exact H2_) | (have H2_ := (Option.bind_some _ _).symm.trans H; with_reducible exact H2_) | with_reducible exact H | (rw [hy522]; exact H) | exact H
 have Ny522 := Aside0.mk hy522
 clear hy522
 by_cases c91 : y522.length + l0_1.length < 4398046511104
 rotate_left
 ·rw [if_neg c91] at H
  exact absurd H (by simp)
 rw [if_pos c91] at H
 have LMc91 := Aside0.mk c91
 clear c91
 obtain ⟨y525, hy525⟩ : ∃ y_ : List (S48), y_ = (y522 ++ l0_1) := ⟨_, rfl⟩
 replace H : (spec_MergeBag.l0 kj2 l1_1 (l1_1.length : Int) 0 l0_0 l0_1 l1_0 l1_1 y525) = some (r1, r2, r3) := by first | (rw [hy525]; with_reducible exact H) | (have H2_ := (Option.bind_some _ _).symm.trans H; rw [hy525]; with_reducible exact H2_) | (have H2_ := (Option.bind_some _ _).symm.trans H; with_reducible exact H2_) | with_reducible exact H | (rw [hy525]; exact H) | exact H
 have Ny525 := Aside0.mk hy525
 clear hy525
 have H' := Aside0.mk H
 clear H
 go_wp2_with (first | ((with_reducible refine gate_dst (N := 50) rfl ?_); refine Kd.R_lit k48 _ 48 rfl (N := 50) rfl (xs := ([] : List (S48))) (inner := []) (ok := fun _ => True) (okp := fun _ => True) gs_ ?hp (fun _ hk => hk) trivial (Below.refl _ _) (Nat.le_refl _) (by simp) ?_; (case hp => exact (Reps.none _ _)); intro v523 w92 ho93 hb hg_ hnew_; clear hg_ hnew_; (first | rw [← Ny522.out] at ho93 | (simp only [Int.reduceToNat] at ho93; rw [← Ny522.out] at ho93)); replace HO_514000 := Aside0.mk (Kd.V_elder' (by (with_reducible repeat (first | apply Kd.V_alloc | apply Kd.V_drewN | apply Kd.V_drew)); exact HO_514000.out) (Kd.R_base ho93) hb); replace HO_515000 := Aside0.mk (Kd.V_elder' (by (with_reducible repeat (first | apply Kd.V_alloc | apply Kd.V_drewN | apply Kd.V_drew)); exact HO_515000.out) (Kd.R_base ho93) hb); have HO524 := Aside0.mk (Kd.R_lower (Kd.R_newM (M := fun k_ => (w.heap.size ≤ k_)) ho93 bz_ (fun k_ h_ => h_)) bz_); replace BK513 := bb_ BK513 hb; replace BK514 := bb_ BK514 hb; replace BK515 := bb_ BK515 hb; replace HB := Aside0.mk (below_step bl_ hb); clear hb ho93; have hnb94 := NB513_514.out; have hnc94 := NB514_513.out; have hnb95 := NB513_515.out; have hnc95 := NB515_513.out; have hcz96_0 : w92.cell? ⟨gb513, 0, none⟩ = some (.slice A0_0 l0_0.length c0_0) := bc_ BK513.out 0; have hcz96_1 : w92.cell? ⟨gb513, 1, none⟩ = some (.slice A0_1 l0_1.length c0_1) := bc_ BK513.out 1; have hfz96_0 := blk_frozen BK513.out 0; have hfz96_1 := blk_frozen BK513.out 1) | ((with_reducible refine gate_builtin (b := .append) (xs := #[.tmp 50, .tmp 52]) rfl ?_); at_builtin; refine Kd.R_append_rows k48 (w0 := w) w.heap.size rfl (.tmp 50) (.tmp 52) 27 48 (.agg #[(.string ⟨#[]⟩), (.int .i64 0), (.int .i64 0)]) 32 rfl Try.underlying27 info48 rfl (by decide) (by omega) v523 y522 l0_1 _ _ _ (fun k_ => (w.heap.size ≤ k_)) (fun _ => False) rfl rfl ?aO ?aR (fun _ _ h => h) (fun _ h => h.elim) ?aF ?aB ?aS ?aL ?_; (case aR => exact kc_ (Kd.C_below HR0_1.out HB.out)); (case aB => exact bl_); (case aF => exact (fun k_ hk => (Nat.le_trans bz_ hk))); (case aO => exact (kqq_ HO524.out)); (case aS => exact bz_); (case aL => have := LMc91.out; omega); intro v526 w97 ho hb hg hat; rw [← Ny525.out] at ho; replace HO_514000 := Aside0.mk (Kd.V_afterv (ok := (fun k_ => ((P0_0_ k_ ∨ P1_0_ k_) ∨ w.heap.size ≤ k_) ∧ k_ ≠ gb513 ∧ k_ ≠ gb514 ∧ k_ ≠ gb515)) (by (with_reducible repeat (first | apply Kd.V_alloc | apply Kd.V_drewN | apply Kd.V_drew)); exact HO_514000.out) hg hat); replace HO_515000 := Aside0.mk (Kd.V_afterv (ok := (fun k_ => ((P0_0_ k_ ∨ P1_0_ k_) ∨ w.heap.size ≤ k_) ∧ k_ ≠ gb513 ∧ k_ ≠ gb514 ∧ k_ ≠ gb515)) (by (with_reducible repeat (first | apply Kd.V_alloc | apply Kd.V_drewN | apply Kd.V_drew)); exact HO_515000.out) hg hat); replace BK513 := bgr_ BK513 hg HO524 BK513; replace BK514 := bgr_ BK514 hg HO524 BK514; replace BK515 := bgr_ BK515 hg HO524 BK515; replace HB := Aside0.mk (hb); have HO527 := Aside0.mk (ho); clear HO524 ho hb hg hat; obtain ⟨Ao98, co98, eo98⟩ := Kd.R_slice HO527.out; subst eo98) | ((with_reducible refine gate_dst (N := 6) rfl ?_); refine box_event rfl (N := 6) rfl (cs := #[.slice none 0 0, .slice none 0 0]) (t := 29) gs_ ?_; intro gb528 hg w99 hbox hb; replace HO_514000 := Aside0.mk (Kd.V_below (Kd.V_elderB (by (with_reducible repeat (first | apply Kd.V_alloc | apply Kd.V_drewN | apply Kd.V_drew)); exact HO_514000.out) gb528 (Nat.le_of_eq hg.symm)) hb); replace HO_515000 := Aside0.mk (Kd.V_below (Kd.V_elderB (by (with_reducible repeat (first | apply Kd.V_alloc | apply Kd.V_drewN | apply Kd.V_drew)); exact HO_515000.out) gb528 (Nat.le_of_eq hg.symm)) hb); replace HO527 := rb_ HO527 hb; have BK528 := Aside0.mk (hbox); have GW528 := Aside0.mk ((by rw [hg]; exact bz_ : w.heap.size ≤ gb528)); have GE528 := GW528; replace HB := Aside0.mk (below_step bl_ hb); have NB513_528 := nl_ hg BK513; have NB528_513 := nm_ hg BK513; replace BK513 := bb_ BK513 hb; have NB514_528 := nl_ hg BK514; have NB528_514 := nm_ hg BK514; replace BK514 := bb_ BK514 hb; have NB515_528 := nl_ hg BK515; have NB528_515 := nm_ hg BK515; replace BK515 := bb_ BK515 hb; clear hb hbox hg; have hnb100 := NB528_513.out; have hnc100 := NB513_528.out; have hnb101 := NB528_514.out; have hnc101 := NB514_528.out; have hnb102 := NB528_515.out; have hnc102 := NB515_528.out; have hcz103_0 : w99.cell? ⟨gb528, 0, none⟩ = some (.slice none 0 0) := bc_ BK528.out 0; have hcz103_1 : w99.cell? ⟨gb528, 1, none⟩ = some (.slice none 0 0) := bc_ BK528.out 1; have hfz103_0 := blk_frozen BK528.out 0; have hfz103_1 := blk_frozen BK528.out 1; have hnb104 := NB514_515.out; have hnc104 := NB515_514.out; have hcz105_0 : w99.cell? ⟨gb514, 0, none⟩ = some (.slice A1_0 l1_0.length c1_0) := bc_ BK514.out 0; have hcz105_1 : w99.cell? ⟨gb514, 1, none⟩ = some (.slice A1_1 l1_1.length c1_1) := bc_ BK514.out 1; have hfz105_0 := blk_frozen BK514.out 0; have hfz105_1 := blk_frozen BK514.out 1))
 go_loopg [58] kj2 (fun kq v58 w' => ∃ (x58_2 : Int) (x529001_2 : List (S48)) (u529001 : Value), v58 = .int .i64 x58_2 ∧ Aside0 (spec_MergeBag.l0 kq l1_1 (l1_1.length : Int) x58_2 l0_0 l0_1 l1_0 l1_1 x529001_2 = some (r1, r2, r3)) ∧ Aside0 (kq ≤ kj2) ∧ Aside0 (Kd.V k48 48 w' w.heap.size (fun k_ => ((P0_0_ k_ ∨ P1_0_ k_) ∨ w.heap.size ≤ k_) ∧ some k_ ≠ (u529001 : Value).ownBlock ∧ k_ ≠ gb513 ∧ k_ ≠ gb514 ∧ k_ ≠ gb515 ∧ k_ ≠ gb528) (.slice A0_0 l0_0.length c0_0) l0_0) ∧ Aside0 (Kd.V k48 48 w' w.heap.size (fun k_ => ((P0_0_ k_ ∨ P1_0_ k_) ∨ w.heap.size ≤ k_) ∧ some k_ ≠ (u529001 : Value).ownBlock ∧ k_ ≠ gb513 ∧ k_ ≠ gb514 ∧ k_ ≠ gb515 ∧ k_ ≠ gb528) (.slice A1_0 l1_0.length c1_0) l1_0) ∧ Aside0 (Kd.R k48 48 w' w.heap.size (fun k_ => (w.heap.size ≤ k_)) u529001 x529001_2) ∧ Aside0 (w'.heap[gb513]? = some (.cells #[(.slice A0_0 l0_0.length c0_0), (.slice A0_1 l0_1.length c0_1)] 29 (0, 0))) ∧ Aside0 (w'.heap[gb514]? = some (.cells #[(.slice A1_0 l1_0.length c1_0), (.slice A1_1 l1_1.length c1_1)] 29 (0, 0))) ∧ Aside0 (w'.heap[gb515]? = some (.cells #[(.slice none 0 0), (.slice none 0 0)] 29 (0, 0))) ∧ Aside0 (w'.heap[gb528]? = some (.cells #[(.slice none 0 0), u529001] 29 (0, 0))) ∧ Aside0 (Below w.heap.size w w'))
 case atStart => exact ⟨(0), (y525), (.slice Ao98 y525.length co98), (by first | rfl | (simp; done) | (simp [*]; done)), H', ⟨Nat.le_refl _⟩, ⟨by (with_reducible repeat (first | apply Kd.V_alloc | apply Kd.V_drewN | apply Kd.V_drew)); exact Kd.V_mono (Kd.V_far (p := ⟨gb528, 1, none⟩) (Kd.V_far (p := ⟨gb528, 0, none⟩) (Kd.V_mono HO_514000.out (fun k_ hk => (⟨hk, hk.2⟩ : _ ∧ k_ ≠ gb528))) (fun _ hk => hk.2) (.slice none 0 0)) (fun _ hk => hk.2) (.slice Ao98 y525.length co98)) (fun _ hk => ⟨hk.1.1.1.1, ⟨hk.1.1.2, ⟨hk.1.1.1.2.1, ⟨hk.1.1.1.2.2.1, ⟨hk.1.1.1.2.2.2, hk.1.2⟩⟩⟩⟩⟩)⟩, ⟨by (with_reducible repeat (first | apply Kd.V_alloc | apply Kd.V_drewN | apply Kd.V_drew)); exact Kd.V_mono (Kd.V_far (p := ⟨gb528, 1, none⟩) (Kd.V_far (p := ⟨gb528, 0, none⟩) (Kd.V_mono HO_515000.out (fun k_ hk => (⟨hk, hk.2⟩ : _ ∧ k_ ≠ gb528))) (fun _ hk => hk.2) (.slice none 0 0)) (fun _ hk => hk.2) (.slice Ao98 y525.length co98)) (fun _ hk => ⟨hk.1.1.1.1, ⟨hk.1.1.2, ⟨hk.1.1.1.2.1, ⟨hk.1.1.1.2.2.1, ⟨hk.1.1.1.2.2.2, hk.1.2⟩⟩⟩⟩⟩)⟩, ⟨by exact kr_ (Kd.R_mono (Kd.R_far (p := ⟨gb528, 1, none⟩) (Kd.R_far (p := ⟨gb528, 0, none⟩) (Kd.R_types HO527.out BK528.out (by decide)) (fun _ hk => hk.2) (.slice none 0 0)) (fun _ hk => hk.2) (.slice Ao98 y525.length co98)) (fun _ hk => hk.1))⟩, ⟨kz_⟩, ⟨kz_⟩, ⟨kz_⟩, ⟨by (with_reducible repeat (first | refine blk_drewN ?_ _ | refine blk_drew ?_ | refine blk_alloc ?_ _)); refine blk_put (cs := #[.slice none 0 0, .slice none 0 0]) ?_ 1 _ rfl; (with_reducible repeat (first | refine blk_drewN ?_ _ | refine blk_drew ?_ | refine blk_alloc ?_ _)); refine blk_put (cs := #[.slice none 0 0, .slice none 0 0]) ?_ 0 _ rfl; exact kb_ BK528.out⟩, ⟨bl_⟩⟩
 clear H'
 try clear c1
 try clear c2
 try clear p2
 try clear c3
 try clear c4
 try clear c5
 try clear c6
 try clear c7
 try clear c8
 try clear c9
 try clear c10
 try clear c12
 try clear c13
 try clear c14
 try clear c17
 try clear c24
 try clear c25
 try clear c26
 try clear c29
 try clear c39
 try clear c40
 try clear c41
 try clear c44
 try clear c57
 try clear c58
 try clear c61
 try clear c76
 try clear c77
 try clear c80
 try clear c83
 try clear c84
 try clear c87
 try clear c88
 try clear c89
 try clear c91
 try clear c94
 try clear c95
 try clear c100
 try clear c101
 try clear c102
 try clear c104
 try clear hcz103_0
 try clear hcz103_1
 try clear hcz105_0
 try clear hcz105_1
 try clear hcz15_0
 try clear hcz15_1
 try clear hcz18_0
 try clear hcz18_1
 try clear hcz20_0
 try clear hcz20_1
 try clear hcz21_0
 try clear hcz21_1
 try clear hcz27_0
 try clear hcz27_1
 try clear hcz30_0
 try clear hcz30_1
 try clear hcz32_0
 try clear hcz32_1
 try clear hcz33_0
 try clear hcz33_1
 try clear hcz35_0
 try clear hcz35_1
 try clear hcz36_0
 try clear hcz36_1
 try clear hcz42_0
 try clear hcz42_1
 try clear hcz45_0
 try clear hcz45_1
 try clear hcz47_0
 try clear hcz47_1
 try clear hcz48_0
 try clear hcz48_1
 try clear hcz50_0
 try clear hcz50_1
 try clear hcz51_0
 try clear hcz51_1
 try clear hcz53_0
 try clear hcz53_1
 try clear hcz54_0
 try clear hcz54_1
 try clear hcz59_0
 try clear hcz59_1
 try clear hcz62_0
 try clear hcz62_1
 try clear hcz64_0
 try clear hcz64_1
 try clear hcz65_0
 try clear hcz65_1
 try clear hcz67_0
 try clear hcz67_1
 try clear hcz68_0
 try clear hcz68_1
 try clear hcz70_0
 try clear hcz70_1
 try clear hcz71_0
 try clear hcz71_1
 try clear hcz73_0
 try clear hcz73_1
 try clear hcz74_0
 try clear hcz74_1
 try clear hcz78_0
 try clear hcz78_1
 try clear hcz81_0
 try clear hcz81_1
 try clear hcz85_0
 try clear hcz85_1
 try clear hcz90_0
 try clear hcz90_1
 try clear hcz96_0
 try clear hcz96_1
 try clear hfz103_0
 try clear hfz103_1
 try clear hfz105_0
 try clear hfz105_1
 try clear hfz15_0
 try clear hfz15_1
 try clear hfz18_0
 try clear hfz18_1
 try clear hfz20_0
 try clear hfz20_1
 try clear hfz21_0
 try clear hfz21_1
 try clear hfz27_0
 try clear hfz27_1
 try clear hfz30_0
 try clear hfz30_1
 try clear hfz32_0
 try clear hfz32_1
 try clear hfz33_0
 try clear hfz33_1
 try clear hfz35_0
 try clear hfz35_1
 try clear hfz36_0
 try clear hfz36_1
 try clear hfz42_0
 try clear hfz42_1
 try clear hfz45_0
 try clear hfz45_1
 try clear hfz47_0
 try clear hfz47_1
 try clear hfz48_0
 try clear hfz48_1
 try clear hfz50_0
 try clear hfz50_1
 try clear hfz51_0
 try clear hfz51_1
 try clear hfz53_0
 try clear hfz53_1
 try clear hfz54_0
 try clear hfz54_1
 try clear hfz59_0
 try clear hfz59_1
 try clear hfz62_0
 try clear hfz62_1
 try clear hfz64_0
 try clear hfz64_1
 try clear hfz65_0
 try clear hfz65_1
 try clear hfz67_0
 try clear hfz67_1
 try clear hfz68_0
 try clear hfz68_1
 try clear hfz70_0
 try clear hfz70_1
 try clear hfz71_0
 try clear hfz71_1
 try clear hfz73_0
 try clear hfz73_1
 try clear hfz74_0
 try clear hfz74_1
 try clear hfz78_0
 try clear hfz78_1
 try clear hfz81_0
 try clear hfz81_1
 try clear hfz85_0
 try clear hfz85_1
 try clear hfz90_0
 try clear hfz90_1
 try clear hfz96_0
 try clear hfz96_1
 try clear p2
 obtain ⟨x58_2, x529001_2, u529001, rfl, HA, HK2, HO_514000, HO_515000, HO_529001, BK513, BK514, BK515, BK528, HB⟩ := hrel
 cases gk with
 | zero => exact absurd HA.out (by simp [spec_MergeBag.l0])
 | succ k2 => ?_
 have H := HA.out
 clear HA
 simp only [spec_MergeBag.l0] at H
 by_cases c106 : x58_2 < (l1_1.length : Int)
 ·rw [if_pos c106] at H
  have c106b0 : decide (x58_2 < (l1_1.length : Int)) = true := decide_eq_true c106
  clear c106
  by_cases c107 : 0 ≤ x58_2
  rotate_left
  ·rw [if_neg c107] at H
   exact absurd H (by simp)
  rw [if_pos c107] at H
  have c107b0 : decide (0 ≤ x58_2) = true := decide_eq_true c107
  clear c107
  by_cases c108 : x58_2 < (l1_1.length : Int)
  rotate_left
  ·rw [if_neg c108] at H
   exact absurd H (by simp)
  rw [if_pos c108] at H
  have c108b0 : decide (x58_2 < (l1_1.length : Int)) = true := decide_eq_true c108
  clear c108
  replace H := Option.bind_eq_some_iff.mp H
  obtain ⟨t531, A1090, H⟩ := H
  replace H : (spec_MergeBag.l0 k2 l1_1 (l1_1.length : Int) (wrap64 (x58_2 + 1)) l0_0 l0_1 l1_0 l1_1 t531) = some (r1, r2, r3) := H
  have A109 := Aside0.mk A1090
  clear A1090
  have H' := Aside0.mk H
  clear H
  have p529 : 0 ≤ (x58_2 : Int) := of_decide_eq_true (by first | (with_reducible assumption) | assumption)
  have q529 : x58_2 < (l1_1.length : Int) := of_decide_eq_true (by first | (with_reducible assumption) | assumption)
  obtain ⟨ad529, e529, hx529_0, hx529_1, hx529_2⟩ := at_T48 HR1_1.out x58_2 p529 q529
  cases e529
  replace hx529_0 := (HB.out.cell (World.block_lt_of_cell? w _ hx529_0)).trans hx529_0
  replace hx529_1 := (HB.out.cell (World.block_lt_of_cell? w _ hx529_1)).trans hx529_1
  replace hx529_2 := (HB.out.cell (World.block_lt_of_cell? w _ hx529_2)).trans hx529_2
  replace p529 := eq_true p529
  replace q529 := eq_true q529
  go_wp2_with (first | ((with_reducible refine gate_dst (N := 8) rfl ?_); refine box_event rfl (N := 8) rfl (cs := #[.string (⟨#[]⟩ : ByteArray), .int .i64 0, .int .i64 0]) (t := 48) gs_ ?_; intro gb530 hg w110 hbox hb; replace HO_514000 := Aside0.mk (Kd.V_below (Kd.V_elderB (by (with_reducible repeat (first | apply Kd.V_alloc | apply Kd.V_drewN | apply Kd.V_drew)); exact HO_514000.out) gb530 (Nat.le_of_eq hg.symm)) hb); replace HO_515000 := Aside0.mk (Kd.V_below (Kd.V_elderB (by (with_reducible repeat (first | apply Kd.V_alloc | apply Kd.V_drewN | apply Kd.V_drew)); exact HO_515000.out) gb530 (Nat.le_of_eq hg.symm)) hb); replace HO_529001 := Aside0.mk (Kd.R_below (Kd.R_elderB (kr_ HO_529001.out) gb530 (Nat.le_of_eq hg.symm)) hb); have BK530 := Aside0.mk (hbox); have GW530 := Aside0.mk ((by rw [hg]; exact bz_ : w.heap.size ≤ gb530)); have GE530 := GW530; replace HB := Aside0.mk (below_step bl_ hb); have NB513_530 := nl_ hg BK513; have NB530_513 := nm_ hg BK513; replace BK513 := bb_ BK513 hb; have NB514_530 := nl_ hg BK514; have NB530_514 := nm_ hg BK514; replace BK514 := bb_ BK514 hb; have NB515_530 := nl_ hg BK515; have NB530_515 := nm_ hg BK515; replace BK515 := bb_ BK515 hb; have NB528_530 := nl_ hg BK528; have NB530_528 := nm_ hg BK528; replace BK528 := bb_ BK528 hb; clear hb hbox hg; have hnb111 := NB530_513.out; have hnc111 := NB513_530.out; have hnb112 := NB530_514.out; have hnc112 := NB514_530.out; have hnb113 := NB530_515.out; have hnc113 := NB515_530.out; have hnb114 := NB530_528.out; have hnc114 := NB528_530.out; have hcz115_0 : w110.cell? ⟨gb530, 0, none⟩ = some (.string (⟨#[]⟩ : ByteArray)) := bc_ BK530.out 0; have hcz115_1 : w110.cell? ⟨gb530, 1, none⟩ = some (.int .i64 0) := bc_ BK530.out 1; have hcz115_2 : w110.cell? ⟨gb530, 2, none⟩ = some (.int .i64 0) := bc_ BK530.out 2; have hfz115_0 := blk_frozen BK530.out 0; have hfz115_1 := blk_frozen BK530.out 1; have hfz115_2 := blk_frozen BK530.out 2; have hnb116 := NB528_513.out; have hnc116 := NB513_528.out; have hnb117 := NB528_514.out; have hnc117 := NB514_528.out; have hnb118 := NB528_515.out; have hnc118 := NB515_528.out; have hcz119_0 : w110.cell? ⟨gb528, 0, none⟩ = some (.slice none 0 0) := bc_ BK528.out 0; have hcz119_1 : w110.cell? ⟨gb528, 1, none⟩ = some (u529001) := bc_ BK528.out 1; have hfz119_0 := blk_frozen BK528.out 0; have hfz119_1 := blk_frozen BK528.out 1; obtain ⟨Ao120, co120, eo120⟩ := Kd.R_slice HO_529001.out; subst eo120) | ((with_reducible refine gate_callee (f := 32) rfl ?_); refine goesL_ (some 65) rfl rfl Try.func32 (by kernel_rfl) rfl #[.slice Ao120 x529001_2.length co120, .agg #[.string ((rd_T48 l1_1 x58_2).f0), .int .i64 ((rd_T48 l1_1 x58_2).f1), .int .i64 ((rd_T48 l1_1 x58_2).f2)]] rfl nc_ ?_; (with_reducible refine (spec_l14Put.calls k2 _ _ x529001_2 ((rd_T48 l1_1 x58_2).f0) ((rd_T48 l1_1 x58_2).f1) ((rd_T48 l1_1 x58_2).f2) t531 _ ?side1 ?side2 A109.out).mono ?_); (case side1 => refine (Kd.R_reads' (e := 48) (base := w.heap.size) (ok := fun k_ => ((w.heap.size ≤ k_) ∧ k_ ≠ gb530)) (n := x529001_2.length) (c := co120) ?_).2.2; exact (by exact kr_ ((Kd.R_mono (Kd.R_far (p := ⟨gb530, 2, none⟩) (Kd.R_far (p := ⟨gb530, 1, none⟩) (Kd.R_far (p := ⟨gb530, 0, none⟩) (Kd.R_mono HO_529001.out (fun k_ hk => (⟨hk, hk.2⟩ : _ ∧ k_ ≠ gb530))) (fun _ hk => hk.2) (.string ((rd_T48 l1_1 x58_2).f0))) (fun _ hk => hk.2) (.int .i64 ((rd_T48 l1_1 x58_2).f1))) (fun _ hk => hk.2) (.int .i64 ((rd_T48 l1_1 x58_2).f2))) (fun _ h_ => h_.1))))); (case side2 => exact (Kd.R_reads' HO_529001.out).2.1); rintro e w121 ⟨v532, rfl, ho0, hb⟩; refine ⟨_, rfl, ?_⟩; replace HO_514000 := Aside0.mk (Kd.V_elder' (by (with_reducible repeat (first | apply Kd.V_alloc | apply Kd.V_drewN | apply Kd.V_drew)); exact (Kd.V_mono (Kd.V_far (p := ⟨gb530, 2, none⟩) (Kd.V_far (p := ⟨gb530, 1, none⟩) (Kd.V_far (p := ⟨gb530, 0, none⟩) (Kd.V_mono HO_514000.out (fun k_ hk => (⟨hk, hk.2⟩ : _ ∧ k_ ≠ gb530))) (fun _ hk => hk.2) (.string ((rd_T48 l1_1 x58_2).f0))) (fun _ hk => hk.2) (.int .i64 ((rd_T48 l1_1 x58_2).f1))) (fun _ hk => hk.2) (.int .i64 ((rd_T48 l1_1 x58_2).f2))) (fun _ h_ => h_.1))) (Kd.R_base ho0) hb); replace HO_515000 := Aside0.mk (Kd.V_elder' (by (with_reducible repeat (first | apply Kd.V_alloc | apply Kd.V_drewN | apply Kd.V_drew)); exact (Kd.V_mono (Kd.V_far (p := ⟨gb530, 2, none⟩) (Kd.V_far (p := ⟨gb530, 1, none⟩) (Kd.V_far (p := ⟨gb530, 0, none⟩) (Kd.V_mono HO_515000.out (fun k_ hk => (⟨hk, hk.2⟩ : _ ∧ k_ ≠ gb530))) (fun _ hk => hk.2) (.string ((rd_T48 l1_1 x58_2).f0))) (fun _ hk => hk.2) (.int .i64 ((rd_T48 l1_1 x58_2).f1))) (fun _ hk => hk.2) (.int .i64 ((rd_T48 l1_1 x58_2).f2))) (fun _ h_ => h_.1))) (Kd.R_base ho0) hb); have HO533 := Aside0.mk (Kd.R_lower (Kd.R_newB (Kd.R_new' (Kd.R_newM (M := fun k_ => (w.heap.size ≤ k_)) ho0 bz_ (fun k_ h_ => h_)) (Kd.R_lt (by exact kr_ ((Kd.R_mono (Kd.R_far (p := ⟨gb530, 2, none⟩) (Kd.R_far (p := ⟨gb530, 1, none⟩) (Kd.R_far (p := ⟨gb530, 0, none⟩) (Kd.R_mono HO_529001.out (fun k_ hk => (⟨hk, hk.2⟩ : _ ∧ k_ ≠ gb530))) (fun _ hk => hk.2) (.string ((rd_T48 l1_1 x58_2).f0))) (fun _ hk => hk.2) (.int .i64 ((rd_T48 l1_1 x58_2).f1))) (fun _ hk => hk.2) (.int .i64 ((rd_T48 l1_1 x58_2).f2))) (fun _ h_ => h_.1)))))) (g := gb530) (o := .cells #[.string ((rd_T48 l1_1 x58_2).f0), .int .i64 ((rd_T48 l1_1 x58_2).f1), .int .i64 ((rd_T48 l1_1 x58_2).f2)] 48 (0, 0)) (by (with_reducible repeat (first | refine blk_drewN ?_ _ | refine blk_drew ?_ | refine blk_alloc ?_ _)); refine blk_put (cs := #[.string ((rd_T48 l1_1 x58_2).f0), .int .i64 ((rd_T48 l1_1 x58_2).f1), .int .i64 0]) ?_ 2 _ rfl; (with_reducible repeat (first | refine blk_drewN ?_ _ | refine blk_drew ?_ | refine blk_alloc ?_ _)); refine blk_put (cs := #[.string ((rd_T48 l1_1 x58_2).f0), .int .i64 0, .int .i64 0]) ?_ 1 _ rfl; (with_reducible repeat (first | refine blk_drewN ?_ _ | refine blk_drew ?_ | refine blk_alloc ?_ _)); refine blk_put (cs := #[.string (⟨#[]⟩ : ByteArray), .int .i64 0, .int .i64 0]) ?_ 0 _ rfl; exact kb_ BK530.out)) bz_); replace HO_529001 := Aside0.mk (Kd.R_elder' (by exact kr_ ((Kd.R_mono (Kd.R_far (p := ⟨gb530, 2, none⟩) (Kd.R_far (p := ⟨gb530, 1, none⟩) (Kd.R_far (p := ⟨gb530, 0, none⟩) (Kd.R_mono HO_529001.out (fun k_ hk => (⟨hk, hk.2⟩ : _ ∧ k_ ≠ gb530))) (fun _ hk => hk.2) (.string ((rd_T48 l1_1 x58_2).f0))) (fun _ hk => hk.2) (.int .i64 ((rd_T48 l1_1 x58_2).f1))) (fun _ hk => hk.2) (.int .i64 ((rd_T48 l1_1 x58_2).f2))) (fun _ h_ => h_.1)))) (Kd.R_base ho0) hb); replace BK513 := Aside0.mk (blk_below (g := gb513) (o := .cells #[.slice A0_0 l0_0.length c0_0, .slice A0_1 l0_1.length c0_1] 29 (0, 0)) kz_ hb); replace BK514 := Aside0.mk (blk_below (g := gb514) (o := .cells #[.slice A1_0 l1_0.length c1_0, .slice (some ad529) l1_1.length c1_1] 29 (0, 0)) kz_ hb); replace BK515 := Aside0.mk (blk_below (g := gb515) (o := .cells #[.slice none 0 0, .slice none 0 0] 29 (0, 0)) kz_ hb); replace BK528 := Aside0.mk (blk_below (g := gb528) (o := .cells #[.slice none 0 0, .slice Ao120 x529001_2.length co120] 29 (0, 0)) kz_ hb); replace BK530 := Aside0.mk (blk_below (g := gb530) (o := .cells #[.string ((rd_T48 l1_1 x58_2).f0), .int .i64 ((rd_T48 l1_1 x58_2).f1), .int .i64 ((rd_T48 l1_1 x58_2).f2)] 48 (0, 0)) (by (with_reducible repeat (first | refine blk_drewN ?_ _ | refine blk_drew ?_ | refine blk_alloc ?_ _)); refine blk_put (cs := #[.string ((rd_T48 l1_1 x58_2).f0), .int .i64 ((rd_T48 l1_1 x58_2).f1), .int .i64 0]) ?_ 2 _ rfl; (with_reducible repeat (first | refine blk_drewN ?_ _ | refine blk_drew ?_ | refine blk_alloc ?_ _)); refine blk_put (cs := #[.string ((rd_T48 l1_1 x58_2).f0), .int .i64 0, .int .i64 0]) ?_ 1 _ rfl; (with_reducible repeat (first | refine blk_drewN ?_ _ | refine blk_drew ?_ | refine blk_alloc ?_ _)); refine blk_put (cs := #[.string (⟨#[]⟩ : ByteArray), .int .i64 0, .int .i64 0]) ?_ 0 _ rfl; exact kb_ BK530.out) hb); replace HB := Aside0.mk (below_step bl_ hb); clear hb ho0; obtain ⟨Ao122, co122, eo122⟩ := Kd.R_slice HO533.out; subst eo122; have hcz123_0 : w121.cell? ⟨gb528, 0, none⟩ = some (.slice none 0 0) := bc_ BK528.out 0; have hcz123_1 : w121.cell? ⟨gb528, 1, none⟩ = some (.slice Ao120 x529001_2.length co120) := bc_ BK528.out 1; have hfz123_0 := blk_frozen BK528.out 0; have hfz123_1 := blk_frozen BK528.out 1))
  go_roundg k2
  case measure => have := HJ2.out; have := HK2.out; omega
  case rel => exact ⟨(wrap64 (x58_2 + 1)), (t531), (.slice Ao122 t531.length co122), (by first | rfl | (simp; done) | (simp [*]; done)), H', ⟨by have := HJ2.out; have := HK2.out; omega⟩, ⟨by (with_reducible repeat (first | apply Kd.V_alloc | apply Kd.V_drewN | apply Kd.V_drew)); exact Kd.V_mono (Kd.V_far (p := ⟨gb528, 1, none⟩) (Kd.V_mono HO_514000.out (fun k_ hk => (⟨hk, hk.1.1.2.2.2.2.2⟩ : _ ∧ k_ ≠ gb528))) (fun _ hk => hk.2) (.slice Ao122 t531.length co122)) (fun _ hk => ⟨hk.1.1.1.1, ⟨hk.1.2, ⟨hk.1.1.1.2.2.1, ⟨hk.1.1.1.2.2.2.1, ⟨hk.1.1.1.2.2.2.2.1, hk.1.1.1.2.2.2.2.2⟩⟩⟩⟩⟩)⟩, ⟨by (with_reducible repeat (first | apply Kd.V_alloc | apply Kd.V_drewN | apply Kd.V_drew)); exact Kd.V_mono (Kd.V_far (p := ⟨gb528, 1, none⟩) (Kd.V_mono HO_515000.out (fun k_ hk => (⟨hk, hk.1.1.2.2.2.2.2⟩ : _ ∧ k_ ≠ gb528))) (fun _ hk => hk.2) (.slice Ao122 t531.length co122)) (fun _ hk => ⟨hk.1.1.1.1, ⟨hk.1.2, ⟨hk.1.1.1.2.2.1, ⟨hk.1.1.1.2.2.2.1, ⟨hk.1.1.1.2.2.2.2.1, hk.1.1.1.2.2.2.2.2⟩⟩⟩⟩⟩)⟩, ⟨by exact kr_ (Kd.R_mono (Kd.R_far (p := ⟨gb528, 1, none⟩) (Kd.R_types HO533.out BK528.out (by decide)) (fun _ hk => hk.2) (.slice Ao122 t531.length co122)) (fun _ hk => hk.1.1.1.1))⟩, ⟨kz_⟩, ⟨kz_⟩, ⟨kz_⟩, ⟨by (with_reducible repeat (first | refine blk_drewN ?_ _ | refine blk_drew ?_ | refine blk_alloc ?_ _)); refine blk_put (cs := #[.slice none 0 0, .slice Ao120 x529001_2.length co120]) ?_ 1 _ rfl; exact kb_ BK528.out⟩, ⟨bl_⟩⟩
 rw [if_neg c106] at H
 have c106b0 : decide (x58_2 < (l1_1.length : Int)) = false := decide_eq_false c106
 clear c106
 obtain ⟨y534, hy534⟩ : ∃ y_ : List (List (S48)), y_ = (([l0_0, l1_0] : List (List (S48)))) := ⟨_, rfl⟩
 replace H : (spec_MergeBag.l1 k2 y534 (y534.length : Int) 0 ([] : List (S48)) x529001_2) = some (r1, r2, r3) := by first | (rw [hy534]; with_reducible exact H) | (have H2_ := (Option.bind_some _ _).symm.trans H; rw [hy534]; with_reducible exact H2_) | (have H2_ := (Option.bind_some _ _).symm.trans H; with_reducible exact H2_) | with_reducible exact H | (rw [hy534]; exact H) | exact H
 have Ny534 := Aside0.mk hy534
 clear hy534
 have H' := Aside0.mk H
 clear H
 have hnb124 := NB513_514.out
 have hnc124 := NB514_513.out
 have hnb125 := NB513_515.out
 have hnc125 := NB515_513.out
 have hnb126 := NB513_528.out
 have hnc126 := NB528_513.out
 have hcz127_0 : wr.cell? ⟨gb513, 0, none⟩ = some (.slice A0_0 l0_0.length c0_0) := bc_ BK513.out 0
 have hcz127_1 : wr.cell? ⟨gb513, 1, none⟩ = some (.slice A0_1 l0_1.length c0_1) := bc_ BK513.out 1
 have hfz127_0 := blk_frozen BK513.out 0
 have hfz127_1 := blk_frozen BK513.out 1
 have hnb128 := NB514_515.out
 have hnc128 := NB515_514.out
 have hnb129 := NB514_528.out
 have hnc129 := NB528_514.out
 have hcz130_0 : wr.cell? ⟨gb514, 0, none⟩ = some (.slice A1_0 l1_0.length c1_0) := bc_ BK514.out 0
 have hcz130_1 : wr.cell? ⟨gb514, 1, none⟩ = some (.slice A1_1 l1_1.length c1_1) := bc_ BK514.out 1
 have hfz130_0 := blk_frozen BK514.out 0
 have hfz130_1 := blk_frozen BK514.out 1
 go_wp2_with (first | ((with_reducible refine gate_dst (N := 72) rfl ?_); refine Kd.N_lit (Kd.slice 48 k48) _ 27 ?hg (N' := 72) ?hd (xs := ([l0_0, l1_0] : List (List (S48)))) (inner := [.slice A0_0 l0_0.length c0_0, .slice A1_0 l1_0.length c1_0]) (ok := (fun k_ => ((P0_0_ k_ ∨ P1_0_ k_) ∨ w.heap.size ≤ k_) ∧ some k_ ≠ (u529001 : Value).ownBlock ∧ k_ ≠ gb513 ∧ k_ ≠ gb514 ∧ k_ ≠ gb515 ∧ k_ ≠ gb528)) (okp := (fun k_ => ((P0_0_ k_ ∨ P1_0_ k_) ∨ w.heap.size ≤ k_) ∧ some k_ ≠ (u529001 : Value).ownBlock ∧ k_ ≠ gb513 ∧ k_ ≠ gb514 ∧ k_ ≠ gb515 ∧ k_ ≠ gb528)) ?hr ?hp (fun _ hk => hk) ((show ∀ k_, wr.heap.size ≤ k_ → (fun k_ => ((P0_0_ k_ ∨ P1_0_ k_) ∨ w.heap.size ≤ k_) ∧ some k_ ≠ (u529001 : Value).ownBlock ∧ k_ ≠ gb513 ∧ k_ ≠ gb514 ∧ k_ ≠ gb515 ∧ k_ ≠ gb528) k_ from fun k_ hk => ⟨(.inr (Nat.le_trans bz_ hk)), Kd.fresh' (Kd.R_lt (kr_ HO_529001.out)) k_ hk, Kd.freshB (kb_ BK513.out) k_ hk, Kd.freshB (kb_ BK514.out) k_ hk, Kd.freshB (kb_ BK515.out) k_ hk, Kd.freshB (kb_ BK528.out) k_ hk⟩) _ (Nat.le_refl _)) (Below.refl _ _) (Nat.le_refl _) (by simp) ?_; (case hd => rfl); (case hg => rfl); (case hr => first | (go_simp; done) | (go_simp; rfl)); (case hp => exact (Reps.one (show Kd.FK (Kd.slice 48 k48) _ _ l0_0 [.slice A0_0 l0_0.length c0_0] from (Kd.FK_slice_mk (Kd.V_reads' (Kd.V_mono (ok' := (fun k_ => ((P0_0_ k_ ∨ P1_0_ k_) ∨ w.heap.size ≤ k_) ∧ some k_ ≠ (u529001 : Value).ownBlock ∧ k_ ≠ gb513 ∧ k_ ≠ gb514 ∧ k_ ≠ gb515 ∧ k_ ≠ gb528)) (HO_514000.out) (fun k_ hk => ⟨hk.1, ⟨hk.2.1, ⟨hk.2.2.1, ⟨hk.2.2.2.1, ⟨hk.2.2.2.2.1, hk.2.2.2.2.2⟩⟩⟩⟩⟩))).2.1 (Kd.V_F (Kd.V_mono (ok' := (fun k_ => ((P0_0_ k_ ∨ P1_0_ k_) ∨ w.heap.size ≤ k_) ∧ some k_ ≠ (u529001 : Value).ownBlock ∧ k_ ≠ gb513 ∧ k_ ≠ gb514 ∧ k_ ≠ gb515 ∧ k_ ≠ gb528)) (HO_514000.out) (fun k_ hk => ⟨hk.1, ⟨hk.2.1, ⟨hk.2.2.1, ⟨hk.2.2.2.1, ⟨hk.2.2.2.2.1, hk.2.2.2.2.2⟩⟩⟩⟩⟩))))) (Reps.one (show Kd.FK (Kd.slice 48 k48) _ _ l1_0 [.slice A1_0 l1_0.length c1_0] from (Kd.FK_slice_mk (Kd.V_reads' (Kd.V_mono (ok' := (fun k_ => ((P0_0_ k_ ∨ P1_0_ k_) ∨ w.heap.size ≤ k_) ∧ some k_ ≠ (u529001 : Value).ownBlock ∧ k_ ≠ gb513 ∧ k_ ≠ gb514 ∧ k_ ≠ gb515 ∧ k_ ≠ gb528)) (HO_515000.out) (fun k_ hk => ⟨hk.1, ⟨hk.2.1, ⟨hk.2.2.1, ⟨hk.2.2.2.1, ⟨hk.2.2.2.2.1, hk.2.2.2.2.2⟩⟩⟩⟩⟩))).2.1 (Kd.V_F (Kd.V_mono (ok' := (fun k_ => ((P0_0_ k_ ∨ P1_0_ k_) ∨ w.heap.size ≤ k_) ∧ some k_ ≠ (u529001 : Value).ownBlock ∧ k_ ≠ gb513 ∧ k_ ≠ gb514 ∧ k_ ≠ gb515 ∧ k_ ≠ gb528)) (HO_515000.out) (fun k_ hk => ⟨hk.1, ⟨hk.2.1, ⟨hk.2.2.1, ⟨hk.2.2.2.1, ⟨hk.2.2.2.2.1, hk.2.2.2.2.2⟩⟩⟩⟩⟩))))) (Reps.none _ _)))); intro v535 w131 ho132 hb hg_ hnew_; clear hg_ hnew_; (first | rw [← Ny534.out] at ho132 | (simp only [Int.reduceToNat] at ho132; rw [← Ny534.out] at ho132)); replace HO_514000 := Aside0.mk (Kd.V_elder' (by (with_reducible repeat (first | apply Kd.V_alloc | apply Kd.V_drewN | apply Kd.V_drew)); exact HO_514000.out) (Kd.N_base ho132) hb); replace HO_515000 := Aside0.mk (Kd.V_elder' (by (with_reducible repeat (first | apply Kd.V_alloc | apply Kd.V_drewN | apply Kd.V_drew)); exact HO_515000.out) (Kd.N_base ho132) hb); replace HO_529001 := rb_ HO_529001 hb; have HO536 := Aside0.mk (Kd.N_lower ho132 bz_); replace BK513 := bb_ BK513 hb; replace BK514 := bb_ BK514 hb; replace BK515 := bb_ BK515 hb; replace BK528 := bb_ BK528 hb; replace HB := Aside0.mk (below_step bl_ hb); clear hb ho132; obtain ⟨Ao133, co133, eo133⟩ := Kd.N_slice HO536.out; subst eo133))
 go_loopg [74] k2 (fun kq v74 w' => ∃ (x74_3 : Int) (x529000_3 : List (S48)) (u529000 : Value), v74 = .int .i64 x74_3 ∧ Aside0 (spec_MergeBag.l1 kq y534 (y534.length : Int) x74_3 x529000_3 x529001_2 = some (r1, r2, r3)) ∧ Aside0 (kq ≤ k2) ∧ Aside0 (Kd.N (Kd.slice 48 k48) 27 w' w.heap.size (fun k_ => ((P0_0_ k_ ∨ P1_0_ k_) ∨ w.heap.size ≤ k_) ∧ some k_ ≠ (u529000 : Value).ownBlock ∧ some k_ ≠ (u529001 : Value).ownBlock ∧ k_ ≠ gb513 ∧ k_ ≠ gb514 ∧ k_ ≠ gb515 ∧ k_ ≠ gb528) (.slice Ao133 y534.length co133) y534) ∧ Aside0 (Kd.V k48 48 w' w.heap.size (fun k_ => ((P0_0_ k_ ∨ P1_0_ k_) ∨ w.heap.size ≤ k_) ∧ some k_ ≠ ((.slice Ao133 y534.length co133) : Value).ownBlock ∧ some k_ ≠ (u529000 : Value).ownBlock ∧ some k_ ≠ (u529001 : Value).ownBlock ∧ k_ ≠ gb513 ∧ k_ ≠ gb514 ∧ k_ ≠ gb515 ∧ k_ ≠ gb528) (.slice A0_0 l0_0.length c0_0) l0_0) ∧ Aside0 (Kd.V k48 48 w' w.heap.size (fun k_ => ((P0_0_ k_ ∨ P1_0_ k_) ∨ w.heap.size ≤ k_) ∧ some k_ ≠ ((.slice Ao133 y534.length co133) : Value).ownBlock ∧ some k_ ≠ (u529000 : Value).ownBlock ∧ some k_ ≠ (u529001 : Value).ownBlock ∧ k_ ≠ gb513 ∧ k_ ≠ gb514 ∧ k_ ≠ gb515 ∧ k_ ≠ gb528) (.slice A1_0 l1_0.length c1_0) l1_0) ∧ Aside0 (Kd.R k48 48 w' w.heap.size (fun k_ => (w.heap.size ≤ k_) ∧ some k_ ≠ (u529001 : Value).ownBlock) u529000 x529000_3) ∧ Aside0 (Kd.R k48 48 w' w.heap.size (fun k_ => (w.heap.size ≤ k_) ∧ some k_ ≠ (u529000 : Value).ownBlock) u529001 x529001_2) ∧ Aside0 (w'.heap[gb513]? = some (.cells #[(.slice A0_0 l0_0.length c0_0), (.slice A0_1 l0_1.length c0_1)] 29 (0, 0))) ∧ Aside0 (w'.heap[gb514]? = some (.cells #[(.slice A1_0 l1_0.length c1_0), (.slice A1_1 l1_1.length c1_1)] 29 (0, 0))) ∧ Aside0 (w'.heap[gb515]? = some (.cells #[(.slice none 0 0), (.slice none 0 0)] 29 (0, 0))) ∧ Aside0 (w'.heap[gb528]? = some (.cells #[u529000, u529001] 29 (0, 0))) ∧ Aside0 (Below w.heap.size w w'))
 case atStart => exact ⟨(0), (([] : List (S48))), (.slice none 0 0), (by first | rfl | (simp; done) | (simp [*]; done)), H', ⟨Nat.le_refl _⟩, ⟨by (with_reducible repeat (first | apply Kd.N_alloc | apply Kd.N_drewN | apply Kd.N_drew)); exact Kd.N_mono HO536.out (fun _ hk => ⟨hk.1, ⟨(by simp [Value.ownBlock]), ⟨hk.2.1, ⟨hk.2.2.1, ⟨hk.2.2.2.1, ⟨hk.2.2.2.2.1, hk.2.2.2.2.2⟩⟩⟩⟩⟩⟩)⟩, ⟨by (with_reducible repeat (first | apply Kd.V_alloc | apply Kd.V_drewN | apply Kd.V_drew)); exact Kd.V_mono HO_514000.out (fun _ hk => ⟨hk.1.1, ⟨hk.2, ⟨(by simp [Value.ownBlock]), ⟨hk.1.2.1, ⟨hk.1.2.2.1, ⟨hk.1.2.2.2.1, ⟨hk.1.2.2.2.2.1, hk.1.2.2.2.2.2⟩⟩⟩⟩⟩⟩⟩)⟩, ⟨by (with_reducible repeat (first | apply Kd.V_alloc | apply Kd.V_drewN | apply Kd.V_drew)); exact Kd.V_mono HO_515000.out (fun _ hk => ⟨hk.1.1, ⟨hk.2, ⟨(by simp [Value.ownBlock]), ⟨hk.1.2.1, ⟨hk.1.2.2.1, ⟨hk.1.2.2.2.1, ⟨hk.1.2.2.2.2.1, hk.1.2.2.2.2.2⟩⟩⟩⟩⟩⟩⟩)⟩, ⟨by first | exact Kd.R_nil _ _ _ _ _ | exact Kd.N_nil _ _ _ _ _ | exact Kd.V_nil _ _ _ _ _ | exact Kd.Q_nil _ _ _ _ _ | exact Kd.S_nil _ _ _ _ _⟩, ⟨by exact kr_ (Kd.R_mono HO_529001.out (fun _ hk => ⟨hk, (by simp [Value.ownBlock])⟩))⟩, ⟨by exact kb_ BK513.out⟩, ⟨by exact kb_ BK514.out⟩, ⟨by exact kb_ BK515.out⟩, ⟨by exact kb_ BK528.out⟩, ⟨bl_⟩⟩
 clear H'
 try clear c1
 try clear c2
 try clear p2
 try clear c3
 try clear c4
 try clear c5
 try clear p5
 try clear q5
 try clear hx5
 try clear c6
 try clear p6
 try clear c7
 try clear c8
 try clear c9
 try clear c10
 try clear c11
 try clear c12
 try clear c13
 try clear c14
 try clear c17
 try clear c24
 try clear c25
 try clear c26
 try clear c29
 try clear c32
 try clear c39
 try clear c40
 try clear c41
 try clear c44
 try clear p52
 try clear q52
 try clear hx52
 try clear c57
 try clear c58
 try clear c61
 try clear p64
 try clear c76
 try clear c77
 try clear c80
 try clear c83
 try clear c84
 try clear c87
 try clear c88
 try clear c89
 try clear c91
 try clear c94
 try clear c95
 try clear c100
 try clear c101
 try clear c102
 try clear c104
 try clear c106
 try clear c106b0
 try clear c107
 try clear c107b0
 try clear c108
 try clear c108b0
 try clear c111
 try clear c112
 try clear c113
 try clear c114
 try clear c116
 try clear c117
 try clear c118
 try clear c124
 try clear c125
 try clear c126
 try clear c128
 try clear c129
 try clear hcz103_0
 try clear hcz103_1
 try clear hcz105_0
 try clear hcz105_1
 try clear hcz115_0
 try clear hcz115_1
 try clear hcz115_2
 try clear hcz119_0
 try clear hcz119_1
 try clear hcz123_0
 try clear hcz123_1
 try clear hcz127_0
 try clear hcz127_1
 try clear hcz130_0
 try clear hcz130_1
 try clear hcz15_0
 try clear hcz15_1
 try clear hcz18_0
 try clear hcz18_1
 try clear hcz20_0
 try clear hcz20_1
 try clear hcz21_0
 try clear hcz21_1
 try clear hcz27_0
 try clear hcz27_1
 try clear hcz30_0
 try clear hcz30_1
 try clear hcz32_0
 try clear hcz32_1
 try clear hcz33_0
 try clear hcz33_1
 try clear hcz35_0
 try clear hcz35_1
 try clear hcz36_0
 try clear hcz36_1
 try clear hcz42_0
 try clear hcz42_1
 try clear hcz45_0
 try clear hcz45_1
 try clear hcz47_0
 try clear hcz47_1
 try clear hcz48_0
 try clear hcz48_1
 try clear hcz50_0
 try clear hcz50_1
 try clear hcz51_0
 try clear hcz51_1
 try clear hcz53_0
 try clear hcz53_1
 try clear hcz54_0
 try clear hcz54_1
 try clear hcz59_0
 try clear hcz59_1
 try clear hcz62_0
 try clear hcz62_1
 try clear hcz64_0
 try clear hcz64_1
 try clear hcz65_0
 try clear hcz65_1
 try clear hcz67_0
 try clear hcz67_1
 try clear hcz68_0
 try clear hcz68_1
 try clear hcz70_0
 try clear hcz70_1
 try clear hcz71_0
 try clear hcz71_1
 try clear hcz73_0
 try clear hcz73_1
 try clear hcz74_0
 try clear hcz74_1
 try clear hcz78_0
 try clear hcz78_1
 try clear hcz81_0
 try clear hcz81_1
 try clear hcz85_0
 try clear hcz85_1
 try clear hcz90_0
 try clear hcz90_1
 try clear hcz96_0
 try clear hcz96_1
 try clear hfz103_0
 try clear hfz103_1
 try clear hfz105_0
 try clear hfz105_1
 try clear hfz115_0
 try clear hfz115_1
 try clear hfz115_2
 try clear hfz119_0
 try clear hfz119_1
 try clear hfz123_0
 try clear hfz123_1
 try clear hfz127_0
 try clear hfz127_1
 try clear hfz130_0
 try clear hfz130_1
 try clear hfz15_0
 try clear hfz15_1
 try clear hfz18_0
 try clear hfz18_1
 try clear hfz20_0
 try clear hfz20_1
 try clear hfz21_0
 try clear hfz21_1
 try clear hfz27_0
 try clear hfz27_1
 try clear hfz30_0
 try clear hfz30_1
 try clear hfz32_0
 try clear hfz32_1
 try clear hfz33_0
 try clear hfz33_1
 try clear hfz35_0
 try clear hfz35_1
 try clear hfz36_0
 try clear hfz36_1
 try clear hfz42_0
 try clear hfz42_1
 try clear hfz45_0
 try clear hfz45_1
 try clear hfz47_0
 try clear hfz47_1
 try clear hfz48_0
 try clear hfz48_1
 try clear hfz50_0
 try clear hfz50_1
 try clear hfz51_0
 try clear hfz51_1
 try clear hfz53_0
 try clear hfz53_1
 try clear hfz54_0
 try clear hfz54_1
 try clear hfz59_0
 try clear hfz59_1
 try clear hfz62_0
 try clear hfz62_1
 try clear hfz64_0
 try clear hfz64_1
 try clear hfz65_0
 try clear hfz65_1
 try clear hfz67_0
 try clear hfz67_1
 try clear hfz68_0
 try clear hfz68_1
 try clear hfz70_0
 try clear hfz70_1
 try clear hfz71_0
 try clear hfz71_1
 try clear hfz73_0
 try clear hfz73_1
 try clear hfz74_0
 try clear hfz74_1
 try clear hfz78_0
 try clear hfz78_1
 try clear hfz81_0
 try clear hfz81_1
 try clear hfz85_0
 try clear hfz85_1
 try clear hfz90_0
 try clear hfz90_1
 try clear hfz96_0
 try clear hfz96_1
 try clear hx529_0
 try clear hx529_1
 try clear hx529_2
 try clear p2
 try clear p529
 try clear q529
 obtain ⟨x74_3, x529000_3, u529000, rfl, HA, HK3, HO_72, HO_514000, HO_515000, HO_529000, HO_529001, BK513, BK514, BK515, BK528, HB⟩ := hrel
 cases gk with
 | zero => exact absurd HA.out (by simp [spec_MergeBag.l1])
 | succ k3 => ?_
 have H := HA.out
 clear HA
 simp only [spec_MergeBag.l1] at H
 by_cases c134 : x74_3 < (y534.length : Int)
 rotate_left
 ·rw [if_neg c134] at H
  have c134b0 : decide (x74_3 < (y534.length : Int)) = false := decide_eq_false c134
  clear c134
  replace H := Option.bind_eq_some_iff.mp H
  obtain ⟨t537, A1730, H⟩ := H
  replace H : (if t537 = true then (some (x529000_3, x529001_2, true)) else (some (([] : List (S48)), ([] : List (S48)), false))) = some (r1, r2, r3) := H
  have A173 := Aside0.mk A1730
  clear A1730
  by_cases c174 : t537 = true
  rotate_left
  ·replace c174 := Bool.eq_false_iff.mpr c174
   subst c174
   have H1 : (some (([] : List (S48)), ([] : List (S48)), false)) = some (r1, r2, r3) := by rw [if_neg (show ¬ (false = true) by decide)] at H; exact H
   clear H
   have H := H1
   clear H1
   simp only [Option.some.injEq, Prod.mk.injEq] at H
   obtain ⟨rfl, rfl, rfl⟩ := H
   have hnb186 := NB528_513.out
   have hnc186 := NB513_528.out
   have hnb187 := NB528_514.out
   have hnc187 := NB514_528.out
   have hnb188 := NB528_515.out
   have hnc188 := NB515_528.out
   have hcz189_0 : wr.cell? ⟨gb528, 0, none⟩ = some (u529000) := bc_ BK528.out 0
   have hcz189_1 : wr.cell? ⟨gb528, 1, none⟩ = some (u529001) := bc_ BK528.out 1
   have hfz189_0 := blk_frozen BK528.out 0
   have hfz189_1 := blk_frozen BK528.out 1
   obtain ⟨Ao190, co190, eo190⟩ := Kd.R_slice HO_529000.out
   subst eo190
   obtain ⟨Ao191, co191, eo191⟩ := Kd.R_slice HO_529001.out
   subst eo191
   go_wp2_with (first | ((with_reducible refine gate_callee (f := 9) rfl ?_); refine goesL_ (some 97) rfl rfl Try.func9 (by kernel_rfl) rfl #[.agg #[.slice Ao190 x529000_3.length co190, .slice Ao191 x529001_2.length co191]] rfl nc_ ?_; (with_reducible refine (spec_GoodBag.calls k3 _ _ x529000_3 _ _ x529001_2 false _ ?side1 ?side2 ?side3 ?side4 A173.out).mono ?_); (case side1 => exact kc_ (Kd.R_reads' HO_529000.out).2.2); (case side2 => exact (Kd.R_reads' HO_529000.out).2.1); (case side3 => exact kc_ (Kd.R_reads' HO_529001.out).2.2); (case side4 => exact (Kd.R_reads' HO_529001.out).2.1); rintro e w192 ⟨rfl, hb⟩; refine ⟨_, rfl, ?_⟩; replace HO_72 := Aside0.mk (Kd.N_below (by (with_reducible repeat (first | apply Kd.N_alloc | apply Kd.N_drewN | apply Kd.N_drew)); exact HO_72.out) hb); replace HO_514000 := Aside0.mk (Kd.V_below (by (with_reducible repeat (first | apply Kd.V_alloc | apply Kd.V_drewN | apply Kd.V_drew)); exact HO_514000.out) hb); replace HO_515000 := Aside0.mk (Kd.V_below (by (with_reducible repeat (first | apply Kd.V_alloc | apply Kd.V_drewN | apply Kd.V_drew)); exact HO_515000.out) hb); replace HO_529000 := rb_ HO_529000 hb; replace HO_529001 := rb_ HO_529001 hb; replace BK513 := bb_ BK513 hb; replace BK514 := bb_ BK514 hb; replace BK515 := bb_ BK515 hb; replace BK528 := bb_ BK528 hb; replace HB := Aside0.mk (below_step bl_ hb); clear hb; have hnb193 := NB515_513.out; have hnc193 := NB513_515.out; have hnb194 := NB515_514.out; have hnc194 := NB514_515.out; have hcz195_0 : w192.cell? ⟨gb515, 0, none⟩ = some (.slice none 0 0) := bc_ BK515.out 0; have hcz195_1 : w192.cell? ⟨gb515, 1, none⟩ = some (.slice none 0 0) := bc_ BK515.out 1; have hfz195_0 := blk_frozen BK515.out 0; have hfz195_1 := blk_frozen BK515.out 1))
   refine bodyPost_ret (results_ct rfl _ _ gb515 29 #[.slice none 0 0, .slice none 0 0] (0, 0) _ rfl (by (with_reducible repeat (first | refine blk_drewN ?_ _ | refine blk_drew ?_ | refine blk_alloc ?_ _)); refine blk_put (cs := #[.slice none 0 0, .slice none 0 0]) ?_ 1 _ rfl; (with_reducible repeat (first | refine blk_drewN ?_ _ | refine blk_drew ?_ | refine blk_alloc ?_ _)); refine blk_put (cs := #[.slice none 0 0, .slice none 0 0]) ?_ 0 _ rfl; exact kb_ BK515.out) Try.underlying29 rfl (by kernel_rfl)) rfl ?_
   exact ⟨_, _, ng_, by first | exact Kd.R_nil _ _ _ _ _ | exact Kd.N_nil _ _ _ _ _ | exact Kd.V_nil _ _ _ _ _ | exact Kd.Q_nil _ _ _ _ _ | exact Kd.S_nil _ _ _ _ _, by first | exact Kd.R_nil _ _ _ _ _ | exact Kd.N_nil _ _ _ _ _ | exact Kd.V_nil _ _ _ _ _ | exact Kd.Q_nil _ _ _ _ _ | exact Kd.S_nil _ _ _ _ _, bl_⟩
  subst c174
  have H1 : (some (x529000_3, x529001_2, true)) = some (r1, r2, r3) := by rw [if_pos rfl] at H; exact H
  clear H
  have H := H1
  clear H1
  simp only [Option.some.injEq, Prod.mk.injEq] at H
  obtain ⟨rfl, rfl, rfl⟩ := H
  have hnb175 := NB528_513.out
  have hnc175 := NB513_528.out
  have hnb176 := NB528_514.out
  have hnc176 := NB514_528.out
  have hnb177 := NB528_515.out
  have hnc177 := NB515_528.out
  have hcz178_0 : wr.cell? ⟨gb528, 0, none⟩ = some (u529000) := bc_ BK528.out 0
  have hcz178_1 : wr.cell? ⟨gb528, 1, none⟩ = some (u529001) := bc_ BK528.out 1
  have hfz178_0 := blk_frozen BK528.out 0
  have hfz178_1 := blk_frozen BK528.out 1
  obtain ⟨Ao179, co179, eo179⟩ := Kd.R_slice HO_529000.out
  subst eo179
  obtain ⟨Ao180, co180, eo180⟩ := Kd.R_slice HO_529001.out
  subst eo180
  go_wp2_with (first | ((with_reducible refine gate_callee (f := 9) rfl ?_); refine goesL_ (some 97) rfl rfl Try.func9 (by kernel_rfl) rfl #[.agg #[.slice Ao179 x529000_3.length co179, .slice Ao180 x529001_2.length co180]] rfl nc_ ?_; (with_reducible refine (spec_GoodBag.calls k3 _ _ x529000_3 _ _ x529001_2 true _ ?side1 ?side2 ?side3 ?side4 A173.out).mono ?_); (case side1 => exact kc_ (Kd.R_reads' HO_529000.out).2.2); (case side2 => exact (Kd.R_reads' HO_529000.out).2.1); (case side3 => exact kc_ (Kd.R_reads' HO_529001.out).2.2); (case side4 => exact (Kd.R_reads' HO_529001.out).2.1); rintro e w181 ⟨rfl, hb⟩; refine ⟨_, rfl, ?_⟩; replace HO_72 := Aside0.mk (Kd.N_below (by (with_reducible repeat (first | apply Kd.N_alloc | apply Kd.N_drewN | apply Kd.N_drew)); exact HO_72.out) hb); replace HO_514000 := Aside0.mk (Kd.V_below (by (with_reducible repeat (first | apply Kd.V_alloc | apply Kd.V_drewN | apply Kd.V_drew)); exact HO_514000.out) hb); replace HO_515000 := Aside0.mk (Kd.V_below (by (with_reducible repeat (first | apply Kd.V_alloc | apply Kd.V_drewN | apply Kd.V_drew)); exact HO_515000.out) hb); replace HO_529000 := rb_ HO_529000 hb; replace HO_529001 := rb_ HO_529001 hb; replace BK513 := bb_ BK513 hb; replace BK514 := bb_ BK514 hb; replace BK515 := bb_ BK515 hb; replace BK528 := bb_ BK528 hb; replace HB := Aside0.mk (below_step bl_ hb); clear hb; have hcz182_0 : w181.cell? ⟨gb528, 0, none⟩ = some (.slice Ao179 x529000_3.length co179) := bc_ BK528.out 0; have hcz182_1 : w181.cell? ⟨gb528, 1, none⟩ = some (.slice Ao180 x529001_2.length co180) := bc_ BK528.out 1; have hfz182_0 := blk_frozen BK528.out 0; have hfz182_1 := blk_frozen BK528.out 1; have hnb183 := NB515_513.out; have hnc183 := NB513_515.out; have hnb184 := NB515_514.out; have hnc184 := NB514_515.out; have hcz185_0 : w181.cell? ⟨gb515, 0, none⟩ = some (.slice none 0 0) := bc_ BK515.out 0; have hcz185_1 : w181.cell? ⟨gb515, 1, none⟩ = some (.slice none 0 0) := bc_ BK515.out 1; have hfz185_0 := blk_frozen BK515.out 0; have hfz185_1 := blk_frozen BK515.out 1))
  refine bodyPost_ret (results_ct rfl _ _ gb515 29 #[.slice Ao179 x529000_3.length co179, .slice Ao180 x529001_2.length co180] (0, 0) _ rfl (by (with_reducible repeat (first | refine blk_drewN ?_ _ | refine blk_drew ?_ | refine blk_alloc ?_ _)); refine blk_put (cs := #[.slice Ao179 x529000_3.length co179, .slice none 0 0]) ?_ 1 _ rfl; (with_reducible repeat (first | refine blk_drewN ?_ _ | refine blk_drew ?_ | refine blk_alloc ?_ _)); refine blk_put (cs := #[.slice none 0 0, .slice none 0 0]) ?_ 0 _ rfl; exact kb_ BK515.out) Try.underlying29 rfl (by kernel_rfl)) rfl ?_
  exact ⟨_, _, ng_, by exact kr_ (Kd.R_mono (Kd.R_far (p := ⟨gb515, 1, none⟩) (Kd.R_far (p := ⟨gb515, 0, none⟩) (Kd.R_types HO_529000.out BK515.out (by decide)) (fun _ hk => hk.2) (.slice Ao179 x529000_3.length co179)) (fun _ hk => hk.2) (.slice Ao180 x529001_2.length co180)) (fun _ hk => ⟨hk.1.1, hk.1.2⟩)), by exact kr_ (Kd.R_mono (Kd.R_far (p := ⟨gb515, 1, none⟩) (Kd.R_far (p := ⟨gb515, 0, none⟩) (Kd.R_types HO_529001.out BK515.out (by decide)) (fun _ hk => hk.2) (.slice Ao179 x529000_3.length co179)) (fun _ hk => hk.2) (.slice Ao180 x529001_2.length co180)) (fun _ hk => ⟨hk.1.1, hk.1.2⟩)), bl_⟩
 rw [if_pos c134] at H
 have c134b0 : decide (x74_3 < (y534.length : Int)) = true := decide_eq_true c134
 clear c134
 by_cases c135 : 0 ≤ x74_3
 rotate_left
 ·rw [if_neg c135] at H
  exact absurd H (by simp)
 rw [if_pos c135] at H
 have c135b0 : decide (0 ≤ x74_3) = true := decide_eq_true c135
 clear c135
 by_cases c136 : x74_3 < (y534.length : Int)
 rotate_left
 ·rw [if_neg c136] at H
  exact absurd H (by simp)
 rw [if_pos c136] at H
 have c136b0 : decide (x74_3 < (y534.length : Int)) = true := decide_eq_true c136
 clear c136
 have H' := Aside0.mk H
 clear H
 have p538 : 0 ≤ (x74_3 : Int) := of_decide_eq_true (by first | (with_reducible assumption) | assumption)
 have q538 : x74_3 < (y534.length : Int) := of_decide_eq_true (by first | (with_reducible assumption) | assumption)
 obtain ⟨ad538, A538_0, c538_0, e538, hx538_0, hl538_0, hi538_0⟩ := at_L6 (Kd.N_reads' HO_72.out).2.2 x74_3 p538 q538
 cases e538
 obtain ⟨ce538, hce538, hMe538, hcc538⟩ := Kd.N_get HO_72.out [] x74_3 p538 (by first | exact q538 | exact of_decide_eq_true (by first | (with_reducible assumption) | assumption) | (have e_ := (Kd.N_reads' HO_72.out).1; omega))
 obtain ⟨ua538_0, uc538_0, rfl, ul538_0, ge538_0⟩ := Kd.FK_slice_open hMe538
 have hv538_0 := hcc538 0 _ rfl
 rw [Nat.add_zero, show ((Kd.slice 48 k48)).sz = 1 from rfl, Nat.mul_one] at hv538_0
 replace hv538_0 := Option.some.inj (hv538_0.symm.trans hx538_0)
 injection hv538_0 with hva_ hvn_ hvc_
 rw [hva_] at ge538_0
 rw [hvc_] at ul538_0
 have HL538_0 := Aside0.mk (show Kd.V k48 48 _ w.heap.size _ _ (rd_L6 y534 x74_3) from Kd.V_mk ul538_0 ge538_0)
 clear hva_ hvn_ hvc_ ge538_0 ul538_0 hcc538 hce538
 have HR538_0 := Aside0.mk hi538_0
 have HC538_0 := Aside0.mk hl538_0
 clear hi538_0 hl538_0
 replace p538 := eq_true p538
 replace q538 := eq_true q538
 go_wp2
 go_loopg [80] k3 (fun kq v80 w' => ∃ (x80_4 : Int) (x529000_4 : List (S48)) (u529000 : Value), v80 = .int .i64 x80_4 ∧ Aside0 (spec_MergeBag.l2 kq y534 (y534.length : Int) x74_3 (rd_L6 y534 x74_3) ((rd_L6 y534 x74_3).length : Int) x80_4 x529000_4 x529001_2 = some (r1, r2, r3)) ∧ Aside0 (kq ≤ k3) ∧ Aside0 (Kd.N (Kd.slice 48 k48) 27 w' w.heap.size (fun k_ => ((P0_0_ k_ ∨ P1_0_ k_) ∨ w.heap.size ≤ k_) ∧ some k_ ≠ (u529000 : Value).ownBlock ∧ some k_ ≠ (u529001 : Value).ownBlock ∧ k_ ≠ gb513 ∧ k_ ≠ gb514 ∧ k_ ≠ gb515 ∧ k_ ≠ gb528) (.slice (some ad538) y534.length co133) y534) ∧ Aside0 (Kd.V k48 48 w' w.heap.size (fun k_ => ((P0_0_ k_ ∨ P1_0_ k_) ∨ w.heap.size ≤ k_) ∧ some k_ ≠ ((.slice (some ad538) y534.length co133) : Value).ownBlock ∧ some k_ ≠ (u529000 : Value).ownBlock ∧ some k_ ≠ (u529001 : Value).ownBlock ∧ k_ ≠ gb513 ∧ k_ ≠ gb514 ∧ k_ ≠ gb515 ∧ k_ ≠ gb528) (.slice A0_0 l0_0.length c0_0) l0_0) ∧ Aside0 (Kd.V k48 48 w' w.heap.size (fun k_ => ((P0_0_ k_ ∨ P1_0_ k_) ∨ w.heap.size ≤ k_) ∧ some k_ ≠ ((.slice (some ad538) y534.length co133) : Value).ownBlock ∧ some k_ ≠ (u529000 : Value).ownBlock ∧ some k_ ≠ (u529001 : Value).ownBlock ∧ k_ ≠ gb513 ∧ k_ ≠ gb514 ∧ k_ ≠ gb515 ∧ k_ ≠ gb528) (.slice A1_0 l1_0.length c1_0) l1_0) ∧ Aside0 (Kd.R k48 48 w' w.heap.size (fun k_ => (w.heap.size ≤ k_) ∧ some k_ ≠ (u529001 : Value).ownBlock) u529000 x529000_4) ∧ Aside0 (Kd.R k48 48 w' w.heap.size (fun k_ => (w.heap.size ≤ k_) ∧ some k_ ≠ (u529000 : Value).ownBlock) u529001 x529001_2) ∧ Aside0 (w'.heap[gb513]? = some (.cells #[(.slice A0_0 l0_0.length c0_0), (.slice A0_1 l0_1.length c0_1)] 29 (0, 0))) ∧ Aside0 (w'.heap[gb514]? = some (.cells #[(.slice A1_0 l1_0.length c1_0), (.slice A1_1 l1_1.length c1_1)] 29 (0, 0))) ∧ Aside0 (w'.heap[gb515]? = some (.cells #[(.slice none 0 0), (.slice none 0 0)] 29 (0, 0))) ∧ Aside0 (w'.heap[gb528]? = some (.cells #[u529000, u529001] 29 (0, 0))) ∧ Aside0 (Kd.C k48 w' A538_0 (rd_L6 y534 x74_3).length (rd_L6 y534 x74_3)) ∧ Aside0 (Below w.heap.size w w'))
 case atStart => exact ⟨(0), (x529000_3), (u529000), (by first | rfl | (simp; done) | (simp [*]; done)), H', ⟨Nat.le_refl _⟩, ⟨by (with_reducible repeat (first | apply Kd.N_alloc | apply Kd.N_drewN | apply Kd.N_drew)); exact HO_72.out⟩, ⟨by (with_reducible repeat (first | apply Kd.V_alloc | apply Kd.V_drewN | apply Kd.V_drew)); exact HO_514000.out⟩, ⟨by (with_reducible repeat (first | apply Kd.V_alloc | apply Kd.V_drewN | apply Kd.V_drew)); exact HO_515000.out⟩, ⟨by exact kr_ HO_529000.out⟩, ⟨by exact kr_ HO_529001.out⟩, ⟨by exact kb_ BK513.out⟩, ⟨by exact kb_ BK514.out⟩, ⟨by exact kb_ BK515.out⟩, ⟨by exact kb_ BK528.out⟩, ⟨by repeat (first | (with_reducible exact HR538_0.out) | (with_reducible refine Kd.C_alloc ?_ _) | (with_reducible refine Kd.C_drewN ?_ _) | (with_reducible refine Kd.C_drew ?_) | exact HR538_0.out)⟩, ⟨bl_⟩⟩
 clear H'
 try clear c1
 try clear c2
 try clear p2
 try clear c3
 try clear c4
 try clear c5
 try clear p5
 try clear q5
 try clear hx5
 try clear c6
 try clear p6
 try clear c7
 try clear c8
 try clear c9
 try clear c10
 try clear c11
 try clear c12
 try clear c13
 try clear c14
 try clear c17
 try clear c24
 try clear c25
 try clear c26
 try clear c29
 try clear c32
 try clear c39
 try clear c40
 try clear c41
 try clear c44
 try clear p52
 try clear q52
 try clear hx52
 try clear c53
 try clear p53
 try clear q53
 try clear hx53
 try clear c57
 try clear c58
 try clear c61
 try clear p64
 try clear c76
 try clear c77
 try clear c80
 try clear c83
 try clear c84
 try clear c87
 try clear c88
 try clear c89
 try clear c91
 try clear c94
 try clear c95
 try clear c100
 try clear c101
 try clear c102
 try clear c104
 try clear c106
 try clear c106b0
 try clear c107
 try clear c107b0
 try clear c108
 try clear c108b0
 try clear c111
 try clear c112
 try clear c113
 try clear c114
 try clear c116
 try clear c117
 try clear c118
 try clear c124
 try clear c125
 try clear c126
 try clear c128
 try clear c129
 try clear c134
 try clear c134b0
 try clear c135
 try clear c135b0
 try clear c136
 try clear c136b0
 try clear hcz103_0
 try clear hcz103_1
 try clear hcz105_0
 try clear hcz105_1
 try clear hcz115_0
 try clear hcz115_1
 try clear hcz115_2
 try clear hcz119_0
 try clear hcz119_1
 try clear hcz123_0
 try clear hcz123_1
 try clear hcz127_0
 try clear hcz127_1
 try clear hcz130_0
 try clear hcz130_1
 try clear hcz15_0
 try clear hcz15_1
 try clear hcz18_0
 try clear hcz18_1
 try clear hcz20_0
 try clear hcz20_1
 try clear hcz21_0
 try clear hcz21_1
 try clear hcz27_0
 try clear hcz27_1
 try clear hcz30_0
 try clear hcz30_1
 try clear hcz32_0
 try clear hcz32_1
 try clear hcz33_0
 try clear hcz33_1
 try clear hcz35_0
 try clear hcz35_1
 try clear hcz36_0
 try clear hcz36_1
 try clear hcz42_0
 try clear hcz42_1
 try clear hcz45_0
 try clear hcz45_1
 try clear hcz47_0
 try clear hcz47_1
 try clear hcz48_0
 try clear hcz48_1
 try clear hcz50_0
 try clear hcz50_1
 try clear hcz51_0
 try clear hcz51_1
 try clear hcz53_0
 try clear hcz53_1
 try clear hcz54_0
 try clear hcz54_1
 try clear hcz59_0
 try clear hcz59_1
 try clear hcz62_0
 try clear hcz62_1
 try clear hcz64_0
 try clear hcz64_1
 try clear hcz65_0
 try clear hcz65_1
 try clear hcz67_0
 try clear hcz67_1
 try clear hcz68_0
 try clear hcz68_1
 try clear hcz70_0
 try clear hcz70_1
 try clear hcz71_0
 try clear hcz71_1
 try clear hcz73_0
 try clear hcz73_1
 try clear hcz74_0
 try clear hcz74_1
 try clear hcz78_0
 try clear hcz78_1
 try clear hcz81_0
 try clear hcz81_1
 try clear hcz85_0
 try clear hcz85_1
 try clear hcz90_0
 try clear hcz90_1
 try clear hcz96_0
 try clear hcz96_1
 try clear hfz103_0
 try clear hfz103_1
 try clear hfz105_0
 try clear hfz105_1
 try clear hfz115_0
 try clear hfz115_1
 try clear hfz115_2
 try clear hfz119_0
 try clear hfz119_1
 try clear hfz123_0
 try clear hfz123_1
 try clear hfz127_0
 try clear hfz127_1
 try clear hfz130_0
 try clear hfz130_1
 try clear hfz15_0
 try clear hfz15_1
 try clear hfz18_0
 try clear hfz18_1
 try clear hfz20_0
 try clear hfz20_1
 try clear hfz21_0
 try clear hfz21_1
 try clear hfz27_0
 try clear hfz27_1
 try clear hfz30_0
 try clear hfz30_1
 try clear hfz32_0
 try clear hfz32_1
 try clear hfz33_0
 try clear hfz33_1
 try clear hfz35_0
 try clear hfz35_1
 try clear hfz36_0
 try clear hfz36_1
 try clear hfz42_0
 try clear hfz42_1
 try clear hfz45_0
 try clear hfz45_1
 try clear hfz47_0
 try clear hfz47_1
 try clear hfz48_0
 try clear hfz48_1
 try clear hfz50_0
 try clear hfz50_1
 try clear hfz51_0
 try clear hfz51_1
 try clear hfz53_0
 try clear hfz53_1
 try clear hfz54_0
 try clear hfz54_1
 try clear hfz59_0
 try clear hfz59_1
 try clear hfz62_0
 try clear hfz62_1
 try clear hfz64_0
 try clear hfz64_1
 try clear hfz65_0
 try clear hfz65_1
 try clear hfz67_0
 try clear hfz67_1
 try clear hfz68_0
 try clear hfz68_1
 try clear hfz70_0
 try clear hfz70_1
 try clear hfz71_0
 try clear hfz71_1
 try clear hfz73_0
 try clear hfz73_1
 try clear hfz74_0
 try clear hfz74_1
 try clear hfz78_0
 try clear hfz78_1
 try clear hfz81_0
 try clear hfz81_1
 try clear hfz85_0
 try clear hfz85_1
 try clear hfz90_0
 try clear hfz90_1
 try clear hfz96_0
 try clear hfz96_1
 try clear hx529_0
 try clear hx529_1
 try clear hx529_2
 try clear hx538_0
 try clear p2
 try clear p5
 try clear p52
 try clear p529
 try clear p538
 try clear p6
 try clear p64
 try clear q5
 try clear q52
 try clear q529
 try clear q538
 obtain ⟨x80_4, x529000_4, u529000, rfl, HA, HK4, HO_72, HO_514000, HO_515000, HO_529000, HO_529001, BK513, BK514, BK515, BK528, HR538_0, HB⟩ := hrel
 have HRC_ := HR538_0
 have HBR_ := Aside0.mk (below_self_of HRC_.out)
 cases gk with
 | zero => exact absurd HA.out (by simp [spec_MergeBag.l2])
 | succ k4 => ?_
 have H := HA.out
 clear HA
 simp only [spec_MergeBag.l2] at H
 by_cases c137 : x80_4 < ((rd_L6 y534 x74_3).length : Int)
 rotate_left
 ·rw [if_neg c137] at H
  have c137b0 : decide (x80_4 < ((rd_L6 y534 x74_3).length : Int)) = false := decide_eq_false c137
  clear c137
  have H' := Aside0.mk H
  clear H
  go_wp2
  go_roundg k4
  case measure => have := HJ2.out; have := HK2.out; have := HK3.out; have := HK4.out; omega
  case rel => exact ⟨(wrap64 (x74_3 + 1)), (x529000_4), (u529000), (by first | rfl | (simp; done) | (simp [*]; done)), H', ⟨by have := HJ2.out; have := HK2.out; have := HK3.out; have := HK4.out; omega⟩, ⟨by (with_reducible repeat (first | apply Kd.N_alloc | apply Kd.N_drewN | apply Kd.N_drew)); exact HO_72.out⟩, ⟨by (with_reducible repeat (first | apply Kd.V_alloc | apply Kd.V_drewN | apply Kd.V_drew)); exact HO_514000.out⟩, ⟨by (with_reducible repeat (first | apply Kd.V_alloc | apply Kd.V_drewN | apply Kd.V_drew)); exact HO_515000.out⟩, ⟨by exact kr_ HO_529000.out⟩, ⟨by exact kr_ HO_529001.out⟩, ⟨by exact kb_ BK513.out⟩, ⟨by exact kb_ BK514.out⟩, ⟨by exact kb_ BK515.out⟩, ⟨by exact kb_ BK528.out⟩, ⟨bl_⟩⟩
 rw [if_pos c137] at H
 have c137b0 : decide (x80_4 < ((rd_L6 y534 x74_3).length : Int)) = true := decide_eq_true c137
 clear c137
 by_cases c138 : 0 ≤ x80_4
 rotate_left
 ·rw [if_neg c138] at H
  exact absurd H (by simp)
 rw [if_pos c138] at H
 have c138b0 : decide (0 ≤ x80_4) = true := decide_eq_true c138
 clear c138
 by_cases c139 : x80_4 < ((rd_L6 y534 x74_3).length : Int)
 rotate_left
 ·rw [if_neg c139] at H
  exact absurd H (by simp)
 rw [if_pos c139] at H
 have c139b0 : decide (x80_4 < ((rd_L6 y534 x74_3).length : Int)) = true := decide_eq_true c139
 clear c139
 replace H := Option.bind_eq_some_iff.mp H
 obtain ⟨t541, A1400, H⟩ := H
 replace H : (if t541 = true then (spec_MergeBag.l2 k4 y534 (y534.length : Int) x74_3 (rd_L6 y534 x74_3) ((rd_L6 y534 x74_3).length : Int) (wrap64 (x80_4 + 1)) x529000_4 x529001_2) else ((spec_l14Put.f k4 x529000_4 ((rd_T48 (rd_L6 y534 x74_3) x80_4).f0) ((rd_T48 (rd_L6 y534 x74_3) x80_4).f1) ((rd_T48 (rd_L6 y534 x74_3) x80_4).f2)).bind fun t542 => (spec_MergeBag.l2 k4 y534 (y534.length : Int) x74_3 (rd_L6 y534 x74_3) ((rd_L6 y534 x74_3).length : Int) (wrap64 (x80_4 + 1)) t542 x529001_2))) = some (r1, r2, r3) := H
 have A140 := Aside0.mk A1400
 clear A1400
 by_cases c141 : t541 = true
 ·subst c141
  have H1 : (spec_MergeBag.l2 k4 y534 (y534.length : Int) x74_3 (rd_L6 y534 x74_3) ((rd_L6 y534 x74_3).length : Int) (wrap64 (x80_4 + 1)) x529000_4 x529001_2) = some (r1, r2, r3) := by rw [if_pos rfl] at H; exact H
  clear H
  have H := H1
  clear H1
  have H' := Aside0.mk H
  clear H
  have p539 : 0 ≤ (x80_4 : Int) := of_decide_eq_true (by first | (with_reducible assumption) | assumption)
  have q539 : x80_4 < ((rd_L6 y534 x74_3).length : Int) := of_decide_eq_true (by first | (with_reducible assumption) | assumption)
  obtain ⟨ad539, e539, hx539_0, hx539_1, hx539_2⟩ := at_T48 HR538_0.out x80_4 p539 q539
  cases e539
  replace p539 := eq_true p539
  replace q539 := eq_true q539
  go_wp2_with (first | ((with_reducible refine gate_dst (N := 12) rfl ?_); refine box_event rfl (N := 12) rfl (cs := #[.string (⟨#[]⟩ : ByteArray), .int .i64 0, .int .i64 0]) (t := 48) gs_ ?_; intro gb540 hg w142 hbox hb; have GR_ := Aside0.mk (gr_of hg (by repeat (first | exact HBR_.out | apply below_alloc | apply pw_below_drewN | apply below_drew1))); replace HBR_ := Aside0.mk (below_step (by repeat (first | exact HBR_.out | apply below_alloc | apply pw_below_drewN | apply below_drew1)) hb); replace HO_72 := Aside0.mk (Kd.N_below (Kd.N_elderB (by (with_reducible repeat (first | apply Kd.N_alloc | apply Kd.N_drewN | apply Kd.N_drew)); exact HO_72.out) gb540 (Nat.le_of_eq hg.symm)) hb); replace HO_514000 := Aside0.mk (Kd.V_below (Kd.V_elderB (by (with_reducible repeat (first | apply Kd.V_alloc | apply Kd.V_drewN | apply Kd.V_drew)); exact HO_514000.out) gb540 (Nat.le_of_eq hg.symm)) hb); replace HO_515000 := Aside0.mk (Kd.V_below (Kd.V_elderB (by (with_reducible repeat (first | apply Kd.V_alloc | apply Kd.V_drewN | apply Kd.V_drew)); exact HO_515000.out) gb540 (Nat.le_of_eq hg.symm)) hb); replace HO_529000 := Aside0.mk (Kd.R_below (Kd.R_elderB (kr_ HO_529000.out) gb540 (Nat.le_of_eq hg.symm)) hb); replace HO_529001 := Aside0.mk (Kd.R_below (Kd.R_elderB (kr_ HO_529001.out) gb540 (Nat.le_of_eq hg.symm)) hb); replace HR538_0 := Aside0.mk (Kd.C_below (by repeat (first | (with_reducible exact HR538_0.out) | (with_reducible refine Kd.C_alloc ?_ _) | (with_reducible refine Kd.C_drewN ?_ _) | (with_reducible refine Kd.C_drew ?_) | exact HR538_0.out)) hb); have BK540 := Aside0.mk (hbox); have GW540 := Aside0.mk ((by rw [hg]; exact bz_ : w.heap.size ≤ gb540)); have GE540 := GW540; replace HB := Aside0.mk (below_step bl_ hb); have NB513_540 := nl_ hg BK513; have NB540_513 := nm_ hg BK513; replace BK513 := bb_ BK513 hb; have NB514_540 := nl_ hg BK514; have NB540_514 := nm_ hg BK514; replace BK514 := bb_ BK514 hb; have NB515_540 := nl_ hg BK515; have NB540_515 := nm_ hg BK515; replace BK515 := bb_ BK515 hb; have NB528_540 := nl_ hg BK528; have NB540_528 := nm_ hg BK528; replace BK528 := bb_ BK528 hb; clear hb hbox hg; have hnb143 := NB540_513.out; have hnc143 := NB513_540.out; have hnb144 := NB540_514.out; have hnc144 := NB514_540.out; have hnb145 := NB540_515.out; have hnc145 := NB515_540.out; have hnb146 := NB540_528.out; have hnc146 := NB528_540.out; have hcz147_0 : w142.cell? ⟨gb540, 0, none⟩ = some (.string (⟨#[]⟩ : ByteArray)) := bc_ BK540.out 0; have hcz147_1 : w142.cell? ⟨gb540, 1, none⟩ = some (.int .i64 0) := bc_ BK540.out 1; have hcz147_2 : w142.cell? ⟨gb540, 2, none⟩ = some (.int .i64 0) := bc_ BK540.out 2; have hfz147_0 := blk_frozen BK540.out 0; have hfz147_1 := blk_frozen BK540.out 1; have hfz147_2 := blk_frozen BK540.out 2; have hnb148 := NB528_513.out; have hnc148 := NB513_528.out; have hnb149 := NB528_514.out; have hnc149 := NB514_528.out; have hnb150 := NB528_515.out; have hnc150 := NB515_528.out; have hcz151_0 : w142.cell? ⟨gb528, 0, none⟩ = some (u529000) := bc_ BK528.out 0; have hcz151_1 : w142.cell? ⟨gb528, 1, none⟩ = some (u529001) := bc_ BK528.out 1; have hfz151_0 := blk_frozen BK528.out 0; have hfz151_1 := blk_frozen BK528.out 1; obtain ⟨Ao152, co152, eo152⟩ := Kd.R_slice HO_529001.out; subst eo152) | ((with_reducible refine gate_callee (f := 37) rfl ?_); refine goesL_ (some 87) rfl rfl Try.func37 (by kernel_rfl) rfl #[.slice Ao152 x529001_2.length co152, .agg #[.string ((rd_T48 (rd_L6 y534 x74_3) x80_4).f0), .int .i64 ((rd_T48 (rd_L6 y534 x74_3) x80_4).f1), .int .i64 ((rd_T48 (rd_L6 y534 x74_3) x80_4).f2)]] rfl nc_ ?_; (with_reducible refine (spec_l14Has.calls k4 _ _ x529001_2 ((rd_T48 (rd_L6 y534 x74_3) x80_4).f0) ((rd_T48 (rd_L6 y534 x74_3) x80_4).f1) ((rd_T48 (rd_L6 y534 x74_3) x80_4).f2) true _ ?side1 ?side2 A140.out).mono ?_); (case side1 => refine (Kd.R_reads' (e := 48) (base := w.heap.size) (ok := fun k_ => (((w.heap.size ≤ k_) ∧ some k_ ≠ (u529000 : Value).ownBlock) ∧ k_ ≠ gb540)) (n := x529001_2.length) (c := co152) ?_).2.2; exact (by exact kr_ ((Kd.R_mono (Kd.R_far (p := ⟨gb540, 2, none⟩) (Kd.R_far (p := ⟨gb540, 1, none⟩) (Kd.R_far (p := ⟨gb540, 0, none⟩) (Kd.R_mono HO_529001.out (fun k_ hk => (⟨hk, hk.2⟩ : _ ∧ k_ ≠ gb540))) (fun _ hk => hk.2) (.string ((rd_T48 (rd_L6 y534 x74_3) x80_4).f0))) (fun _ hk => hk.2) (.int .i64 ((rd_T48 (rd_L6 y534 x74_3) x80_4).f1))) (fun _ hk => hk.2) (.int .i64 ((rd_T48 (rd_L6 y534 x74_3) x80_4).f2))) (fun _ h_ => h_.1))))); (case side2 => exact (Kd.R_reads' HO_529001.out).2.1); rintro e w153 ⟨rfl, hb⟩; refine ⟨_, rfl, ?_⟩; replace HO_72 := Aside0.mk (Kd.N_below (by (with_reducible repeat (first | apply Kd.N_alloc | apply Kd.N_drewN | apply Kd.N_drew)); exact (Kd.N_mono (Kd.N_far (p := ⟨gb540, 2, none⟩) (Kd.N_far (p := ⟨gb540, 1, none⟩) (Kd.N_far (p := ⟨gb540, 0, none⟩) (Kd.N_mono HO_72.out (fun k_ hk => (⟨hk, hk.2⟩ : _ ∧ k_ ≠ gb540))) (fun _ hk => hk.2) (.string ((rd_T48 (rd_L6 y534 x74_3) x80_4).f0))) (fun _ hk => hk.2) (.int .i64 ((rd_T48 (rd_L6 y534 x74_3) x80_4).f1))) (fun _ hk => hk.2) (.int .i64 ((rd_T48 (rd_L6 y534 x74_3) x80_4).f2))) (fun _ h_ => h_.1))) hb); replace HO_514000 := Aside0.mk (Kd.V_below (by (with_reducible repeat (first | apply Kd.V_alloc | apply Kd.V_drewN | apply Kd.V_drew)); exact (Kd.V_mono (Kd.V_far (p := ⟨gb540, 2, none⟩) (Kd.V_far (p := ⟨gb540, 1, none⟩) (Kd.V_far (p := ⟨gb540, 0, none⟩) (Kd.V_mono HO_514000.out (fun k_ hk => (⟨hk, hk.2⟩ : _ ∧ k_ ≠ gb540))) (fun _ hk => hk.2) (.string ((rd_T48 (rd_L6 y534 x74_3) x80_4).f0))) (fun _ hk => hk.2) (.int .i64 ((rd_T48 (rd_L6 y534 x74_3) x80_4).f1))) (fun _ hk => hk.2) (.int .i64 ((rd_T48 (rd_L6 y534 x74_3) x80_4).f2))) (fun _ h_ => h_.1))) hb); replace HO_515000 := Aside0.mk (Kd.V_below (by (with_reducible repeat (first | apply Kd.V_alloc | apply Kd.V_drewN | apply Kd.V_drew)); exact (Kd.V_mono (Kd.V_far (p := ⟨gb540, 2, none⟩) (Kd.V_far (p := ⟨gb540, 1, none⟩) (Kd.V_far (p := ⟨gb540, 0, none⟩) (Kd.V_mono HO_515000.out (fun k_ hk => (⟨hk, hk.2⟩ : _ ∧ k_ ≠ gb540))) (fun _ hk => hk.2) (.string ((rd_T48 (rd_L6 y534 x74_3) x80_4).f0))) (fun _ hk => hk.2) (.int .i64 ((rd_T48 (rd_L6 y534 x74_3) x80_4).f1))) (fun _ hk => hk.2) (.int .i64 ((rd_T48 (rd_L6 y534 x74_3) x80_4).f2))) (fun _ h_ => h_.1))) hb); replace HO_529000 := Aside0.mk (Kd.R_below (by exact kr_ ((Kd.R_mono (Kd.R_far (p := ⟨gb540, 2, none⟩) (Kd.R_far (p := ⟨gb540, 1, none⟩) (Kd.R_far (p := ⟨gb540, 0, none⟩) (Kd.R_mono HO_529000.out (fun k_ hk => (⟨hk, hk.2⟩ : _ ∧ k_ ≠ gb540))) (fun _ hk => hk.2) (.string ((rd_T48 (rd_L6 y534 x74_3) x80_4).f0))) (fun _ hk => hk.2) (.int .i64 ((rd_T48 (rd_L6 y534 x74_3) x80_4).f1))) (fun _ hk => hk.2) (.int .i64 ((rd_T48 (rd_L6 y534 x74_3) x80_4).f2))) (fun _ h_ => h_.1)))) hb); replace HO_529001 := Aside0.mk (Kd.R_below (by exact kr_ ((Kd.R_mono (Kd.R_far (p := ⟨gb540, 2, none⟩) (Kd.R_far (p := ⟨gb540, 1, none⟩) (Kd.R_far (p := ⟨gb540, 0, none⟩) (Kd.R_mono HO_529001.out (fun k_ hk => (⟨hk, hk.2⟩ : _ ∧ k_ ≠ gb540))) (fun _ hk => hk.2) (.string ((rd_T48 (rd_L6 y534 x74_3) x80_4).f0))) (fun _ hk => hk.2) (.int .i64 ((rd_T48 (rd_L6 y534 x74_3) x80_4).f1))) (fun _ hk => hk.2) (.int .i64 ((rd_T48 (rd_L6 y534 x74_3) x80_4).f2))) (fun _ h_ => h_.1)))) hb); replace BK513 := Aside0.mk (blk_below (g := gb513) (o := .cells #[.slice A0_0 l0_0.length c0_0, .slice A0_1 l0_1.length c0_1] 29 (0, 0)) kz_ hb); replace BK514 := Aside0.mk (blk_below (g := gb514) (o := .cells #[.slice A1_0 l1_0.length c1_0, .slice A1_1 l1_1.length c1_1] 29 (0, 0)) kz_ hb); replace BK515 := Aside0.mk (blk_below (g := gb515) (o := .cells #[.slice none 0 0, .slice none 0 0] 29 (0, 0)) kz_ hb); replace BK528 := Aside0.mk (blk_below (g := gb528) (o := .cells #[u529000, .slice Ao152 x529001_2.length co152] 29 (0, 0)) kz_ hb); replace HR538_0 := Aside0.mk (Kd.C_below ((Kd.C_below HRC_.out (by repeat (first | (with_reducible first | exact HBR_.out | apply below_alloc | apply pw_below_drewN | apply below_drew1 | refine below_set ?_ GR_.out) | exact HBR_.out)))) hb); replace BK540 := Aside0.mk (blk_below (g := gb540) (o := .cells #[.string ((rd_T48 (rd_L6 y534 x74_3) x80_4).f0), .int .i64 ((rd_T48 (rd_L6 y534 x74_3) x80_4).f1), .int .i64 ((rd_T48 (rd_L6 y534 x74_3) x80_4).f2)] 48 (0, 0)) (by (with_reducible repeat (first | refine blk_drewN ?_ _ | refine blk_drew ?_ | refine blk_alloc ?_ _)); refine blk_put (cs := #[.string ((rd_T48 (rd_L6 y534 x74_3) x80_4).f0), .int .i64 ((rd_T48 (rd_L6 y534 x74_3) x80_4).f1), .int .i64 0]) ?_ 2 _ rfl; (with_reducible repeat (first | refine blk_drewN ?_ _ | refine blk_drew ?_ | refine blk_alloc ?_ _)); refine blk_put (cs := #[.string ((rd_T48 (rd_L6 y534 x74_3) x80_4).f0), .int .i64 0, .int .i64 0]) ?_ 1 _ rfl; (with_reducible repeat (first | refine blk_drewN ?_ _ | refine blk_drew ?_ | refine blk_alloc ?_ _)); refine blk_put (cs := #[.string (⟨#[]⟩ : ByteArray), .int .i64 0, .int .i64 0]) ?_ 0 _ rfl; exact kb_ BK540.out) hb); replace HB := Aside0.mk (below_step bl_ hb); clear hb))
  go_roundg k4
  case measure => have := HJ2.out; have := HK2.out; have := HK3.out; have := HK4.out; omega
  case rel => exact ⟨(wrap64 (x80_4 + 1)), (x529000_4), (u529000), (by first | rfl | (simp; done) | (simp [*]; done)), H', ⟨by have := HJ2.out; have := HK2.out; have := HK3.out; have := HK4.out; omega⟩, ⟨by (with_reducible repeat (first | apply Kd.N_alloc | apply Kd.N_drewN | apply Kd.N_drew)); exact Kd.N_mono HO_72.out (fun _ hk => ⟨hk.1.1, ⟨hk.1.2.1, ⟨hk.1.2.2.1, ⟨hk.1.2.2.2.1, ⟨hk.1.2.2.2.2.1, ⟨hk.1.2.2.2.2.2.1, hk.1.2.2.2.2.2.2⟩⟩⟩⟩⟩⟩)⟩, ⟨by (with_reducible repeat (first | apply Kd.V_alloc | apply Kd.V_drewN | apply Kd.V_drew)); exact Kd.V_mono HO_514000.out (fun _ hk => ⟨hk.1.1, ⟨hk.1.2.1, ⟨hk.1.2.2.1, ⟨hk.1.2.2.2.1, ⟨hk.1.2.2.2.2.1, ⟨hk.1.2.2.2.2.2.1, ⟨hk.1.2.2.2.2.2.2.1, hk.1.2.2.2.2.2.2.2⟩⟩⟩⟩⟩⟩⟩)⟩, ⟨by (with_reducible repeat (first | apply Kd.V_alloc | apply Kd.V_drewN | apply Kd.V_drew)); exact Kd.V_mono HO_515000.out (fun _ hk => ⟨hk.1.1, ⟨hk.1.2.1, ⟨hk.1.2.2.1, ⟨hk.1.2.2.2.1, ⟨hk.1.2.2.2.2.1, ⟨hk.1.2.2.2.2.2.1, ⟨hk.1.2.2.2.2.2.2.1, hk.1.2.2.2.2.2.2.2⟩⟩⟩⟩⟩⟩⟩)⟩, ⟨kp_ HO_529000.out⟩, ⟨kp_ HO_529001.out⟩, ⟨by exact kb_ BK513.out⟩, ⟨by exact kb_ BK514.out⟩, ⟨by exact kb_ BK515.out⟩, ⟨by exact kb_ BK528.out⟩, ⟨by repeat (first | (with_reducible exact HR538_0.out) | (with_reducible refine Kd.C_alloc ?_ _) | (with_reducible refine Kd.C_drewN ?_ _) | (with_reducible refine Kd.C_drew ?_) | exact HR538_0.out)⟩, ⟨bl_⟩⟩
 replace c141 := Bool.eq_false_iff.mpr c141
 subst c141
 have H1 : ((spec_l14Put.f k4 x529000_4 ((rd_T48 (rd_L6 y534 x74_3) x80_4).f0) ((rd_T48 (rd_L6 y534 x74_3) x80_4).f1) ((rd_T48 (rd_L6 y534 x74_3) x80_4).f2)).bind fun t542 => (spec_MergeBag.l2 k4 y534 (y534.length : Int) x74_3 (rd_L6 y534 x74_3) ((rd_L6 y534 x74_3).length : Int) (wrap64 (x80_4 + 1)) t542 x529001_2)) = some (r1, r2, r3) := by rw [if_neg (show ¬ (false = true) by decide)] at H; exact H
 clear H
 have H := H1
 clear H1
 replace H := Option.bind_eq_some_iff.mp H
 obtain ⟨t542, A1540, H⟩ := H
 replace H : (spec_MergeBag.l2 k4 y534 (y534.length : Int) x74_3 (rd_L6 y534 x74_3) ((rd_L6 y534 x74_3).length : Int) (wrap64 (x80_4 + 1)) t542 x529001_2) = some (r1, r2, r3) := H
 have A154 := Aside0.mk A1540
 clear A1540
 have H' := Aside0.mk H
 clear H
 have p539 : 0 ≤ (x80_4 : Int) := of_decide_eq_true (by first | (with_reducible assumption) | assumption)
 have q539 : x80_4 < ((rd_L6 y534 x74_3).length : Int) := of_decide_eq_true (by first | (with_reducible assumption) | assumption)
 obtain ⟨ad539, e539, hx539_0, hx539_1, hx539_2⟩ := at_T48 HR538_0.out x80_4 p539 q539
 cases e539
 replace p539 := eq_true p539
 replace q539 := eq_true q539
 go_wp2_with (first | ((with_reducible refine gate_dst (N := 12) rfl ?_); refine box_event rfl (N := 12) rfl (cs := #[.string (⟨#[]⟩ : ByteArray), .int .i64 0, .int .i64 0]) (t := 48) gs_ ?_; intro gb540 hg w155 hbox hb; have GR_ := Aside0.mk (gr_of hg (by repeat (first | exact HBR_.out | apply below_alloc | apply pw_below_drewN | apply below_drew1))); replace HBR_ := Aside0.mk (below_step (by repeat (first | exact HBR_.out | apply below_alloc | apply pw_below_drewN | apply below_drew1)) hb); replace HO_72 := Aside0.mk (Kd.N_below (Kd.N_elderB (by (with_reducible repeat (first | apply Kd.N_alloc | apply Kd.N_drewN | apply Kd.N_drew)); exact HO_72.out) gb540 (Nat.le_of_eq hg.symm)) hb); replace HO_514000 := Aside0.mk (Kd.V_below (Kd.V_elderB (by (with_reducible repeat (first | apply Kd.V_alloc | apply Kd.V_drewN | apply Kd.V_drew)); exact HO_514000.out) gb540 (Nat.le_of_eq hg.symm)) hb); replace HO_515000 := Aside0.mk (Kd.V_below (Kd.V_elderB (by (with_reducible repeat (first | apply Kd.V_alloc | apply Kd.V_drewN | apply Kd.V_drew)); exact HO_515000.out) gb540 (Nat.le_of_eq hg.symm)) hb); replace HO_529000 := Aside0.mk (Kd.R_below (Kd.R_elderB (kr_ HO_529000.out) gb540 (Nat.le_of_eq hg.symm)) hb); replace HO_529001 := Aside0.mk (Kd.R_below (Kd.R_elderB (kr_ HO_529001.out) gb540 (Nat.le_of_eq hg.symm)) hb); replace HR538_0 := Aside0.mk (Kd.C_below (by repeat (first | (with_reducible exact HR538_0.out) | (with_reducible refine Kd.C_alloc ?_ _) | (with_reducible refine Kd.C_drewN ?_ _) | (with_reducible refine Kd.C_drew ?_) | exact HR538_0.out)) hb); have BK540 := Aside0.mk (hbox); have GW540 := Aside0.mk ((by rw [hg]; exact bz_ : w.heap.size ≤ gb540)); have GE540 := GW540; replace HB := Aside0.mk (below_step bl_ hb); have NB513_540 := nl_ hg BK513; have NB540_513 := nm_ hg BK513; replace BK513 := bb_ BK513 hb; have NB514_540 := nl_ hg BK514; have NB540_514 := nm_ hg BK514; replace BK514 := bb_ BK514 hb; have NB515_540 := nl_ hg BK515; have NB540_515 := nm_ hg BK515; replace BK515 := bb_ BK515 hb; have NB528_540 := nl_ hg BK528; have NB540_528 := nm_ hg BK528; replace BK528 := bb_ BK528 hb; clear hb hbox hg; have hnb156 := NB540_513.out; have hnc156 := NB513_540.out; have hnb157 := NB540_514.out; have hnc157 := NB514_540.out; have hnb158 := NB540_515.out; have hnc158 := NB515_540.out; have hnb159 := NB540_528.out; have hnc159 := NB528_540.out; have hcz160_0 : w155.cell? ⟨gb540, 0, none⟩ = some (.string (⟨#[]⟩ : ByteArray)) := bc_ BK540.out 0; have hcz160_1 : w155.cell? ⟨gb540, 1, none⟩ = some (.int .i64 0) := bc_ BK540.out 1; have hcz160_2 : w155.cell? ⟨gb540, 2, none⟩ = some (.int .i64 0) := bc_ BK540.out 2; have hfz160_0 := blk_frozen BK540.out 0; have hfz160_1 := blk_frozen BK540.out 1; have hfz160_2 := blk_frozen BK540.out 2; have hnb161 := NB528_513.out; have hnc161 := NB513_528.out; have hnb162 := NB528_514.out; have hnc162 := NB514_528.out; have hnb163 := NB528_515.out; have hnc163 := NB515_528.out; have hcz164_0 : w155.cell? ⟨gb528, 0, none⟩ = some (u529000) := bc_ BK528.out 0; have hcz164_1 : w155.cell? ⟨gb528, 1, none⟩ = some (u529001) := bc_ BK528.out 1; have hfz164_0 := blk_frozen BK528.out 0; have hfz164_1 := blk_frozen BK528.out 1; obtain ⟨Ao165, co165, eo165⟩ := Kd.R_slice HO_529001.out; subst eo165) | ((with_reducible refine gate_callee (f := 37) rfl ?_); refine goesL_ (some 87) rfl rfl Try.func37 (by kernel_rfl) rfl #[.slice Ao165 x529001_2.length co165, .agg #[.string ((rd_T48 (rd_L6 y534 x74_3) x80_4).f0), .int .i64 ((rd_T48 (rd_L6 y534 x74_3) x80_4).f1), .int .i64 ((rd_T48 (rd_L6 y534 x74_3) x80_4).f2)]] rfl nc_ ?_; (with_reducible refine (spec_l14Has.calls k4 _ _ x529001_2 ((rd_T48 (rd_L6 y534 x74_3) x80_4).f0) ((rd_T48 (rd_L6 y534 x74_3) x80_4).f1) ((rd_T48 (rd_L6 y534 x74_3) x80_4).f2) false _ ?side1 ?side2 A140.out).mono ?_); (case side1 => refine (Kd.R_reads' (e := 48) (base := w.heap.size) (ok := fun k_ => (((w.heap.size ≤ k_) ∧ some k_ ≠ (u529000 : Value).ownBlock) ∧ k_ ≠ gb540)) (n := x529001_2.length) (c := co165) ?_).2.2; exact (by exact kr_ ((Kd.R_mono (Kd.R_far (p := ⟨gb540, 2, none⟩) (Kd.R_far (p := ⟨gb540, 1, none⟩) (Kd.R_far (p := ⟨gb540, 0, none⟩) (Kd.R_mono HO_529001.out (fun k_ hk => (⟨hk, hk.2⟩ : _ ∧ k_ ≠ gb540))) (fun _ hk => hk.2) (.string ((rd_T48 (rd_L6 y534 x74_3) x80_4).f0))) (fun _ hk => hk.2) (.int .i64 ((rd_T48 (rd_L6 y534 x74_3) x80_4).f1))) (fun _ hk => hk.2) (.int .i64 ((rd_T48 (rd_L6 y534 x74_3) x80_4).f2))) (fun _ h_ => h_.1))))); (case side2 => exact (Kd.R_reads' HO_529001.out).2.1); rintro e w166 ⟨rfl, hb⟩; refine ⟨_, rfl, ?_⟩; replace HO_72 := Aside0.mk (Kd.N_below (by (with_reducible repeat (first | apply Kd.N_alloc | apply Kd.N_drewN | apply Kd.N_drew)); exact (Kd.N_mono (Kd.N_far (p := ⟨gb540, 2, none⟩) (Kd.N_far (p := ⟨gb540, 1, none⟩) (Kd.N_far (p := ⟨gb540, 0, none⟩) (Kd.N_mono HO_72.out (fun k_ hk => (⟨hk, hk.2⟩ : _ ∧ k_ ≠ gb540))) (fun _ hk => hk.2) (.string ((rd_T48 (rd_L6 y534 x74_3) x80_4).f0))) (fun _ hk => hk.2) (.int .i64 ((rd_T48 (rd_L6 y534 x74_3) x80_4).f1))) (fun _ hk => hk.2) (.int .i64 ((rd_T48 (rd_L6 y534 x74_3) x80_4).f2))) (fun _ h_ => h_.1))) hb); replace HO_514000 := Aside0.mk (Kd.V_below (by (with_reducible repeat (first | apply Kd.V_alloc | apply Kd.V_drewN | apply Kd.V_drew)); exact (Kd.V_mono (Kd.V_far (p := ⟨gb540, 2, none⟩) (Kd.V_far (p := ⟨gb540, 1, none⟩) (Kd.V_far (p := ⟨gb540, 0, none⟩) (Kd.V_mono HO_514000.out (fun k_ hk => (⟨hk, hk.2⟩ : _ ∧ k_ ≠ gb540))) (fun _ hk => hk.2) (.string ((rd_T48 (rd_L6 y534 x74_3) x80_4).f0))) (fun _ hk => hk.2) (.int .i64 ((rd_T48 (rd_L6 y534 x74_3) x80_4).f1))) (fun _ hk => hk.2) (.int .i64 ((rd_T48 (rd_L6 y534 x74_3) x80_4).f2))) (fun _ h_ => h_.1))) hb); replace HO_515000 := Aside0.mk (Kd.V_below (by (with_reducible repeat (first | apply Kd.V_alloc | apply Kd.V_drewN | apply Kd.V_drew)); exact (Kd.V_mono (Kd.V_far (p := ⟨gb540, 2, none⟩) (Kd.V_far (p := ⟨gb540, 1, none⟩) (Kd.V_far (p := ⟨gb540, 0, none⟩) (Kd.V_mono HO_515000.out (fun k_ hk => (⟨hk, hk.2⟩ : _ ∧ k_ ≠ gb540))) (fun _ hk => hk.2) (.string ((rd_T48 (rd_L6 y534 x74_3) x80_4).f0))) (fun _ hk => hk.2) (.int .i64 ((rd_T48 (rd_L6 y534 x74_3) x80_4).f1))) (fun _ hk => hk.2) (.int .i64 ((rd_T48 (rd_L6 y534 x74_3) x80_4).f2))) (fun _ h_ => h_.1))) hb); replace HO_529000 := Aside0.mk (Kd.R_below (by exact kr_ ((Kd.R_mono (Kd.R_far (p := ⟨gb540, 2, none⟩) (Kd.R_far (p := ⟨gb540, 1, none⟩) (Kd.R_far (p := ⟨gb540, 0, none⟩) (Kd.R_mono HO_529000.out (fun k_ hk => (⟨hk, hk.2⟩ : _ ∧ k_ ≠ gb540))) (fun _ hk => hk.2) (.string ((rd_T48 (rd_L6 y534 x74_3) x80_4).f0))) (fun _ hk => hk.2) (.int .i64 ((rd_T48 (rd_L6 y534 x74_3) x80_4).f1))) (fun _ hk => hk.2) (.int .i64 ((rd_T48 (rd_L6 y534 x74_3) x80_4).f2))) (fun _ h_ => h_.1)))) hb); replace HO_529001 := Aside0.mk (Kd.R_below (by exact kr_ ((Kd.R_mono (Kd.R_far (p := ⟨gb540, 2, none⟩) (Kd.R_far (p := ⟨gb540, 1, none⟩) (Kd.R_far (p := ⟨gb540, 0, none⟩) (Kd.R_mono HO_529001.out (fun k_ hk => (⟨hk, hk.2⟩ : _ ∧ k_ ≠ gb540))) (fun _ hk => hk.2) (.string ((rd_T48 (rd_L6 y534 x74_3) x80_4).f0))) (fun _ hk => hk.2) (.int .i64 ((rd_T48 (rd_L6 y534 x74_3) x80_4).f1))) (fun _ hk => hk.2) (.int .i64 ((rd_T48 (rd_L6 y534 x74_3) x80_4).f2))) (fun _ h_ => h_.1)))) hb); replace BK513 := Aside0.mk (blk_below (g := gb513) (o := .cells #[.slice A0_0 l0_0.length c0_0, .slice A0_1 l0_1.length c0_1] 29 (0, 0)) kz_ hb); replace BK514 := Aside0.mk (blk_below (g := gb514) (o := .cells #[.slice A1_0 l1_0.length c1_0, .slice A1_1 l1_1.length c1_1] 29 (0, 0)) kz_ hb); replace BK515 := Aside0.mk (blk_below (g := gb515) (o := .cells #[.slice none 0 0, .slice none 0 0] 29 (0, 0)) kz_ hb); replace BK528 := Aside0.mk (blk_below (g := gb528) (o := .cells #[u529000, .slice Ao165 x529001_2.length co165] 29 (0, 0)) kz_ hb); replace HR538_0 := Aside0.mk (Kd.C_below ((Kd.C_below HRC_.out (by repeat (first | (with_reducible first | exact HBR_.out | apply below_alloc | apply pw_below_drewN | apply below_drew1 | refine below_set ?_ GR_.out) | exact HBR_.out)))) hb); replace BK540 := Aside0.mk (blk_below (g := gb540) (o := .cells #[.string ((rd_T48 (rd_L6 y534 x74_3) x80_4).f0), .int .i64 ((rd_T48 (rd_L6 y534 x74_3) x80_4).f1), .int .i64 ((rd_T48 (rd_L6 y534 x74_3) x80_4).f2)] 48 (0, 0)) (by (with_reducible repeat (first | refine blk_drewN ?_ _ | refine blk_drew ?_ | refine blk_alloc ?_ _)); refine blk_put (cs := #[.string ((rd_T48 (rd_L6 y534 x74_3) x80_4).f0), .int .i64 ((rd_T48 (rd_L6 y534 x74_3) x80_4).f1), .int .i64 0]) ?_ 2 _ rfl; (with_reducible repeat (first | refine blk_drewN ?_ _ | refine blk_drew ?_ | refine blk_alloc ?_ _)); refine blk_put (cs := #[.string ((rd_T48 (rd_L6 y534 x74_3) x80_4).f0), .int .i64 0, .int .i64 0]) ?_ 1 _ rfl; (with_reducible repeat (first | refine blk_drewN ?_ _ | refine blk_drew ?_ | refine blk_alloc ?_ _)); refine blk_put (cs := #[.string (⟨#[]⟩ : ByteArray), .int .i64 0, .int .i64 0]) ?_ 0 _ rfl; exact kb_ BK540.out) hb); replace HB := Aside0.mk (below_step bl_ hb); clear hb; have hcz167_0 : w166.cell? ⟨gb528, 0, none⟩ = some (u529000) := bc_ BK528.out 0; have hcz167_1 : w166.cell? ⟨gb528, 1, none⟩ = some (.slice Ao165 x529001_2.length co165) := bc_ BK528.out 1; have hfz167_0 := blk_frozen BK528.out 0; have hfz167_1 := blk_frozen BK528.out 1; have hcz168_0 : w166.cell? ⟨gb540, 0, none⟩ = some (.string ((rd_T48 (rd_L6 y534 x74_3) x80_4).f0)) := bc_ BK540.out 0; have hcz168_1 : w166.cell? ⟨gb540, 1, none⟩ = some (.int .i64 ((rd_T48 (rd_L6 y534 x74_3) x80_4).f1)) := bc_ BK540.out 1; have hcz168_2 : w166.cell? ⟨gb540, 2, none⟩ = some (.int .i64 ((rd_T48 (rd_L6 y534 x74_3) x80_4).f2)) := bc_ BK540.out 2; have hfz168_0 := blk_frozen BK540.out 0; have hfz168_1 := blk_frozen BK540.out 1; have hfz168_2 := blk_frozen BK540.out 2; obtain ⟨Ao169, co169, eo169⟩ := Kd.R_slice HO_529000.out; subst eo169) | ((with_reducible refine gate_callee (f := 32) rfl ?_); refine goesL_ (some 92) rfl rfl Try.func32 (by kernel_rfl) rfl #[.slice Ao169 x529000_4.length co169, .agg #[.string ((rd_T48 (rd_L6 y534 x74_3) x80_4).f0), .int .i64 ((rd_T48 (rd_L6 y534 x74_3) x80_4).f1), .int .i64 ((rd_T48 (rd_L6 y534 x74_3) x80_4).f2)]] rfl nc_ ?_; (with_reducible refine (spec_l14Put.calls k4 _ _ x529000_4 ((rd_T48 (rd_L6 y534 x74_3) x80_4).f0) ((rd_T48 (rd_L6 y534 x74_3) x80_4).f1) ((rd_T48 (rd_L6 y534 x74_3) x80_4).f2) t542 _ ?side1 ?side2 A154.out).mono ?_); (case side1 => exact kc_ (Kd.R_reads' HO_529000.out).2.2); (case side2 => exact (Kd.R_reads' HO_529000.out).2.1); rintro e w170 ⟨v543, rfl, ho0, hb⟩; refine ⟨_, rfl, ?_⟩; replace HO_72 := Aside0.mk (Kd.N_elder' (by (with_reducible repeat (first | apply Kd.N_alloc | apply Kd.N_drewN | apply Kd.N_drew)); exact HO_72.out) (Kd.R_base ho0) hb); replace HO_514000 := Aside0.mk (Kd.V_elder' (by (with_reducible repeat (first | apply Kd.V_alloc | apply Kd.V_drewN | apply Kd.V_drew)); exact HO_514000.out) (Kd.R_base ho0) hb); replace HO_515000 := Aside0.mk (Kd.V_elder' (by (with_reducible repeat (first | apply Kd.V_alloc | apply Kd.V_drewN | apply Kd.V_drew)); exact HO_515000.out) (Kd.R_base ho0) hb); have HO544 := Aside0.mk (Kd.R_lower (Kd.R_newB (rn_ (rn_ (Kd.R_newM (M := fun k_ => (w.heap.size ≤ k_)) ho0 bz_ (fun k_ h_ => h_)) HO_529000.out) HO_529001.out) (kb_ BK540.out)) bz_); replace HO_529000 := Aside0.mk (Kd.R_elder' (kr_ HO_529000.out) (Kd.R_base ho0) hb); replace HO_529001 := Aside0.mk (Kd.R_elder' (kr_ HO_529001.out) (Kd.R_base ho0) hb); replace BK513 := bb_ BK513 hb; replace BK514 := bb_ BK514 hb; replace BK515 := bb_ BK515 hb; replace BK528 := bb_ BK528 hb; replace HR538_0 := Aside0.mk (Kd.C_below (by repeat (first | (with_reducible exact HR538_0.out) | (with_reducible refine Kd.C_alloc ?_ _) | (with_reducible refine Kd.C_drewN ?_ _) | (with_reducible refine Kd.C_drew ?_) | exact HR538_0.out)) hb); replace BK540 := bb_ BK540 hb; replace HB := Aside0.mk (below_step bl_ hb); clear hb ho0; obtain ⟨Ao171, co171, eo171⟩ := Kd.R_slice HO544.out; subst eo171; have hcz172_0 : w170.cell? ⟨gb528, 0, none⟩ = some (.slice Ao169 x529000_4.length co169) := bc_ BK528.out 0; have hcz172_1 : w170.cell? ⟨gb528, 1, none⟩ = some (.slice Ao165 x529001_2.length co165) := bc_ BK528.out 1; have hfz172_0 := blk_frozen BK528.out 0; have hfz172_1 := blk_frozen BK528.out 1))
 go_roundg k4
 case measure => have := HJ2.out; have := HK2.out; have := HK3.out; have := HK4.out; omega
 case rel => exact ⟨(wrap64 (x80_4 + 1)), (t542), (.slice Ao171 t542.length co171), (by first | rfl | (simp; done) | (simp [*]; done)), H', ⟨by have := HJ2.out; have := HK2.out; have := HK3.out; have := HK4.out; omega⟩, ⟨by (with_reducible repeat (first | apply Kd.N_alloc | apply Kd.N_drewN | apply Kd.N_drew)); exact Kd.N_mono (Kd.N_far (p := ⟨gb528, 0, none⟩) (Kd.N_mono HO_72.out (fun k_ hk => (⟨hk, hk.1.1.2.2.2.2.2.2⟩ : _ ∧ k_ ≠ gb528))) (fun _ hk => hk.2) (.slice Ao171 t542.length co171)) (fun _ hk => ⟨hk.1.1.1.1, ⟨hk.1.2, ⟨hk.1.1.1.2.2.1, ⟨hk.1.1.1.2.2.2.1, ⟨hk.1.1.1.2.2.2.2.1, ⟨hk.1.1.1.2.2.2.2.2.1, hk.1.1.1.2.2.2.2.2.2⟩⟩⟩⟩⟩⟩)⟩, ⟨by (with_reducible repeat (first | apply Kd.V_alloc | apply Kd.V_drewN | apply Kd.V_drew)); exact Kd.V_mono (Kd.V_far (p := ⟨gb528, 0, none⟩) (Kd.V_mono HO_514000.out (fun k_ hk => (⟨hk, hk.1.1.2.2.2.2.2.2.2⟩ : _ ∧ k_ ≠ gb528))) (fun _ hk => hk.2) (.slice Ao171 t542.length co171)) (fun _ hk => ⟨hk.1.1.1.1, ⟨hk.1.1.1.2.1, ⟨hk.1.2, ⟨hk.1.1.1.2.2.2.1, ⟨hk.1.1.1.2.2.2.2.1, ⟨hk.1.1.1.2.2.2.2.2.1, ⟨hk.1.1.1.2.2.2.2.2.2.1, hk.1.1.1.2.2.2.2.2.2.2⟩⟩⟩⟩⟩⟩⟩)⟩, ⟨by (with_reducible repeat (first | apply Kd.V_alloc | apply Kd.V_drewN | apply Kd.V_drew)); exact Kd.V_mono (Kd.V_far (p := ⟨gb528, 0, none⟩) (Kd.V_mono HO_515000.out (fun k_ hk => (⟨hk, hk.1.1.2.2.2.2.2.2.2⟩ : _ ∧ k_ ≠ gb528))) (fun _ hk => hk.2) (.slice Ao171 t542.length co171)) (fun _ hk => ⟨hk.1.1.1.1, ⟨hk.1.1.1.2.1, ⟨hk.1.2, ⟨hk.1.1.1.2.2.2.1, ⟨hk.1.1.1.2.2.2.2.1, ⟨hk.1.1.1.2.2.2.2.2.1, ⟨hk.1.1.1.2.2.2.2.2.2.1, hk.1.1.1.2.2.2.2.2.2.2⟩⟩⟩⟩⟩⟩⟩)⟩, ⟨by exact kr_ (Kd.R_mono (Kd.R_far (p := ⟨gb528, 0, none⟩) (Kd.R_types HO544.out BK528.out (by decide)) (fun _ hk => hk.2) (.slice Ao171 t542.length co171)) (fun _ hk => ⟨hk.1.1.1.1.1, hk.1.1.2⟩))⟩, ⟨by exact kr_ (Kd.R_mono (Kd.R_far (p := ⟨gb528, 0, none⟩) (Kd.R_types HO_529001.out BK528.out (by decide)) (fun _ hk => hk.2) (.slice Ao171 t542.length co171)) (fun _ hk => ⟨hk.1.1.1.1, hk.1.2⟩))⟩, ⟨kz_⟩, ⟨kz_⟩, ⟨kz_⟩, ⟨by (with_reducible repeat (first | refine blk_drewN ?_ _ | refine blk_drew ?_ | refine blk_alloc ?_ _)); refine blk_put (cs := #[.slice Ao169 x529000_4.length co169, .slice Ao165 x529001_2.length co165]) ?_ 0 _ rfl; exact kb_ BK528.out⟩, ⟨C_farS HR538_0.out (kb_ BK528.out) (by simp) 0 _⟩, ⟨bl_⟩⟩

end Go.Proofs.Ytdnapgnnliibfaa.PMB
