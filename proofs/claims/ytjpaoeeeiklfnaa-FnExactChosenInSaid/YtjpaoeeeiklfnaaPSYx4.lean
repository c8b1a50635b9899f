/- What this text proves: the machine calls of these functions return what the plain functions say. Conditions: as each theorem says. Printed by a program of this session out of the translation. -/
import Derived.Test.YtjpaoeeeiklfnaaPSYx0
import Derived.Test.YtjpaoeeeiklfnaaPSYx3
namespace Go.Proofs.Ytjpaoeeeiklfnaa.PSY
open Go.RowKit Go.Proofs.YtjpaoeeeiklfnaaW.PrintWords Go.Proofs.YtjpaoeeeiklfnaaW.PrintLast Go.Proofs.YtjpaoeeeiklfnaaW.PrintMore
attribute [local go_sem] max2_int min2_int max_two min_two max_three min_three max_four min_four   -- for this text's walks alone
set_option linter.unusedVariables false
set_option linter.unusedSimpArgs false

/-! ### laws_eqIntS: function 79 -/
def laws_eqIntS.l0 : Nat → List Int → List Int → Int → Option (Bool)
 | 0, _, _, _ => none
 | k + 1, x0, x1, x5 => if x5 < (x0.length : Int) then (if 0 ≤ x5 then (if x5 < (x1.length : Int) then (if (rd x0 x5) = (rd x1 x5) then (laws_eqIntS.l0 k x0 x1 (wrap64 (x5 + 1))) else (some false)) else (none)) else (none)) else (some true)
def laws_eqIntS.f (k : Nat) (l0 : List Int) (l1 : List Int) : Option (Bool) := if (l0.length : Int) = (l1.length : Int) then (laws_eqIntS.l0 k l0 l1 0) else (some false)
theorem laws_eqIntS.mono_l : ∀ k, (∀ y0 y1 y2, LeO (laws_eqIntS.l0 k y0 y1 y2) (laws_eqIntS.l0 (k + 1) y0 y1 y2))
 | 0 => fun _ _ _ r h => by simp [laws_eqIntS.l0] at h
 | k + 1 => by
  have ih0 := laws_eqIntS.mono_l k
  ·intro y0 y1 y2
   unfold laws_eqIntS.l0
   repeat' first
   | (with_reducible exact ih0 _ _ _)
   | (with_reducible exact LeO.refl _)
   | (with_reducible exact LeO.none _)
   | (with_reducible refine LeO.ite ?_ ?_)
   | (with_reducible refine LeO.bind ?_ (fun _ => ?_))
   | exact ih0 _ _ _
   | exact LeO.none _
   | refine LeO.ite ?_ ?_
   | refine LeO.bind ?_ (fun _ => ?_)
theorem laws_eqIntS.mono : ∀ a0 a1 k, LeO (laws_eqIntS.f k a0 a1) (laws_eqIntS.f (k + 1) a0 a1) := by
 intro a0 a1 k
 have ih0 := laws_eqIntS.mono_l k
 unfold laws_eqIntS.f
 repeat' first
   | (with_reducible exact ih0 _ _ _)
   | (with_reducible exact LeO.refl _)
   | (with_reducible exact LeO.none _)
   | (with_reducible refine LeO.ite ?_ ?_)
   | (with_reducible refine LeO.bind ?_ (fun _ => ?_))
   | exact ih0 _ _ _
   | exact LeO.none _
   | refine LeO.ite ?_ ?_
   | refine LeO.bind ?_ (fun _ => ?_)
set_option maxHeartbeats 8000000 in
set_option maxRecDepth 100000 in
theorem laws_eqIntS.calls (k : Nat) (A0 : Option Addr) (c0 : Nat) (l0 : List Int) (A1 : Option Addr) (c1 : Nat) (l1 : List Int) (r : Bool) (w : World) (hr0 : Kd.C (Kd.int .i64) w A0 l0.length l0) (hc0 : l0.length ≤ c0) (hr1 : Kd.C (Kd.int .i64) w A1 l1.length l1) (hc1 : l1.length ≤ c1) (h : laws_eqIntS.f k l0 l1 = some r) :
  Calls Try.prog 79 #[.slice A0 l0.length c0, .slice A1 l1.length c1] w fun e w' => e = .returned (.bool r) ∧ Drawn0 w w' := by
 have HR0 := Aside0.mk hr0
 have HC0 := Aside0.mk hc0
 clear hr0 hc0
 have HR1 := Aside0.mk hr1
 have HC1 := Aside0.mk hc1
 clear hr1 hc1
 have H : (if (l0.length : Int) = (l1.length : Int) then (laws_eqIntS.l0 k l0 l1 0) else (some false)) = some r := h
 clear h
 by_cases c3 : (l0.length : Int) = (l1.length : Int)
 rotate_left
 ·rw [if_neg c3] at H
  have c3b0 : ((l0.length : Int) == (l1.length : Int)) = false := beq_eq_false_iff_ne.mpr c3
  have c3b1 : ((l0.length : Int) != (l1.length : Int)) = true := bne_iff_ne.mpr c3
  have c3b2 : (l0.length == l1.length) = false := by first | simpa using c3 | (simp at c3 ⊢; omega)
  obtain rfl := Option.some.inj H
  go_enter Try.func79, Try.ntmps79
  go_wp2
  repeat (go_quiet (fail); try go_wp2)
  go_ret
  exact ⟨by first | rfl | (simp; done) | (simp [*]; done), by repeat (first | exact Drawn0.refl _ | apply Drawn0.step)⟩
 rw [if_pos c3] at H
 have c3b0 : ((l0.length : Int) == (l1.length : Int)) = true := beq_iff_eq.mpr c3
 have c3b1 : ((l0.length : Int) != (l1.length : Int)) = false := bne_eq_false_iff_eq.mpr c3
 have c3b2 : (l0.length == l1.length) = true := by first | simpa using c3 | (simp at c3 ⊢; omega)
 clear c3
 have H' := Aside0.mk H
 clear H
 go_enter Try.func79, Try.ntmps79
 go_wp2
 repeat (go_quiet (fail); try go_wp2)
 go_loopg [5] k (fun kq v5 w' => ∃ (x5_1 : Int), v5 = .int .i64 x5_1 ∧ Aside0 (laws_eqIntS.l0 kq l0 l1 x5_1 = some r) ∧ Aside0 (kq ≤ k) ∧ Drawn0 w w')
 case atStart => exact ⟨(0), (by first | rfl | (simp; done) | (simp [*]; done)), H', ⟨Nat.le_refl _⟩, by repeat (first | exact Drawn0.refl _ | apply Drawn0.step)⟩
 clear H'
 try clear c1
 try clear p2
 try clear c3
 try clear c3b0
 try clear c3b1
 try clear c3b2
 obtain ⟨x5_1, rfl, HA, HK1, ⟨m1, rfl⟩⟩ := hrel
 cases gk with
 | zero => exact absurd HA.out (by simp [laws_eqIntS.l0])
 | succ k1 => ?_
 have H := HA.out
 clear HA
 simp only [laws_eqIntS.l0] at H
 by_cases c4 : x5_1 < (l0.length : Int)
 rotate_left
 ·rw [if_neg c4] at H
  have c4b0 : decide (x5_1 < (l0.length : Int)) = false := decide_eq_false c4
  clear c4
  obtain rfl := Option.some.inj H
  go_wp2
  repeat (go_quiet (fail); try go_wp2)
  go_ret
  exact ⟨by first | rfl | (simp; done) | (simp [*]; done), by repeat (first | exact Drawn0.refl _ | apply Drawn0.step)⟩
 rw [if_pos c4] at H
 have c4b0 : decide (x5_1 < (l0.length : Int)) = true := decide_eq_true c4
 clear c4
 by_cases c5 : 0 ≤ x5_1
 rotate_left
 ·rw [if_neg c5] at H
  exact absurd H (by simp)
 rw [if_pos c5] at H
 have c5b0 : decide (0 ≤ x5_1) = true := decide_eq_true c5
 clear c5
 by_cases c6 : x5_1 < (l1.length : Int)
 rotate_left
 ·rw [if_neg c6] at H
  exact absurd H (by simp)
 rw [if_pos c6] at H
 have c6b0 : decide (x5_1 < (l1.length : Int)) = true := decide_eq_true c6
 clear c6
 by_cases c7 : (rd l0 x5_1) = (rd l1 x5_1)
 rotate_left
 ·rw [if_neg c7] at H
  have c7b0 : ((rd l0 x5_1) == (rd l1 x5_1)) = false := beq_eq_false_iff_ne.mpr c7
  have c7b1 : ((rd l0 x5_1) != (rd l1 x5_1)) = true := bne_iff_ne.mpr c7
  obtain rfl := Option.some.inj H
  have p184 : 0 ≤ (x5_1 : Int) := of_decide_eq_true (by first | (with_reducible assumption) | assumption)
  have q184 : x5_1 < (l0.length : Int) := of_decide_eq_true (by first | (with_reducible assumption) | assumption)
  obtain ⟨ad184, e184, hx184_0⟩ := Kd.at_int HR0.out x5_1 p184 q184
  cases e184
  replace p184 := eq_true p184
  replace q184 := eq_true q184
  have p185 : 0 ≤ (x5_1 : Int) := of_decide_eq_true (by first | (with_reducible assumption) | assumption)
  have q185 : x5_1 < (l1.length : Int) := of_decide_eq_true (by first | (with_reducible assumption) | assumption)
  obtain ⟨ad185, e185, hx185_0⟩ := Kd.at_int HR1.out x5_1 p185 q185
  cases e185
  replace p185 := eq_true p185
  replace q185 := eq_true q185
  go_wp2
  repeat (go_quiet (fail); try go_wp2)
  go_ret
  exact ⟨by first | rfl | (simp; done) | (simp [*]; done), by repeat (first | exact Drawn0.refl _ | apply Drawn0.step)⟩
 rw [if_pos c7] at H
 have c7b0 : ((rd l0 x5_1) == (rd l1 x5_1)) = true := beq_iff_eq.mpr c7
 have c7b1 : ((rd l0 x5_1) != (rd l1 x5_1)) = false := bne_eq_false_iff_eq.mpr c7
 clear c7
 have H' := Aside0.mk H
 clear H
 have p184 : 0 ≤ (x5_1 : Int) := of_decide_eq_true (by first | (with_reducible assumption) | assumption)
 have q184 : x5_1 < (l0.length : Int) := of_decide_eq_true (by first | (with_reducible assumption) | assumption)
 obtain ⟨ad184, e184, hx184_0⟩ := Kd.at_int HR0.out x5_1 p184 q184
 cases e184
 replace p184 := eq_true p184
 replace q184 := eq_true q184
 have p185 : 0 ≤ (x5_1 : Int) := of_decide_eq_true (by first | (with_reducible assumption) | assumption)
 have q185 : x5_1 < (l1.length : Int) := of_decide_eq_true (by first | (with_reducible assumption) | assumption)
 obtain ⟨ad185, e185, hx185_0⟩ := Kd.at_int HR1.out x5_1 p185 q185
 cases e185
 replace p185 := eq_true p185
 replace q185 := eq_true q185
 go_wp2
 repeat (go_quiet (fail); try go_wp2)
 go_roundg k1
 case measure => have := HK1.out; omega
 case rel => exact ⟨(wrap64 (x5_1 + 1)), (by first | rfl | (simp; done) | (simp [*]; done)), H', ⟨by have := HK1.out; omega⟩, by repeat (first | exact Drawn0.refl _ | apply Drawn0.step)⟩

/-! ### laws_eqProposer: function 58 -/
def laws_eqProposer.f (k : Nat) (a0_0 : ByteArray) (l0_1 : List (S73)) (a0_2 : Bool) (a0_3 : ByteArray) (l0_4 : List Int) (a1_0 : ByteArray) (l1_1 : List (S73)) (a1_2 : Bool) (a1_3 : ByteArray) (l1_4 : List Int) : Option (Bool) := if a0_0.toList = a1_0.toList then ((laws_eqPromiseS.f k l0_1 l1_1).bind fun t188 => (if t188 = true then (if (a0_2 != a1_2) = true then (some false) else (if a0_3.toList = a1_3.toList then ((laws_eqIntS.f k l0_4 l1_4).bind fun t189 => (if t189 = true then (some true) else (some false))) else (some false))) else (some false))) else (some false)
theorem laws_eqProposer.mono : ∀ a0 a1 a2 a3 a4 a5 a6 a7 a8 a9 k, LeO (laws_eqProposer.f k a0 a1 a2 a3 a4 a5 a6 a7 a8 a9) (laws_eqProposer.f (k + 1) a0 a1 a2 a3 a4 a5 a6 a7 a8 a9) := by
 intro a0 a1 a2 a3 a4 a5 a6 a7 a8 a9 k
 unfold laws_eqProposer.f
 repeat' first
   | (with_reducible exact laws_eqIntS.mono _ _ _)
   | (with_reducible exact laws_eqPromiseS.mono _ _ _)
   | (with_reducible exact LeO.refl _)
   | (with_reducible exact LeO.none _)
   | (with_reducible refine LeO.ite ?_ ?_)
   | (with_reducible refine LeO.bind ?_ (fun _ => ?_))
   | exact laws_eqIntS.mono _ _ _
   | exact laws_eqPromiseS.mono _ _ _
   | exact LeO.none _
   | refine LeO.ite ?_ ?_
   | refine LeO.bind ?_ (fun _ => ?_)
set_option maxHeartbeats 8000000 in
set_option maxRecDepth 100000 in
theorem laws_eqProposer.calls (k : Nat) (a0_0 : ByteArray) (A0_1 : Option Addr) (c0_1 : Nat) (l0_1 : List (S73)) (a0_2 : Bool) (a0_3 : ByteArray) (A0_4 : Option Addr) (c0_4 : Nat) (l0_4 : List Int) (a1_0 : ByteArray) (A1_1 : Option Addr) (c1_1 : Nat) (l1_1 : List (S73)) (a1_2 : Bool) (a1_3 : ByteArray) (A1_4 : Option Addr) (c1_4 : Nat) (l1_4 : List Int) (r : Bool) (w : World) (hr0_1 : Kd.C k73 w A0_1 l0_1.length l0_1) (hc0_1 : l0_1.length ≤ c0_1) (hr0_4 : Kd.C (Kd.int .i64) w A0_4 l0_4.length l0_4) (hc0_4 : l0_4.length ≤ c0_4) (hr1_1 : Kd.C k73 w A1_1 l1_1.length l1_1) (hc1_1 : l1_1.length ≤ c1_1) (hr1_4 : Kd.C (Kd.int .i64) w A1_4 l1_4.length l1_4) (hc1_4 : l1_4.length ≤ c1_4) (h : laws_eqProposer.f k a0_0 l0_1 a0_2 a0_3 l0_4 a1_0 l1_1 a1_2 a1_3 l1_4 = some r) :
  Calls Try.prog 58 #[.agg #[.string a0_0, .slice A0_1 l0_1.length c0_1, .bool a0_2, .string a0_3, .slice A0_4 l0_4.length c0_4], .agg #[.string a1_0, .slice A1_1 l1_1.length c1_1, .bool a1_2, .string a1_3, .slice A1_4 l1_4.length c1_4]] w fun e w' => e = .returned (.bool r) ∧ Below w.heap.size w w' := by
 have hu54 := Try.underlying54
 have HR0_1 := Aside0.mk hr0_1
 have HC0_1 := Aside0.mk hc0_1
 clear hr0_1 hc0_1
 have HR0_4 := Aside0.mk hr0_4
 have HC0_4 := Aside0.mk hc0_4
 clear hr0_4 hc0_4
 have HR1_1 := Aside0.mk hr1_1
 have HC1_1 := Aside0.mk hc1_1
 clear hr1_1 hc1_1
 have HR1_4 := Aside0.mk hr1_4
 have HC1_4 := Aside0.mk hc1_4
 clear hr1_4 hc1_4
 have HB := Aside0.mk (Below.refl w.heap.size w)
 have H : (if a0_0.toList = a1_0.toList then ((laws_eqPromiseS.f k l0_1 l1_1).bind fun t188 => (if t188 = true then (if (a0_2 != a1_2) = true then (some false) else (if a0_3.toList = a1_3.toList then ((laws_eqIntS.f k l0_4 l1_4).bind fun t189 => (if t189 = true then (some true) else (some false))) else (some false))) else (some false))) else (some false)) = some r := h
 clear h
 by_cases c3 : a0_0.toList = a1_0.toList
 rotate_left
 ·rw [if_neg c3] at H
  have c3b0 : (a0_0.toList == a1_0.toList) = false := beq_eq_false_iff_ne.mpr c3
  have c3b1 : (a0_0.toList != a1_0.toList) = true := bne_iff_ne.mpr c3
  obtain rfl := Option.some.inj H
  go_enter Try.func58, Try.ntmps58
  go_wp2_with (first | ((with_reducible refine gate_dst (N := 2) rfl ?_); refine box_event rfl (N := 2) rfl (cs := #[.string a0_0, .slice A0_1 l0_1.length c0_1, .bool a0_2, .string a0_3, .slice A0_4 l0_4.length c0_4]) (t := 54) gs_ ?_; intro gb186 hg w48 hbox hb; have BK186 := Aside0.mk (hbox); have GW186 := Aside0.mk ((by rw [hg]; exact bz_ : w.heap.size ≤ gb186)); have GE186 := GW186; replace HB := Aside0.mk (below_step bl_ hb); clear hb hbox hg) | ((with_reducible refine gate_dst (N := 3) rfl ?_); refine box_event rfl (N := 3) rfl (cs := #[.string a1_0, .slice A1_1 l1_1.length c1_1, .bool a1_2, .string a1_3, .slice A1_4 l1_4.length c1_4]) (t := 54) gs_ ?_; intro gb187 hg w49 hbox hb; have BK187 := Aside0.mk (hbox); have GW187 := Aside0.mk ((by rw [hg]; exact bz_ : w.heap.size ≤ gb187)); have GE187 := GW187; replace HB := Aside0.mk (below_step bl_ hb); have NB186_187 := nl_ hg BK186; have NB187_186 := nm_ hg BK186; replace BK186 := bb_ BK186 hb; clear hb hbox hg; have hnb50 := NB186_187.out; have hnc50 := NB187_186.out; have hcz51_0 : w49.cell? ⟨gb186, 0, none⟩ = some (.string a0_0) := bc_ BK186.out 0; have hcz51_1 : w49.cell? ⟨gb186, 1, none⟩ = some (.slice A0_1 l0_1.length c0_1) := bc_ BK186.out 1; have hcz51_2 : w49.cell? ⟨gb186, 2, none⟩ = some (.bool a0_2) := bc_ BK186.out 2; have hcz51_3 : w49.cell? ⟨gb186, 3, none⟩ = some (.string a0_3) := bc_ BK186.out 3; have hcz51_4 : w49.cell? ⟨gb186, 4, none⟩ = some (.slice A0_4 l0_4.length c0_4) := bc_ BK186.out 4; have hfz51_0 := blk_frozen BK186.out 0; have hfz51_1 := blk_frozen BK186.out 1; have hfz51_2 := blk_frozen BK186.out 2; have hfz51_3 := blk_frozen BK186.out 3; have hfz51_4 := blk_frozen BK186.out 4; have hcz52_0 : w49.cell? ⟨gb187, 0, none⟩ = some (.string a1_0) := bc_ BK187.out 0; have hcz52_1 : w49.cell? ⟨gb187, 1, none⟩ = some (.slice A1_1 l1_1.length c1_1) := bc_ BK187.out 1; have hcz52_2 : w49.cell? ⟨gb187, 2, none⟩ = some (.bool a1_2) := bc_ BK187.out 2; have hcz52_3 : w49.cell? ⟨gb187, 3, none⟩ = some (.string a1_3) := bc_ BK187.out 3; have hcz52_4 : w49.cell? ⟨gb187, 4, none⟩ = some (.slice A1_4 l1_4.length c1_4) := bc_ BK187.out 4; have hfz52_0 := blk_frozen BK187.out 0; have hfz52_1 := blk_frozen BK187.out 1; have hfz52_2 := blk_frozen BK187.out 2; have hfz52_3 := blk_frozen BK187.out 3; have hfz52_4 := blk_frozen BK187.out 4))
  go_ret
  exact ⟨ng_, bl_⟩
 rw [if_pos c3] at H
 have c3b0 : (a0_0.toList == a1_0.toList) = true := beq_iff_eq.mpr c3
 have c3b1 : (a0_0.toList != a1_0.toList) = false := bne_eq_false_iff_eq.mpr c3
 clear c3
 replace H := Option.bind_eq_some_iff.mp H
 obtain ⟨t188, A40, H⟩ := H
 replace H : (if t188 = true then (if (a0_2 != a1_2) = true then (some false) else (if a0_3.toList = a1_3.toList then ((laws_eqIntS.f k l0_4 l1_4).bind fun t189 => (if t189 = true then (some true) else (some false))) else (some false))) else (some false)) = some r := H
 have A4 := Aside0.mk A40
 clear A40
 by_cases c5 : t188 = true
 rotate_left
 ·replace c5 := Bool.eq_false_iff.mpr c5
  subst c5
  have H1 : (some false) = some r := by rw [if_neg (show ¬ (false = true) by decide)] at H; exact H
  clear H
  have H := H1
  clear H1
  obtain rfl := Option.some.inj H
  go_enter Try.func58, Try.ntmps58
  go_wp2_with (first | ((with_reducible refine gate_dst (N := 2) rfl ?_); refine box_event rfl (N := 2) rfl (cs := #[.string a0_0, .slice A0_1 l0_1.length c0_1, .bool a0_2, .string a0_3, .slice A0_4 l0_4.length c0_4]) (t := 54) gs_ ?_; intro gb186 hg w42 hbox hb; have BK186 := Aside0.mk (hbox); have GW186 := Aside0.mk ((by rw [hg]; exact bz_ : w.heap.size ≤ gb186)); have GE186 := GW186; replace HB := Aside0.mk (below_step bl_ hb); clear hb hbox hg) | ((with_reducible refine gate_dst (N := 3) rfl ?_); refine box_event rfl (N := 3) rfl (cs := #[.string a1_0, .slice A1_1 l1_1.length c1_1, .bool a1_2, .string a1_3, .slice A1_4 l1_4.length c1_4]) (t := 54) gs_ ?_; intro gb187 hg w43 hbox hb; have BK187 := Aside0.mk (hbox); have GW187 := Aside0.mk ((by rw [hg]; exact bz_ : w.heap.size ≤ gb187)); have GE187 := GW187; replace HB := Aside0.mk (below_step bl_ hb); have NB186_187 := nl_ hg BK186; have NB187_186 := nm_ hg BK186; replace BK186 := bb_ BK186 hb; clear hb hbox hg; have hnb44 := NB186_187.out; have hnc44 := NB187_186.out; have hcz45_0 : w43.cell? ⟨gb186, 0, none⟩ = some (.string a0_0) := bc_ BK186.out 0; have hcz45_1 : w43.cell? ⟨gb186, 1, none⟩ = some (.slice A0_1 l0_1.length c0_1) := bc_ BK186.out 1; have hcz45_2 : w43.cell? ⟨gb186, 2, none⟩ = some (.bool a0_2) := bc_ BK186.out 2; have hcz45_3 : w43.cell? ⟨gb186, 3, none⟩ = some (.string a0_3) := bc_ BK186.out 3; have hcz45_4 : w43.cell? ⟨gb186, 4, none⟩ = some (.slice A0_4 l0_4.length c0_4) := bc_ BK186.out 4; have hfz45_0 := blk_frozen BK186.out 0; have hfz45_1 := blk_frozen BK186.out 1; have hfz45_2 := blk_frozen BK186.out 2; have hfz45_3 := blk_frozen BK186.out 3; have hfz45_4 := blk_frozen BK186.out 4; have hcz46_0 : w43.cell? ⟨gb187, 0, none⟩ = some (.string a1_0) := bc_ BK187.out 0; have hcz46_1 : w43.cell? ⟨gb187, 1, none⟩ = some (.slice A1_1 l1_1.length c1_1) := bc_ BK187.out 1; have hcz46_2 : w43.cell? ⟨gb187, 2, none⟩ = some (.bool a1_2) := bc_ BK187.out 2; have hcz46_3 : w43.cell? ⟨gb187, 3, none⟩ = some (.string a1_3) := bc_ BK187.out 3; have hcz46_4 : w43.cell? ⟨gb187, 4, none⟩ = some (.slice A1_4 l1_4.length c1_4) := bc_ BK187.out 4; have hfz46_0 := blk_frozen BK187.out 0; have hfz46_1 := blk_frozen BK187.out 1; have hfz46_2 := blk_frozen BK187.out 2; have hfz46_3 := blk_frozen BK187.out 3; have hfz46_4 := blk_frozen BK187.out 4) | ((with_reducible refine gate_callee (f := 78) rfl ?_); refine goesL_ (some 14) rfl rfl Try.func78 (by kernel_rfl) rfl #[.slice A0_1 l0_1.length c0_1, .slice A1_1 l1_1.length c1_1] rfl nc_ ?_; (with_reducible refine (laws_eqPromiseS.calls k _ _ l0_1 _ _ l1_1 false _ ?side1 ?side2 ?side3 ?side4 A4.out).mono ?_); (case side1 => exact kc_ (Kd.C_below HR0_1.out HB.out)); (case side2 => exact HC0_1.out); (case side3 => exact kc_ (Kd.C_below HR1_1.out HB.out)); (case side4 => exact HC1_1.out); rintro e w47 ⟨rfl, hb⟩; refine ⟨_, rfl, ?_⟩; replace BK186 := bb_ BK186 hb; replace BK187 := bb_ BK187 hb; replace HB := Aside0.mk (below_step bl_ hb); clear hb))
  go_ret
  exact ⟨ng_, bl_⟩
 subst c5
 have H1 : (if (a0_2 != a1_2) = true then (some false) else (if a0_3.toList = a1_3.toList then ((laws_eqIntS.f k l0_4 l1_4).bind fun t189 => (if t189 = true then (some true) else (some false))) else (some false))) = some r := by rw [if_pos rfl] at H; exact H
 clear H
 have H := H1
 clear H1
 by_cases c6 : (a0_2 != a1_2) = true
 ·rw [if_pos c6] at H
  have c6b0 : (a0_2 != a1_2) = true := c6
  (try (have c6b1 : decide (a0_2 = a1_2) = false := by simpa using c6))
  (try (have c6b2 : (a0_2 == a1_2) = false := by simpa using c6))
  (try (have c6b3 : ¬ (a0_2 = a1_2) := by simpa using c6))
  clear c6
  obtain rfl := Option.some.inj H
  go_enter Try.func58, Try.ntmps58
  go_wp2_with (first | ((with_reducible refine gate_dst (N := 2) rfl ?_); refine box_event rfl (N := 2) rfl (cs := #[.string a0_0, .slice A0_1 l0_1.length c0_1, .bool a0_2, .string a0_3, .slice A0_4 l0_4.length c0_4]) (t := 54) gs_ ?_; intro gb186 hg w7 hbox hb; have BK186 := Aside0.mk (hbox); have GW186 := Aside0.mk ((by rw [hg]; exact bz_ : w.heap.size ≤ gb186)); have GE186 := GW186; replace HB := Aside0.mk (below_step bl_ hb); clear hb hbox hg) | ((with_reducible refine gate_dst (N := 3) rfl ?_); refine box_event rfl (N := 3) rfl (cs := #[.string a1_0, .slice A1_1 l1_1.length c1_1, .bool a1_2, .string a1_3, .slice A1_4 l1_4.length c1_4]) (t := 54) gs_ ?_; intro gb187 hg w8 hbox hb; have BK187 := Aside0.mk (hbox); have GW187 := Aside0.mk ((by rw [hg]; exact bz_ : w.heap.size ≤ gb187)); have GE187 := GW187; replace HB := Aside0.mk (below_step bl_ hb); have NB186_187 := nl_ hg BK186; have NB187_186 := nm_ hg BK186; replace BK186 := bb_ BK186 hb; clear hb hbox hg; have hnb9 := NB186_187.out; have hnc9 := NB187_186.out; have hcz10_0 : w8.cell? ⟨gb186, 0, none⟩ = some (.string a0_0) := bc_ BK186.out 0; have hcz10_1 : w8.cell? ⟨gb186, 1, none⟩ = some (.slice A0_1 l0_1.length c0_1) := bc_ BK186.out 1; have hcz10_2 : w8.cell? ⟨gb186, 2, none⟩ = some (.bool a0_2) := bc_ BK186.out 2; have hcz10_3 : w8.cell? ⟨gb186, 3, none⟩ = some (.string a0_3) := bc_ BK186.out 3; have hcz10_4 : w8.cell? ⟨gb186, 4, none⟩ = some (.slice A0_4 l0_4.length c0_4) := bc_ BK186.out 4; have hfz10_0 := blk_frozen BK186.out 0; have hfz10_1 := blk_frozen BK186.out 1; have hfz10_2 := blk_frozen BK186.out 2; have hfz10_3 := blk_frozen BK186.out 3; have hfz10_4 := blk_frozen BK186.out 4; have hcz11_0 : w8.cell? ⟨gb187, 0, none⟩ = some (.string a1_0) := bc_ BK187.out 0; have hcz11_1 : w8.cell? ⟨gb187, 1, none⟩ = some (.slice A1_1 l1_1.length c1_1) := bc_ BK187.out 1; have hcz11_2 : w8.cell? ⟨gb187, 2, none⟩ = some (.bool a1_2) := bc_ BK187.out 2; have hcz11_3 : w8.cell? ⟨gb187, 3, none⟩ = some (.string a1_3) := bc_ BK187.out 3; have hcz11_4 : w8.cell? ⟨gb187, 4, none⟩ = some (.slice A1_4 l1_4.length c1_4) := bc_ BK187.out 4; have hfz11_0 := blk_frozen BK187.out 0; have hfz11_1 := blk_frozen BK187.out 1; have hfz11_2 := blk_frozen BK187.out 2; have hfz11_3 := blk_frozen BK187.out 3; have hfz11_4 := blk_frozen BK187.out 4) | ((with_reducible refine gate_callee (f := 78) rfl ?_); refine goesL_ (some 14) rfl rfl Try.func78 (by kernel_rfl) rfl #[.slice A0_1 l0_1.length c0_1, .slice A1_1 l1_1.length c1_1] rfl nc_ ?_; (with_reducible refine (laws_eqPromiseS.calls k _ _ l0_1 _ _ l1_1 true _ ?side1 ?side2 ?side3 ?side4 A4.out).mono ?_); (case side1 => exact kc_ (Kd.C_below HR0_1.out HB.out)); (case side2 => exact HC0_1.out); (case side3 => exact kc_ (Kd.C_below HR1_1.out HB.out)); (case side4 => exact HC1_1.out); rintro e w12 ⟨rfl, hb⟩; refine ⟨_, rfl, ?_⟩; replace BK186 := bb_ BK186 hb; replace BK187 := bb_ BK187 hb; replace HB := Aside0.mk (below_step bl_ hb); clear hb; have hcz13_0 : w12.cell? ⟨gb186, 0, none⟩ = some (.string a0_0) := bc_ BK186.out 0; have hcz13_1 : w12.cell? ⟨gb186, 1, none⟩ = some (.slice A0_1 l0_1.length c0_1) := bc_ BK186.out 1; have hcz13_2 : w12.cell? ⟨gb186, 2, none⟩ = some (.bool a0_2) := bc_ BK186.out 2; have hcz13_3 : w12.cell? ⟨gb186, 3, none⟩ = some (.string a0_3) := bc_ BK186.out 3; have hcz13_4 : w12.cell? ⟨gb186, 4, none⟩ = some (.slice A0_4 l0_4.length c0_4) := bc_ BK186.out 4; have hfz13_0 := blk_frozen BK186.out 0; have hfz13_1 := blk_frozen BK186.out 1; have hfz13_2 := blk_frozen BK186.out 2; have hfz13_3 := blk_frozen BK186.out 3; have hfz13_4 := blk_frozen BK186.out 4; have hcz14_0 : w12.cell? ⟨gb187, 0, none⟩ = some (.string a1_0) := bc_ BK187.out 0; have hcz14_1 : w12.cell? ⟨gb187, 1, none⟩ = some (.slice A1_1 l1_1.length c1_1) := bc_ BK187.out 1; have hcz14_2 : w12.cell? ⟨gb187, 2, none⟩ = some (.bool a1_2) := bc_ BK187.out 2; have hcz14_3 : w12.cell? ⟨gb187, 3, none⟩ = some (.string a1_3) := bc_ BK187.out 3; have hcz14_4 : w12.cell? ⟨gb187, 4, none⟩ = some (.slice A1_4 l1_4.length c1_4) := bc_ BK187.out 4; have hfz14_0 := blk_frozen BK187.out 0; have hfz14_1 := blk_frozen BK187.out 1; have hfz14_2 := blk_frozen BK187.out 2; have hfz14_3 := blk_frozen BK187.out 3; have hfz14_4 := blk_frozen BK187.out 4))
  go_ret
  exact ⟨ng_, bl_⟩
 rw [if_neg c6] at H
 have c6b0 : (a0_2 != a1_2) = false := by simpa using c6
 (try (have c6b1 : decide (a0_2 = a1_2) = true := by simpa using c6))
 (try (have c6b2 : (a0_2 == a1_2) = true := by simpa using c6))
 clear c6
 by_cases c15 : a0_3.toList = a1_3.toList
 rotate_left
 ·rw [if_neg c15] at H
  have c15b0 : (a0_3.toList == a1_3.toList) = false := beq_eq_false_iff_ne.mpr c15
  have c15b1 : (a0_3.toList != a1_3.toList) = true := bne_iff_ne.mpr c15
  obtain rfl := Option.some.inj H
  go_enter Try.func58, Try.ntmps58
  go_wp2_with (first | ((with_reducible refine gate_dst (N := 2) rfl ?_); refine box_event rfl (N := 2) rfl (cs := #[.string a0_0, .slice A0_1 l0_1.length c0_1, .bool a0_2, .string a0_3, .slice A0_4 l0_4.length c0_4]) (t := 54) gs_ ?_; intro gb186 hg w34 hbox hb; have BK186 := Aside0.mk (hbox); have GW186 := Aside0.mk ((by rw [hg]; exact bz_ : w.heap.size ≤ gb186)); have GE186 := GW186; replace HB := Aside0.mk (below_step bl_ hb); clear hb hbox hg) | ((with_reducible refine gate_dst (N := 3) rfl ?_); refine box_event rfl (N := 3) rfl (cs := #[.string a1_0, .slice A1_1 l1_1.length c1_1, .bool a1_2, .string a1_3, .slice A1_4 l1_4.length c1_4]) (t := 54) gs_ ?_; intro gb187 hg w35 hbox hb; have BK187 := Aside0.mk (hbox); have GW187 := Aside0.mk ((by rw [hg]; exact bz_ : w.heap.size ≤ gb187)); have GE187 := GW187; replace HB := Aside0.mk (below_step bl_ hb); have NB186_187 := nl_ hg BK186; have NB187_186 := nm_ hg BK186; replace BK186 := bb_ BK186 hb; clear hb hbox hg; have hnb36 := NB186_187.out; have hnc36 := NB187_186.out; have hcz37_0 : w35.cell? ⟨gb186, 0, none⟩ = some (.string a0_0) := bc_ BK186.out 0; have hcz37_1 : w35.cell? ⟨gb186, 1, none⟩ = some (.slice A0_1 l0_1.length c0_1) := bc_ BK186.out 1; have hcz37_2 : w35.cell? ⟨gb186, 2, none⟩ = some (.bool a0_2) := bc_ BK186.out 2; have hcz37_3 : w35.cell? ⟨gb186, 3, none⟩ = some (.string a0_3) := bc_ BK186.out 3; have hcz37_4 : w35.cell? ⟨gb186, 4, none⟩ = some (.slice A0_4 l0_4.length c0_4) := bc_ BK186.out 4; have hfz37_0 := blk_frozen BK186.out 0; have hfz37_1 := blk_frozen BK186.out 1; have hfz37_2 := blk_frozen BK186.out 2; have hfz37_3 := blk_frozen BK186.out 3; have hfz37_4 := blk_frozen BK186.out 4; have hcz38_0 : w35.cell? ⟨gb187, 0, none⟩ = some (.string a1_0) := bc_ BK187.out 0; have hcz38_1 : w35.cell? ⟨gb187, 1, none⟩ = some (.slice A1_1 l1_1.length c1_1) := bc_ BK187.out 1; have hcz38_2 : w35.cell? ⟨gb187, 2, none⟩ = some (.bool a1_2) := bc_ BK187.out 2; have hcz38_3 : w35.cell? ⟨gb187, 3, none⟩ = some (.string a1_3) := bc_ BK187.out 3; have hcz38_4 : w35.cell? ⟨gb187, 4, none⟩ = some (.slice A1_4 l1_4.length c1_4) := bc_ BK187.out 4; have hfz38_0 := blk_frozen BK187.out 0; have hfz38_1 := blk_frozen BK187.out 1; have hfz38_2 := blk_frozen BK187.out 2; have hfz38_3 := blk_frozen BK187.out 3; have hfz38_4 := blk_frozen BK187.out 4) | ((with_reducible refine gate_callee (f := 78) rfl ?_); refine goesL_ (some 14) rfl rfl Try.func78 (by kernel_rfl) rfl #[.slice A0_1 l0_1.length c0_1, .slice A1_1 l1_1.length c1_1] rfl nc_ ?_; (with_reducible refine (laws_eqPromiseS.calls k _ _ l0_1 _ _ l1_1 true _ ?side1 ?side2 ?side3 ?side4 A4.out).mono ?_); (case side1 => exact kc_ (Kd.C_below HR0_1.out HB.out)); (case side2 => exact HC0_1.out); (case side3 => exact kc_ (Kd.C_below HR1_1.out HB.out)); (case side4 => exact HC1_1.out); rintro e w39 ⟨rfl, hb⟩; refine ⟨_, rfl, ?_⟩; replace BK186 := bb_ BK186 hb; replace BK187 := bb_ BK187 hb; replace HB := Aside0.mk (below_step bl_ hb); clear hb; have hcz40_0 : w39.cell? ⟨gb186, 0, none⟩ = some (.string a0_0) := bc_ BK186.out 0; have hcz40_1 : w39.cell? ⟨gb186, 1, none⟩ = some (.slice A0_1 l0_1.length c0_1) := bc_ BK186.out 1; have hcz40_2 : w39.cell? ⟨gb186, 2, none⟩ = some (.bool a0_2) := bc_ BK186.out 2; have hcz40_3 : w39.cell? ⟨gb186, 3, none⟩ = some (.string a0_3) := bc_ BK186.out 3; have hcz40_4 : w39.cell? ⟨gb186, 4, none⟩ = some (.slice A0_4 l0_4.length c0_4) := bc_ BK186.out 4; have hfz40_0 := blk_frozen BK186.out 0; have hfz40_1 := blk_frozen BK186.out 1; have hfz40_2 := blk_frozen BK186.out 2; have hfz40_3 := blk_frozen BK186.out 3; have hfz40_4 := blk_frozen BK186.out 4; have hcz41_0 : w39.cell? ⟨gb187, 0, none⟩ = some (.string a1_0) := bc_ BK187.out 0; have hcz41_1 : w39.cell? ⟨gb187, 1, none⟩ = some (.slice A1_1 l1_1.length c1_1) := bc_ BK187.out 1; have hcz41_2 : w39.cell? ⟨gb187, 2, none⟩ = some (.bool a1_2) := bc_ BK187.out 2; have hcz41_3 : w39.cell? ⟨gb187, 3, none⟩ = some (.string a1_3) := bc_ BK187.out 3; have hcz41_4 : w39.cell? ⟨gb187, 4, none⟩ = some (.slice A1_4 l1_4.length c1_4) := bc_ BK187.out 4; have hfz41_0 := blk_frozen BK187.out 0; have hfz41_1 := blk_frozen BK187.out 1; have hfz41_2 := blk_frozen BK187.out 2; have hfz41_3 := blk_frozen BK187.out 3; have hfz41_4 := blk_frozen BK187.out 4))
  go_ret
  exact ⟨ng_, bl_⟩
 rw [if_pos c15] at H
 have c15b0 : (a0_3.toList == a1_3.toList) = true := beq_iff_eq.mpr c15
 have c15b1 : (a0_3.toList != a1_3.toList) = false := bne_eq_false_iff_eq.mpr c15
 clear c15
 replace H := Option.bind_eq_some_iff.mp H
 obtain ⟨t189, A160, H⟩ := H
 replace H : (if t189 = true then (some true) else (some false)) = some r := H
 have A16 := Aside0.mk A160
 clear A160
 by_cases c17 : t189 = true
 ·subst c17
  have H1 : (some true) = some r := by rw [if_pos rfl] at H; exact H
  clear H
  have H := H1
  clear H1
  obtain rfl := Option.some.inj H
  go_enter Try.func58, Try.ntmps58
  go_wp2_with (first | ((with_reducible refine gate_dst (N := 2) rfl ?_); refine box_event rfl (N := 2) rfl (cs := #[.string a0_0, .slice A0_1 l0_1.length c0_1, .bool a0_2, .string a0_3, .slice A0_4 l0_4.length c0_4]) (t := 54) gs_ ?_; intro gb186 hg w18 hbox hb; have BK186 := Aside0.mk (hbox); have GW186 := Aside0.mk ((by rw [hg]; exact bz_ : w.heap.size ≤ gb186)); have GE186 := GW186; replace HB := Aside0.mk (below_step bl_ hb); clear hb hbox hg) | ((with_reducible refine gate_dst (N := 3) rfl ?_); refine box_event rfl (N := 3) rfl (cs := #[.string a1_0, .slice A1_1 l1_1.length c1_1, .bool a1_2, .string a1_3, .slice A1_4 l1_4.length c1_4]) (t := 54) gs_ ?_; intro gb187 hg w19 hbox hb; have BK187 := Aside0.mk (hbox); have GW187 := Aside0.mk ((by rw [hg]; exact bz_ : w.heap.size ≤ gb187)); have GE187 := GW187; replace HB := Aside0.mk (below_step bl_ hb); have NB186_187 := nl_ hg BK186; have NB187_186 := nm_ hg BK186; replace BK186 := bb_ BK186 hb; clear hb hbox hg; have hnb20 := NB186_187.out; have hnc20 := NB187_186.out; have hcz21_0 : w19.cell? ⟨gb186, 0, none⟩ = some (.string a0_0) := bc_ BK186.out 0; have hcz21_1 : w19.cell? ⟨gb186, 1, none⟩ = some (.slice A0_1 l0_1.length c0_1) := bc_ BK186.out 1; have hcz21_2 : w19.cell? ⟨gb186, 2, none⟩ = some (.bool a0_2) := bc_ BK186.out 2; have hcz21_3 : w19.cell? ⟨gb186, 3, none⟩ = some (.string a0_3) := bc_ BK186.out 3; have hcz21_4 : w19.cell? ⟨gb186, 4, none⟩ = some (.slice A0_4 l0_4.length c0_4) := bc_ BK186.out 4; have hfz21_0 := blk_frozen BK186.out 0; have hfz21_1 := blk_frozen BK186.out 1; have hfz21_2 := blk_frozen BK186.out 2; have hfz21_3 := blk_frozen BK186.out 3; have hfz21_4 := blk_frozen BK186.out 4; have hcz22_0 : w19.cell? ⟨gb187, 0, none⟩ = some (.string a1_0) := bc_ BK187.out 0; have hcz22_1 : w19.cell? ⟨gb187, 1, none⟩ = some (.slice A1_1 l1_1.length c1_1) := bc_ BK187.out 1; have hcz22_2 : w19.cell? ⟨gb187, 2, none⟩ = some (.bool a1_2) := bc_ BK187.out 2; have hcz22_3 : w19.cell? ⟨gb187, 3, none⟩ = some (.string a1_3) := bc_ BK187.out 3; have hcz22_4 : w19.cell? ⟨gb187, 4, none⟩ = some (.slice A1_4 l1_4.length c1_4) := bc_ BK187.out 4; have hfz22_0 := blk_frozen BK187.out 0; have hfz22_1 := blk_frozen BK187.out 1; have hfz22_2 := blk_frozen BK187.out 2; have hfz22_3 := blk_frozen BK187.out 3; have hfz22_4 := blk_frozen BK187.out 4) | ((with_reducible refine gate_callee (f := 78) rfl ?_); refine goesL_ (some 14) rfl rfl Try.func78 (by kernel_rfl) rfl #[.slice A0_1 l0_1.length c0_1, .slice A1_1 l1_1.length c1_1] rfl nc_ ?_; (with_reducible refine (laws_eqPromiseS.calls k _ _ l0_1 _ _ l1_1 true _ ?side1 ?side2 ?side3 ?side4 A4.out).mono ?_); (case side1 => exact kc_ (Kd.C_below HR0_1.out HB.out)); (case side2 => exact HC0_1.out); (case side3 => exact kc_ (Kd.C_below HR1_1.out HB.out)); (case side4 => exact HC1_1.out); rintro e w23 ⟨rfl, hb⟩; refine ⟨_, rfl, ?_⟩; replace BK186 := bb_ BK186 hb; replace BK187 := bb_ BK187 hb; replace HB := Aside0.mk (below_step bl_ hb); clear hb; have hcz24_0 : w23.cell? ⟨gb186, 0, none⟩ = some (.string a0_0) := bc_ BK186.out 0; have hcz24_1 : w23.cell? ⟨gb186, 1, none⟩ = some (.slice A0_1 l0_1.length c0_1) := bc_ BK186.out 1; have hcz24_2 : w23.cell? ⟨gb186, 2, none⟩ = some (.bool a0_2) := bc_ BK186.out 2; have hcz24_3 : w23.cell? ⟨gb186, 3, none⟩ = some (.string a0_3) := bc_ BK186.out 3; have hcz24_4 : w23.cell? ⟨gb186, 4, none⟩ = some (.slice A0_4 l0_4.length c0_4) := bc_ BK186.out 4; have hfz24_0 := blk_frozen BK186.out 0; have hfz24_1 := blk_frozen BK186.out 1; have hfz24_2 := blk_frozen BK186.out 2; have hfz24_3 := blk_frozen BK186.out 3; have hfz24_4 := blk_frozen BK186.out 4; have hcz25_0 : w23.cell? ⟨gb187, 0, none⟩ = some (.string a1_0) := bc_ BK187.out 0; have hcz25_1 : w23.cell? ⟨gb187, 1, none⟩ = some (.slice A1_1 l1_1.length c1_1) := bc_ BK187.out 1; have hcz25_2 : w23.cell? ⟨gb187, 2, none⟩ = some (.bool a1_2) := bc_ BK187.out 2; have hcz25_3 : w23.cell? ⟨gb187, 3, none⟩ = some (.string a1_3) := bc_ BK187.out 3; have hcz25_4 : w23.cell? ⟨gb187, 4, none⟩ = some (.slice A1_4 l1_4.length c1_4) := bc_ BK187.out 4; have hfz25_0 := blk_frozen BK187.out 0; have hfz25_1 := blk_frozen BK187.out 1; have hfz25_2 := blk_frozen BK187.out 2; have hfz25_3 := blk_frozen BK187.out 3; have hfz25_4 := blk_frozen BK187.out 4) | ((with_reducible refine gate_callee (f := 79) rfl ?_); refine goesL_ (some 30) rfl rfl Try.func79 (by kernel_rfl) rfl #[.slice A0_4 l0_4.length c0_4, .slice A1_4 l1_4.length c1_4] rfl nc_ ?_; (with_reducible refine (laws_eqIntS.calls k _ _ l0_4 _ _ l1_4 true _ ?side1 ?side2 ?side3 ?side4 A16.out).mono ?_); (case side1 => exact kc_ (Kd.C_below HR0_4.out HB.out)); (case side2 => exact HC0_4.out); (case side3 => exact kc_ (Kd.C_below HR1_4.out HB.out)); (case side4 => exact HC1_4.out); rintro e w' ⟨rfl, ⟨nd, rfl⟩⟩; refine ⟨_, rfl, ?_⟩))
  go_ret
  exact ⟨ng_, bl_⟩
 replace c17 := Bool.eq_false_iff.mpr c17
 subst c17
 have H1 : (some false) = some r := by rw [if_neg (show ¬ (false = true) by decide)] at H; exact H
 clear H
 have H := H1
 clear H1
 obtain rfl := Option.some.inj H
 go_enter Try.func58, Try.ntmps58
 go_wp2_with (first | ((with_reducible refine gate_dst (N := 2) rfl ?_); refine box_event rfl (N := 2) rfl (cs := #[.string a0_0, .slice A0_1 l0_1.length c0_1, .bool a0_2, .string a0_3, .slice A0_4 l0_4.length c0_4]) (t := 54) gs_ ?_; intro gb186 hg w26 hbox hb; have BK186 := Aside0.mk (hbox); have GW186 := Aside0.mk ((by rw [hg]; exact bz_ : w.heap.size ≤ gb186)); have GE186 := GW186; replace HB := Aside0.mk (below_step bl_ hb); clear hb hbox hg) | ((with_reducible refine gate_dst (N := 3) rfl ?_); refine box_event rfl (N := 3) rfl (cs := #[.string a1_0, .slice A1_1 l1_1.length c1_1, .bool a1_2, .string a1_3, .slice A1_4 l1_4.length c1_4]) (t := 54) gs_ ?_; intro gb187 hg w27 hbox hb; have BK187 := Aside0.mk (hbox); have GW187 := Aside0.mk ((by rw [hg]; exact bz_ : w.heap.size ≤ gb187)); have GE187 := GW187; replace HB := Aside0.mk (below_step bl_ hb); have NB186_187 := nl_ hg BK186; have NB187_186 := nm_ hg BK186; replace BK186 := bb_ BK186 hb; clear hb hbox hg; have hnb28 := NB186_187.out; have hnc28 := NB187_186.out; have hcz29_0 : w27.cell? ⟨gb186, 0, none⟩ = some (.string a0_0) := bc_ BK186.out 0; have hcz29_1 : w27.cell? ⟨gb186, 1, none⟩ = some (.slice A0_1 l0_1.length c0_1) := bc_ BK186.out 1; have hcz29_2 : w27.cell? ⟨gb186, 2, none⟩ = some (.bool a0_2) := bc_ BK186.out 2; have hcz29_3 : w27.cell? ⟨gb186, 3, none⟩ = some (.string a0_3) := bc_ BK186.out 3; have hcz29_4 : w27.cell? ⟨gb186, 4, none⟩ = some (.slice A0_4 l0_4.length c0_4) := bc_ BK186.out 4; have hfz29_0 := blk_frozen BK186.out 0; have hfz29_1 := blk_frozen BK186.out 1; have hfz29_2 := blk_frozen BK186.out 2; have hfz29_3 := blk_frozen BK186.out 3; have hfz29_4 := blk_frozen BK186.out 4; have hcz30_0 : w27.cell? ⟨gb187, 0, none⟩ = some (.string a1_0) := bc_ BK187.out 0; have hcz30_1 : w27.cell? ⟨gb187, 1, none⟩ = some (.slice A1_1 l1_1.length c1_1) := bc_ BK187.out 1; have hcz30_2 : w27.cell? ⟨gb187, 2, none⟩ = some (.bool a1_2) := bc_ BK187.out 2; have hcz30_3 : w27.cell? ⟨gb187, 3, none⟩ = some (.string a1_3) := bc_ BK187.out 3; have hcz30_4 : w27.cell? ⟨gb187, 4, none⟩ = some (.slice A1_4 l1_4.length c1_4) := bc_ BK187.out 4; have hfz30_0 := blk_frozen BK187.out 0; have hfz30_1 := blk_frozen BK187.out 1; have hfz30_2 := blk_frozen BK187.out 2; have hfz30_3 := blk_frozen BK187.out 3; have hfz30_4 := blk_frozen BK187.out 4) | ((with_reducible refine gate_callee (f := 78) rfl ?_); refine goesL_ (some 14) rfl rfl Try.func78 (by kernel_rfl) rfl #[.slice A0_1 l0_1.length c0_1, .slice A1_1 l1_1.length c1_1] rfl nc_ ?_; (with_reducible refine (laws_eqPromiseS.calls k _ _ l0_1 _ _ l1_1 true _ ?side1 ?side2 ?side3 ?side4 A4.out).mono ?_); (case side1 => exact kc_ (Kd.C_below HR0_1.out HB.out)); (case side2 => exact HC0_1.out); (case side3 => exact kc_ (Kd.C_below HR1_1.out HB.out)); (case side4 => exact HC1_1.out); rintro e w31 ⟨rfl, hb⟩; refine ⟨_, rfl, ?_⟩; replace BK186 := bb_ BK186 hb; replace BK187 := bb_ BK187 hb; replace HB := Aside0.mk (below_step bl_ hb); clear hb; have hcz32_0 : w31.cell? ⟨gb186, 0, none⟩ = some (.string a0_0) := bc_ BK186.out 0; have hcz32_1 : w31.cell? ⟨gb186, 1, none⟩ = some (.slice A0_1 l0_1.length c0_1) := bc_ BK186.out 1; have hcz32_2 : w31.cell? ⟨gb186, 2, none⟩ = some (.bool a0_2) := bc_ BK186.out 2; have hcz32_3 : w31.cell? ⟨gb186, 3, none⟩ = some (.string a0_3) := bc_ BK186.out 3; have hcz32_4 : w31.cell? ⟨gb186, 4, none⟩ = some (.slice A0_4 l0_4.length c0_4) := bc_ BK186.out 4; have hfz32_0 := blk_frozen BK186.out 0; have hfz32_1 := blk_frozen BK186.out 1; have hfz32_2 := blk_frozen BK186.out 2; have hfz32_3 := blk_frozen BK186.out 3; have hfz32_4 := blk_frozen BK186.out 4; have hcz33_0 : w31.cell? ⟨gb187, 0, none⟩ = some (.string a1_0) := bc_ BK187.out 0; have hcz33_1 : w31.cell? ⟨gb187, 1, none⟩ = some (.slice A1_1 l1_1.length c1_1) := bc_ BK187.out 1; have hcz33_2 : w31.cell? ⟨gb187, 2, none⟩ = some (.bool a1_2) := bc_ BK187.out 2; have hcz33_3 : w31.cell? ⟨gb187, 3, none⟩ = some (.string a1_3) := bc_ BK187.out 3; have hcz33_4 : w31.cell? ⟨gb187, 4, none⟩ = some (.slice A1_4 l1_4.length c1_4) := bc_ BK187.out 4; have hfz33_0 := blk_frozen BK187.out 0; have hfz33_1 := blk_frozen BK187.out 1; have hfz33_2 := blk_frozen BK187.out 2; have hfz33_3 := blk_frozen BK187.out 3; have hfz33_4 := blk_frozen BK187.out 4) | ((with_reducible refine gate_callee (f := 79) rfl ?_); refine goesL_ (some 30) rfl rfl Try.func79 (by kernel_rfl) rfl #[.slice A0_4 l0_4.length c0_4, .slice A1_4 l1_4.length c1_4] rfl nc_ ?_; (with_reducible refine (laws_eqIntS.calls k _ _ l0_4 _ _ l1_4 false _ ?side1 ?side2 ?side3 ?side4 A16.out).mono ?_); (case side1 => exact kc_ (Kd.C_below HR0_4.out HB.out)); (case side2 => exact HC0_4.out); (case side3 => exact kc_ (Kd.C_below HR1_4.out HB.out)); (case side4 => exact HC1_4.out); rintro e w' ⟨rfl, ⟨nd, rfl⟩⟩; refine ⟨_, rfl, ?_⟩))
 go_ret
 exact ⟨ng_, bl_⟩

/-! ### laws_eqProposerS: function 34 -/
def laws_eqProposerS.l0 : Nat → List (S54) → List (S54) → Int → Option (Bool)
 | 0, _, _, _ => none
 | k + 1, x0, x1, x5 => if x5 < (x0.length : Int) then (if 0 ≤ x5 then (if x5 < (x1.length : Int) then ((laws_eqProposer.f k ((rd_T54 x0 x5).f0) ((rd_T54 x0 x5).f1) ((rd_T54 x0 x5).f2) ((rd_T54 x0 x5).f3) ((rd_T54 x0 x5).f4) ((rd_T54 x1 x5).f0) ((rd_T54 x1 x5).f1) ((rd_T54 x1 x5).f2) ((rd_T54 x1 x5).f3) ((rd_T54 x1 x5).f4)).bind fun t192 => (if t192 = true then (laws_eqProposerS.l0 k x0 x1 (wrap64 (x5 + 1))) else (some false))) else (none)) else (none)) else (some true)
def laws_eqProposerS.f (k : Nat) (l0 : List (S54)) (l1 : List (S54)) : Option (Bool) := if (l0.length : Int) = (l1.length : Int) then (laws_eqProposerS.l0 k l0 l1 0) else (some false)
theorem laws_eqProposerS.mono_l : ∀ k, (∀ y0 y1 y2, LeO (laws_eqProposerS.l0 k y0 y1 y2) (laws_eqProposerS.l0 (k + 1) y0 y1 y2))
 | 0 => fun _ _ _ r h => by simp [laws_eqProposerS.l0] at h
 | k + 1 => by
  have ih0 := laws_eqProposerS.mono_l k
  ·intro y0 y1 y2
   unfold laws_eqProposerS.l0
   repeat' first
   | (with_reducible exact ih0 _ _ _)
   | (with_reducible exact laws_eqProposer.mono _ _ _ _ _ _ _ _ _ _ _)
   | (with_reducible exact LeO.refl _)
   | (with_reducible exact LeO.none _)
   | (with_reducible refine LeO.ite ?_ ?_)
   | (with_reducible refine LeO.bind ?_ (fun _ => ?_))
   | exact ih0 _ _ _
   | exact laws_eqProposer.mono _ _ _ _ _ _ _ _ _ _ _
   | exact LeO.none _
   | refine LeO.ite ?_ ?_
   | refine LeO.bind ?_ (fun _ => ?_)
theorem laws_eqProposerS.mono : ∀ a0 a1 k, LeO (laws_eqProposerS.f k a0 a1) (laws_eqProposerS.f (k + 1) a0 a1) := by
 intro a0 a1 k
 have ih0 := laws_eqProposerS.mono_l k
 unfold laws_eqProposerS.f
 repeat' first
   | (with_reducible exact ih0 _ _ _)
   | (with_reducible exact laws_eqProposer.mono _ _ _ _ _ _ _ _ _ _ _)
   | (with_reducible exact LeO.refl _)
   | (with_reducible exact LeO.none _)
   | (with_reducible refine LeO.ite ?_ ?_)
   | (with_reducible refine LeO.bind ?_ (fun _ => ?_))
   | exact ih0 _ _ _
   | exact laws_eqProposer.mono _ _ _ _ _ _ _ _ _ _ _
   | exact LeO.none _
   | refine LeO.ite ?_ ?_
   | refine LeO.bind ?_ (fun _ => ?_)
def laws_eqProposerS.T6 : Bool × List (List Nat × List Nat) := (true, [([], []), ([], []), ([0, 1], [0, 1]), ([2], [2]), ([], []), ([], []), ([4, 5], [4, 5]), ([6], [6]), ([3, 7], [3, 7]), ([8], [8])])
def laws_eqProposerS.B6 : List Nat := [0, 0, 3, 7, 0, 0, 48, 112, 255, 511]
theorem laws_eqProposerS.tab6 : rtab .any (opsOf Try.f34 6) = laws_eqProposerS.T6 := by kernel_rfl
theorem laws_eqProposerS.bits6 : waitsOk laws_eqProposerS.T6.2 laws_eqProposerS.B6 = true := by kernel_rfl
set_option maxHeartbeats 8000000 in
set_option maxRecDepth 100000 in
theorem laws_eqProposerS.calls (k : Nat) (A0 : Option Addr) (c0 : Nat) (l0 : List (S54)) (A1 : Option Addr) (c1 : Nat) (l1 : List (S54)) (r : Bool) (w : World) (hr0 : Kd.C k54 w A0 l0.length l0) (hc0 : l0.length ≤ c0) (hr1 : Kd.C k54 w A1 l1.length l1) (hc1 : l1.length ≤ c1) (h : laws_eqProposerS.f k l0 l1 = some r) :
  Calls Try.prog 34 #[.slice A0 l0.length c0, .slice A1 l1.length c1] w fun e w' => e = .returned (.bool r) ∧ Below w.heap.size w w' := by
 have hu54 := Try.underlying54
 have HR0 := Aside0.mk hr0
 have HC0 := Aside0.mk hc0
 clear hr0 hc0
 have HR1 := Aside0.mk hr1
 have HC1 := Aside0.mk hc1
 clear hr1 hc1
 have HB := Aside0.mk (Below.refl w.heap.size w)
 have H : (if (l0.length : Int) = (l1.length : Int) then (laws_eqProposerS.l0 k l0 l1 0) else (some false)) = some r := h
 clear h
 by_cases c3 : (l0.length : Int) = (l1.length : Int)
 rotate_left
 ·rw [if_neg c3] at H
  have c3b0 : ((l0.length : Int) == (l1.length : Int)) = false := beq_eq_false_iff_ne.mpr c3
  have c3b1 : ((l0.length : Int) != (l1.length : Int)) = true := bne_iff_ne.mpr c3
  have c3b2 : (l0.length == l1.length) = false := by first | simpa using c3 | (simp at c3 ⊢; omega)
  obtain rfl := Option.some.inj H
  go_enter Try.func34, Try.ntmps34
  go_wp2
  go_ret
  exact ⟨ng_, bl_⟩
 rw [if_pos c3] at H
 have c3b0 : ((l0.length : Int) == (l1.length : Int)) = true := beq_iff_eq.mpr c3
 have c3b1 : ((l0.length : Int) != (l1.length : Int)) = false := bne_eq_false_iff_eq.mpr c3
 have c3b2 : (l0.length == l1.length) = true := by first | simpa using c3 | (simp at c3 ⊢; omega)
 clear c3
 have H' := Aside0.mk H
 clear H
 go_enter Try.func34, Try.ntmps34
 go_wp2
 go_loopg [5] k (fun kq v5 w' => ∃ (x5_1 : Int), v5 = .int .i64 x5_1 ∧ Aside0 (laws_eqProposerS.l0 kq l0 l1 x5_1 = some r) ∧ Aside0 (kq ≤ k) ∧ Aside0 (Below w.heap.size w w'))
 case atStart => exact ⟨(0), (by first | rfl | (simp; done) | (simp [*]; done)), H', ⟨Nat.le_refl _⟩, ⟨bl_⟩⟩
 clear H'
 try clear c1
 try clear p2
 try clear c3
 try clear c3b0
 try clear c3b1
 try clear c3b2
 obtain ⟨x5_1, rfl, HA, HK1, HB⟩ := hrel
 cases gk with
 | zero => exact absurd HA.out (by simp [laws_eqProposerS.l0])
 | succ k1 => ?_
 have H := HA.out
 clear HA
 simp only [laws_eqProposerS.l0] at H
 by_cases c4 : x5_1 < (l0.length : Int)
 rotate_left
 ·rw [if_neg c4] at H
  have c4b0 : decide (x5_1 < (l0.length : Int)) = false := decide_eq_false c4
  clear c4
  obtain rfl := Option.some.inj H
  go_wp2
  go_ret
  exact ⟨ng_, bl_⟩
 rw [if_pos c4] at H
 have c4b0 : decide (x5_1 < (l0.length : Int)) = true := decide_eq_true c4
 clear c4
 by_cases c5 : 0 ≤ x5_1
 rotate_left
 ·rw [if_neg c5] at H
  exact absurd H (by simp)
 rw [if_pos c5] at H
 have c5b0 : decide (0 ≤ x5_1) = true := decide_eq_true c5
 clear c5
 by_cases c6 : x5_1 < (l1.length : Int)
 rotate_left
 ·rw [if_neg c6] at H
  exact absurd H (by simp)
 rw [if_pos c6] at H
 have c6b0 : decide (x5_1 < (l1.length : Int)) = true := decide_eq_true c6
 clear c6
 replace H := Option.bind_eq_some_iff.mp H
 obtain ⟨t192, A70, H⟩ := H
 replace H : (if t192 = true then (laws_eqProposerS.l0 k1 l0 l1 (wrap64 (x5_1 + 1))) else (some false)) = some r := H
 have A7 := Aside0.mk A70
 clear A70
 by_cases c8 : t192 = true
 rotate_left
 ·replace c8 := Bool.eq_false_iff.mpr c8
  subst c8
  have H1 : (some false) = some r := by rw [if_neg (show ¬ (false = true) by decide)] at H; exact H
  clear H
  have H := H1
  clear H1
  obtain rfl := Option.some.inj H
  try go_wp2
  replace HB := Aside0.mk (below_drew1 HB.out)
  have p190 : 0 ≤ (x5_1 : Int) := of_decide_eq_true (by first | (with_reducible assumption) | assumption)
  have q190 : x5_1 < (l0.length : Int) := of_decide_eq_true (by first | (with_reducible assumption) | assumption)
  obtain ⟨ad190, A190_1, c190_1, A190_4, c190_4, e190, hx190_0, hx190_1, hx190_2, hx190_3, hx190_4, hl190_1, hi190_1, hl190_4, hi190_4⟩ := at_T54 HR0.out x5_1 p190 q190
  have hw190_4 := hx190_4
  have hw190_3 := hx190_3
  have hw190_2 := hx190_2
  have hw190_1 := hx190_1
  have hw190_0 := hx190_0
  cases e190
  replace hx190_0 := (HB.out.cell (World.block_lt_of_cell? w _ hx190_0)).trans hx190_0
  replace hx190_1 := (HB.out.cell (World.block_lt_of_cell? w _ hx190_1)).trans hx190_1
  replace hx190_2 := (HB.out.cell (World.block_lt_of_cell? w _ hx190_2)).trans hx190_2
  replace hx190_3 := (HB.out.cell (World.block_lt_of_cell? w _ hx190_3)).trans hx190_3
  replace hx190_4 := (HB.out.cell (World.block_lt_of_cell? w _ hx190_4)).trans hx190_4
  have HR190_1 := Aside0.mk hi190_1
  have HC190_1 := Aside0.mk hl190_1
  clear hi190_1 hl190_1
  have HR190_4 := Aside0.mk hi190_4
  have HC190_4 := Aside0.mk hl190_4
  clear hi190_4 hl190_4
  replace p190 := eq_true p190
  replace q190 := eq_true q190
  have p191 : 0 ≤ (x5_1 : Int) := of_decide_eq_true (by first | (with_reducible assumption) | assumption)
  have q191 : x5_1 < (l1.length : Int) := of_decide_eq_true (by first | (with_reducible assumption) | assumption)
  obtain ⟨ad191, A191_1, c191_1, A191_4, c191_4, e191, hx191_0, hx191_1, hx191_2, hx191_3, hx191_4, hl191_1, hi191_1, hl191_4, hi191_4⟩ := at_T54 HR1.out x5_1 p191 q191
  have hw191_4 := hx191_4
  have hw191_3 := hx191_3
  have hw191_2 := hx191_2
  have hw191_1 := hx191_1
  have hw191_0 := hx191_0
  cases e191
  replace hx191_0 := (HB.out.cell (World.block_lt_of_cell? w _ hx191_0)).trans hx191_0
  replace hx191_1 := (HB.out.cell (World.block_lt_of_cell? w _ hx191_1)).trans hx191_1
  replace hx191_2 := (HB.out.cell (World.block_lt_of_cell? w _ hx191_2)).trans hx191_2
  replace hx191_3 := (HB.out.cell (World.block_lt_of_cell? w _ hx191_3)).trans hx191_3
  replace hx191_4 := (HB.out.cell (World.block_lt_of_cell? w _ hx191_4)).trans hx191_4
  have HR191_1 := Aside0.mk hi191_1
  have HC191_1 := Aside0.mk hl191_1
  clear hi191_1 hl191_1
  have HR191_4 := Aside0.mk hi191_4
  have HC191_4 := Aside0.mk hl191_4
  clear hi191_4 hl191_4
  replace p191 := eq_true p191
  replace q191 := eq_true q191
  refine start_ (n := 10) (S := fun w' => w'.cell? (ad190.add ((x5_1).toNat * 5)) = some (.string ((rd_T54 l0 x5_1).f0)) ∧ w'.cell? ⟨(ad190.add ((x5_1).toNat * 5)).block, (ad190.add ((x5_1).toNat * 5)).off + 1, none⟩ = some (.slice A190_1 ((rd_T54 l0 x5_1).f1).length c190_1) ∧ w'.cell? ⟨(ad190.add ((x5_1).toNat * 5)).block, (ad190.add ((x5_1).toNat * 5)).off + 2, none⟩ = some (.bool ((rd_T54 l0 x5_1).f2)) ∧ w'.cell? ⟨(ad190.add ((x5_1).toNat * 5)).block, (ad190.add ((x5_1).toNat * 5)).off + 3, none⟩ = some (.string ((rd_T54 l0 x5_1).f3)) ∧ w'.cell? ⟨(ad190.add ((x5_1).toNat * 5)).block, (ad190.add ((x5_1).toNat * 5)).off + 4, none⟩ = some (.slice A190_4 ((rd_T54 l0 x5_1).f4).length c190_4) ∧ w'.cell? (ad191.add ((x5_1).toNat * 5)) = some (.string ((rd_T54 l1 x5_1).f0)) ∧ w'.cell? ⟨(ad191.add ((x5_1).toNat * 5)).block, (ad191.add ((x5_1).toNat * 5)).off + 1, none⟩ = some (.slice A191_1 ((rd_T54 l1 x5_1).f1).length c191_1) ∧ w'.cell? ⟨(ad191.add ((x5_1).toNat * 5)).block, (ad191.add ((x5_1).toNat * 5)).off + 2, none⟩ = some (.bool ((rd_T54 l1 x5_1).f2)) ∧ w'.cell? ⟨(ad191.add ((x5_1).toNat * 5)).block, (ad191.add ((x5_1).toNat * 5)).off + 3, none⟩ = some (.string ((rd_T54 l1 x5_1).f3)) ∧ w'.cell? ⟨(ad191.add ((x5_1).toNat * 5)).block, (ad191.add ((x5_1).toNat * 5)).off + 4, none⟩ = some (.slice A191_4 ((rd_T54 l1 x5_1).f4).length c191_4)) (ds := []) #[false, false, false, false, false, false, false, false, false, false] (by kernel_rfl) rfl rfl ⟨((HB.out.cell (World.block_lt_of_cell? w _ hw190_0)).trans hw190_0), ((HB.out.cell (World.block_lt_of_cell? w _ hw190_1)).trans hw190_1), ((HB.out.cell (World.block_lt_of_cell? w _ hw190_2)).trans hw190_2), ((HB.out.cell (World.block_lt_of_cell? w _ hw190_3)).trans hw190_3), ((HB.out.cell (World.block_lt_of_cell? w _ hw190_4)).trans hw190_4), ((HB.out.cell (World.block_lt_of_cell? w _ hw191_0)).trans hw191_0), ((HB.out.cell (World.block_lt_of_cell? w _ hw191_1)).trans hw191_1), ((HB.out.cell (World.block_lt_of_cell? w _ hw191_2)).trans hw191_2), ((HB.out.cell (World.block_lt_of_cell? w _ hw191_3)).trans hw191_3), ((HB.out.cell (World.block_lt_of_cell? w _ hw191_4)).trans hw191_4)⟩ (fun hHeld => ?_); refine with_tabW laws_eqProposerS.tab6 laws_eqProposerS.bits6 (fun HT_ HW_ => ?_)
  generalize wr.drew = w11 at HB HR190_1 HR190_4 HR191_1 HR191_4 hx190_0 hx190_1 hx190_2 hx190_3 hx190_4 hx191_0 hx191_1 hx191_2 hx191_3 hx191_4 hHeld ⊢
  refine pu_ 0 (some 17) (h := ?_)
  refine pu_ 1 (some 18) (h := ?_)
  refine pu_ 2 (some 19) (h := ?_)
  refine pu_ 4 (some 21) (h := ?_)
  refine pu_ 5 (some 22) (h := ?_)
  refine pu_ 6 (some 23) (h := ?_)
  refine tk10_ 3 (some 20) (h := ?_)
  refine tk10_ 7 (some 24) (h := ?_)
  refine on_ 8 (some 25) (h := fun K hK => ?_)
  refine goes_ Try.func58 (by kernel_rfl) rfl #[.agg #[.string ((rd_T54 l0 x5_1).f0), .slice A190_1 ((rd_T54 l0 x5_1).f1).length c190_1, .bool ((rd_T54 l0 x5_1).f2), .string ((rd_T54 l0 x5_1).f3), .slice A190_4 ((rd_T54 l0 x5_1).f4).length c190_4], .agg #[.string ((rd_T54 l1 x5_1).f0), .slice A191_1 ((rd_T54 l1 x5_1).f1).length c191_1, .bool ((rd_T54 l1 x5_1).f2), .string ((rd_T54 l1 x5_1).f3), .slice A191_4 ((rd_T54 l1 x5_1).f4).length c191_4]] (by rfl) rfl rfl nc_ ?_
  with_reducible refine (laws_eqProposer.calls k1 ((rd_T54 l0 x5_1).f0) _ _ ((rd_T54 l0 x5_1).f1) ((rd_T54 l0 x5_1).f2) ((rd_T54 l0 x5_1).f3) _ _ ((rd_T54 l0 x5_1).f4) ((rd_T54 l1 x5_1).f0) _ _ ((rd_T54 l1 x5_1).f1) ((rd_T54 l1 x5_1).f2) ((rd_T54 l1 x5_1).f3) _ _ ((rd_T54 l1 x5_1).f4) false _ ?side1 ?side2 ?side3 ?side4 ?side5 ?side6 ?side7 ?side8 A7.out).mono ?_
  (case side1 => exact kc_ (Kd.C_below HR190_1.out HB.out))
  (case side2 => exact HC190_1.out)
  (case side3 => exact kc_ (Kd.C_below HR190_4.out HB.out))
  (case side4 => exact HC190_4.out)
  (case side5 => exact kc_ (Kd.C_below HR191_1.out HB.out))
  (case side6 => exact HC191_1.out)
  (case side7 => exact kc_ (Kd.C_below HR191_4.out HB.out))
  (case side8 => exact HC191_4.out)
  rintro e w12 ⟨rfl, hb⟩
  refine ⟨_, rfl, ?_⟩
  replace HB := Aside0.mk (below_step bl_ hb)
  clear hb
  refine hK.out _ _ ⟨((HB.out.cell (World.block_lt_of_cell? w _ hw190_0)).trans hw190_0), ((HB.out.cell (World.block_lt_of_cell? w _ hw190_1)).trans hw190_1), ((HB.out.cell (World.block_lt_of_cell? w _ hw190_2)).trans hw190_2), ((HB.out.cell (World.block_lt_of_cell? w _ hw190_3)).trans hw190_3), ((HB.out.cell (World.block_lt_of_cell? w _ hw190_4)).trans hw190_4), ((HB.out.cell (World.block_lt_of_cell? w _ hw191_0)).trans hw191_0), ((HB.out.cell (World.block_lt_of_cell? w _ hw191_1)).trans hw191_1), ((HB.out.cell (World.block_lt_of_cell? w _ hw191_2)).trans hw191_2), ((HB.out.cell (World.block_lt_of_cell? w _ hw191_3)).trans hw191_3), ((HB.out.cell (World.block_lt_of_cell? w _ hw191_4)).trans hw191_4)⟩ (fun hHeld => ?_)
  clear hK K
  refine norm_ nn_ ?_
  refine pu_ 9 (some 26) (h := ?_)
  refine done_ (done_of HT_.out (by kernel_rfl)) ?_
  try go_wp2
  go_ret
  exact ⟨ng_, bl_⟩
 subst c8
 have H1 : (laws_eqProposerS.l0 k1 l0 l1 (wrap64 (x5_1 + 1))) = some r := by rw [if_pos rfl] at H; exact H
 clear H
 have H := H1
 clear H1
 have H' := Aside0.mk H
 clear H
 try go_wp2
 replace HB := Aside0.mk (below_drew1 HB.out)
 have p190 : 0 ≤ (x5_1 : Int) := of_decide_eq_true (by first | (with_reducible assumption) | assumption)
 have q190 : x5_1 < (l0.length : Int) := of_decide_eq_true (by first | (with_reducible assumption) | assumption)
 obtain ⟨ad190, A190_1, c190_1, A190_4, c190_4, e190, hx190_0, hx190_1, hx190_2, hx190_3, hx190_4, hl190_1, hi190_1, hl190_4, hi190_4⟩ := at_T54 HR0.out x5_1 p190 q190
 have hw190_4 := hx190_4
 have hw190_3 := hx190_3
 have hw190_2 := hx190_2
 have hw190_1 := hx190_1
 have hw190_0 := hx190_0
 cases e190
 replace hx190_0 := (HB.out.cell (World.block_lt_of_cell? w _ hx190_0)).trans hx190_0
 replace hx190_1 := (HB.out.cell (World.block_lt_of_cell? w _ hx190_1)).trans hx190_1
 replace hx190_2 := (HB.out.cell (World.block_lt_of_cell? w _ hx190_2)).trans hx190_2
 replace hx190_3 := (HB.out.cell (World.block_lt_of_cell? w _ hx190_3)).trans hx190_3
 replace hx190_4 := (HB.out.cell (World.block_lt_of_cell? w _ hx190_4)).trans hx190_4
 have HR190_1 := Aside0.mk hi190_1
 have HC190_1 := Aside0.mk hl190_1
 clear hi190_1 hl190_1
 have HR190_4 := Aside0.mk hi190_4
 have HC190_4 := Aside0.mk hl190_4
 clear hi190_4 hl190_4
 replace p190 := eq_true p190
 replace q190 := eq_true q190
 have p191 : 0 ≤ (x5_1 : Int) := of_decide_eq_true (by first | (with_reducible assumption) | assumption)
 have q191 : x5_1 < (l1.length : Int) := of_decide_eq_true (by first | (with_reducible assumption) | assumption)
 obtain ⟨ad191, A191_1, c191_1, A191_4, c191_4, e191, hx191_0, hx191_1, hx191_2, hx191_3, hx191_4, hl191_1, hi191_1, hl191_4, hi191_4⟩ := at_T54 HR1.out x5_1 p191 q191
 have hw191_4 := hx191_4
 have hw191_3 := hx191_3
 have hw191_2 := hx191_2
 have hw191_1 := hx191_1
 have hw191_0 := hx191_0
 cases e191
 replace hx191_0 := (HB.out.cell (World.block_lt_of_cell? w _ hx191_0)).trans hx191_0
 replace hx191_1 := (HB.out.cell (World.block_lt_of_cell? w _ hx191_1)).trans hx191_1
 replace hx191_2 := (HB.out.cell (World.block_lt_of_cell? w _ hx191_2)).trans hx191_2
 replace hx191_3 := (HB.out.cell (World.block_lt_of_cell? w _ hx191_3)).trans hx191_3
 replace hx191_4 := (HB.out.cell (World.block_lt_of_cell? w _ hx191_4)).trans hx191_4
 have HR191_1 := Aside0.mk hi191_1
 have HC191_1 := Aside0.mk hl191_1
 clear hi191_1 hl191_1
 have HR191_4 := Aside0.mk hi191_4
 have HC191_4 := Aside0.mk hl191_4
 clear hi191_4 hl191_4
 replace p191 := eq_true p191
 replace q191 := eq_true q191
 refine start_ (n := 10) (S := fun w' => w'.cell? (ad190.add ((x5_1).toNat * 5)) = some (.string ((rd_T54 l0 x5_1).f0)) ∧ w'.cell? ⟨(ad190.add ((x5_1).toNat * 5)).block, (ad190.add ((x5_1).toNat * 5)).off + 1, none⟩ = some (.slice A190_1 ((rd_T54 l0 x5_1).f1).length c190_1) ∧ w'.cell? ⟨(ad190.add ((x5_1).toNat * 5)).block, (ad190.add ((x5_1).toNat * 5)).off + 2, none⟩ = some (.bool ((rd_T54 l0 x5_1).f2)) ∧ w'.cell? ⟨(ad190.add ((x5_1).toNat * 5)).block, (ad190.add ((x5_1).toNat * 5)).off + 3, none⟩ = some (.string ((rd_T54 l0 x5_1).f3)) ∧ w'.cell? ⟨(ad190.add ((x5_1).toNat * 5)).block, (ad190.add ((x5_1).toNat * 5)).off + 4, none⟩ = some (.slice A190_4 ((rd_T54 l0 x5_1).f4).length c190_4) ∧ w'.cell? (ad191.add ((x5_1).toNat * 5)) = some (.string ((rd_T54 l1 x5_1).f0)) ∧ w'.cell? ⟨(ad191.add ((x5_1).toNat * 5)).block, (ad191.add ((x5_1).toNat * 5)).off + 1, none⟩ = some (.slice A191_1 ((rd_T54 l1 x5_1).f1).length c191_1) ∧ w'.cell? ⟨(ad191.add ((x5_1).toNat * 5)).block, (ad191.add ((x5_1).toNat * 5)).off + 2, none⟩ = some (.bool ((rd_T54 l1 x5_1).f2)) ∧ w'.cell? ⟨(ad191.add ((x5_1).toNat * 5)).block, (ad191.add ((x5_1).toNat * 5)).off + 3, none⟩ = some (.string ((rd_T54 l1 x5_1).f3)) ∧ w'.cell? ⟨(ad191.add ((x5_1).toNat * 5)).block, (ad191.add ((x5_1).toNat * 5)).off + 4, none⟩ = some (.slice A191_4 ((rd_T54 l1 x5_1).f4).length c191_4)) (ds := []) #[false, false, false, false, false, false, false, false, false, false] (by kernel_rfl) rfl rfl ⟨((HB.out.cell (World.block_lt_of_cell? w _ hw190_0)).trans hw190_0), ((HB.out.cell (World.block_lt_of_cell? w _ hw190_1)).trans hw190_1), ((HB.out.cell (World.block_lt_of_cell? w _ hw190_2)).trans hw190_2), ((HB.out.cell (World.block_lt_of_cell? w _ hw190_3)).trans hw190_3), ((HB.out.cell (World.block_lt_of_cell? w _ hw190_4)).trans hw190_4), ((HB.out.cell (World.block_lt_of_cell? w _ hw191_0)).trans hw191_0), ((HB.out.cell (World.block_lt_of_cell? w _ hw191_1)).trans hw191_1), ((HB.out.cell (World.block_lt_of_cell? w _ hw191_2)).trans hw191_2), ((HB.out.cell (World.block_lt_of_cell? w _ hw191_3)).trans hw191_3), ((HB.out.cell (World.block_lt_of_cell? w _ hw191_4)).trans hw191_4)⟩ (fun hHeld => ?_); refine with_tabW laws_eqProposerS.tab6 laws_eqProposerS.bits6 (fun HT_ HW_ => ?_)
 generalize wr.drew = w9 at HB HR190_1 HR190_4 HR191_1 HR191_4 hx190_0 hx190_1 hx190_2 hx190_3 hx190_4 hx191_0 hx191_1 hx191_2 hx191_3 hx191_4 hHeld ⊢
 refine pu_ 0 (some 17) (h := ?_)
 refine pu_ 1 (some 18) (h := ?_)
 refine pu_ 2 (some 19) (h := ?_)
 refine pu_ 4 (some 21) (h := ?_)
 refine pu_ 5 (some 22) (h := ?_)
 refine pu_ 6 (some 23) (h := ?_)
 refine tk10_ 3 (some 20) (h := ?_)
 refine tk10_ 7 (some 24) (h := ?_)
 refine on_ 8 (some 25) (h := fun K hK => ?_)
 refine goes_ Try.func58 (by kernel_rfl) rfl #[.agg #[.string ((rd_T54 l0 x5_1).f0), .slice A190_1 ((rd_T54 l0 x5_1).f1).length c190_1, .bool ((rd_T54 l0 x5_1).f2), .string ((rd_T54 l0 x5_1).f3), .slice A190_4 ((rd_T54 l0 x5_1).f4).length c190_4], .agg #[.string ((rd_T54 l1 x5_1).f0), .slice A191_1 ((rd_T54 l1 x5_1).f1).length c191_1, .bool ((rd_T54 l1 x5_1).f2), .string ((rd_T54 l1 x5_1).f3), .slice A191_4 ((rd_T54 l1 x5_1).f4).length c191_4]] (by rfl) rfl rfl nc_ ?_
 with_reducible refine (laws_eqProposer.calls k1 ((rd_T54 l0 x5_1).f0) _ _ ((rd_T54 l0 x5_1).f1) ((rd_T54 l0 x5_1).f2) ((rd_T54 l0 x5_1).f3) _ _ ((rd_T54 l0 x5_1).f4) ((rd_T54 l1 x5_1).f0) _ _ ((rd_T54 l1 x5_1).f1) ((rd_T54 l1 x5_1).f2) ((rd_T54 l1 x5_1).f3) _ _ ((rd_T54 l1 x5_1).f4) true _ ?side1 ?side2 ?side3 ?side4 ?side5 ?side6 ?side7 ?side8 A7.out).mono ?_
 (case side1 => exact kc_ (Kd.C_below HR190_1.out HB.out))
 (case side2 => exact HC190_1.out)
 (case side3 => exact kc_ (Kd.C_below HR190_4.out HB.out))
 (case side4 => exact HC190_4.out)
 (case side5 => exact kc_ (Kd.C_below HR191_1.out HB.out))
 (case side6 => exact HC191_1.out)
 (case side7 => exact kc_ (Kd.C_below HR191_4.out HB.out))
 (case side8 => exact HC191_4.out)
 rintro e w10 ⟨rfl, hb⟩
 refine ⟨_, rfl, ?_⟩
 replace HB := Aside0.mk (below_step bl_ hb)
 clear hb
 refine hK.out _ _ ⟨((HB.out.cell (World.block_lt_of_cell? w _ hw190_0)).trans hw190_0), ((HB.out.cell (World.block_lt_of_cell? w _ hw190_1)).trans hw190_1), ((HB.out.cell (World.block_lt_of_cell? w _ hw190_2)).trans hw190_2), ((HB.out.cell (World.block_lt_of_cell? w _ hw190_3)).trans hw190_3), ((HB.out.cell (World.block_lt_of_cell? w _ hw190_4)).trans hw190_4), ((HB.out.cell (World.block_lt_of_cell? w _ hw191_0)).trans hw191_0), ((HB.out.cell (World.block_lt_of_cell? w _ hw191_1)).trans hw191_1), ((HB.out.cell (World.block_lt_of_cell? w _ hw191_2)).trans hw191_2), ((HB.out.cell (World.block_lt_of_cell? w _ hw191_3)).trans hw191_3), ((HB.out.cell (World.block_lt_of_cell? w _ hw191_4)).trans hw191_4)⟩ (fun hHeld => ?_)
 clear hK K
 refine norm_ nn_ ?_
 refine pu_ 9 (some 26) (h := ?_)
 refine done_ (done_of HT_.out (by kernel_rfl)) ?_
 try go_wp2
 go_roundg k1
 case measure => have := HK1.out; omega
 case rel => exact ⟨(wrap64 (x5_1 + 1)), (by first | rfl | (simp; done) | (simp [*]; done)), H', ⟨by have := HK1.out; omega⟩, ⟨bl_⟩⟩

/-! ### laws_eqSynod: function 12 -/
def laws_eqSynod.f (k : Nat) (l0_0 : List (S70)) (l0_1 : List (S54)) (l1_0 : List (S70)) (l1_1 : List (S54)) : Option (Bool) := (laws_eqAcceptorS.f k l0_0 l1_0).bind fun t195 => (if t195 = true then ((laws_eqProposerS.f k l0_1 l1_1).bind fun t196 => (if t196 = true then (some true) else (some false))) else (some false))
theorem laws_eqSynod.mono : ∀ a0 a1 a2 a3 k, LeO (laws_eqSynod.f k a0 a1 a2 a3) (laws_eqSynod.f (k + 1) a0 a1 a2 a3) := by
 intro a0 a1 a2 a3 k
 unfold laws_eqSynod.f
 repeat' first
   | (with_reducible exact laws_eqAcceptorS.mono _ _ _)
   | (with_reducible exact laws_eqProposerS.mono _ _ _)
   | (with_reducible exact LeO.refl _)
   | (with_reducible exact LeO.none _)
   | (with_reducible refine LeO.ite ?_ ?_)
   | (with_reducible refine LeO.bind ?_ (fun _ => ?_))
   | exact laws_eqAcceptorS.mono _ _ _
   | exact laws_eqProposerS.mono _ _ _
   | exact LeO.none _
   | refine LeO.ite ?_ ?_
   | refine LeO.bind ?_ (fun _ => ?_)
set_option maxHeartbeats 8000000 in
set_option maxRecDepth 100000 in
theorem laws_eqSynod.calls (k : Nat) (A0_0 : Option Addr) (c0_0 : Nat) (l0_0 : List (S70)) (A0_1 : Option Addr) (c0_1 : Nat) (l0_1 : List (S54)) (A1_0 : Option Addr) (c1_0 : Nat) (l1_0 : List (S70)) (A1_1 : Option Addr) (c1_1 : Nat) (l1_1 : List (S54)) (r : Bool) (w : World) (hr0_0 : Kd.C k70 w A0_0 l0_0.length l0_0) (hc0_0 : l0_0.length ≤ c0_0) (hr0_1 : Kd.C k54 w A0_1 l0_1.length l0_1) (hc0_1 : l0_1.length ≤ c0_1) (hr1_0 : Kd.C k70 w A1_0 l1_0.length l1_0) (hc1_0 : l1_0.length ≤ c1_0) (hr1_1 : Kd.C k54 w A1_1 l1_1.length l1_1) (hc1_1 : l1_1.length ≤ c1_1) (h : laws_eqSynod.f k l0_0 l0_1 l1_0 l1_1 = some r) :
  Calls Try.prog 12 #[.agg #[.slice A0_0 l0_0.length c0_0, .slice A0_1 l0_1.length c0_1], .agg #[.slice A1_0 l1_0.length c1_0, .slice A1_1 l1_1.length c1_1]] w fun e w' => e = .returned (.bool r) ∧ Below w.heap.size w w' := by
 have hu33 := Try.underlying33
 have HR0_0 := Aside0.mk hr0_0
 have HC0_0 := Aside0.mk hc0_0
 clear hr0_0 hc0_0
 have HR0_1 := Aside0.mk hr0_1
 have HC0_1 := Aside0.mk hc0_1
 clear hr0_1 hc0_1
 have HR1_0 := Aside0.mk hr1_0
 have HC1_0 := Aside0.mk hc1_0
 clear hr1_0 hc1_0
 have HR1_1 := Aside0.mk hr1_1
 have HC1_1 := Aside0.mk hc1_1
 clear hr1_1 hc1_1
 have HB := Aside0.mk (Below.refl w.heap.size w)
 have H : ((laws_eqAcceptorS.f k l0_0 l1_0).bind fun t195 => (if t195 = true then ((laws_eqProposerS.f k l0_1 l1_1).bind fun t196 => (if t196 = true then (some true) else (some false))) else (some false))) = some r := h
 clear h
 replace H := Option.bind_eq_some_iff.mp H
 obtain ⟨t195, A30, H⟩ := H
 replace H : (if t195 = true then ((laws_eqProposerS.f k l0_1 l1_1).bind fun t196 => (if t196 = true then (some true) else (some false))) else (some false)) = some r := H
 have A3 := Aside0.mk A30
 clear A30
 by_cases c4 : t195 = true
 rotate_left
 ·replace c4 := Bool.eq_false_iff.mpr c4
  subst c4
  have H1 : (some false) = some r := by rw [if_neg (show ¬ (false = true) by decide)] at H; exact H
  clear H
  have H := H1
  clear H1
  obtain rfl := Option.some.inj H
  go_enter Try.func12, Try.ntmps12
  go_wp2_with (first | ((with_reducible refine gate_dst (N := 2) rfl ?_); refine box_event rfl (N := 2) rfl (cs := #[.slice A0_0 l0_0.length c0_0, .slice A0_1 l0_1.length c0_1]) (t := 33) gs_ ?_; intro gb193 hg w25 hbox hb; have BK193 := Aside0.mk (hbox); have GW193 := Aside0.mk ((by rw [hg]; exact bz_ : w.heap.size ≤ gb193)); have GE193 := GW193; replace HB := Aside0.mk (below_step bl_ hb); clear hb hbox hg) | ((with_reducible refine gate_dst (N := 3) rfl ?_); refine box_event rfl (N := 3) rfl (cs := #[.slice A1_0 l1_0.length c1_0, .slice A1_1 l1_1.length c1_1]) (t := 33) gs_ ?_; intro gb194 hg w26 hbox hb; have BK194 := Aside0.mk (hbox); have GW194 := Aside0.mk ((by rw [hg]; exact bz_ : w.heap.size ≤ gb194)); have GE194 := GW194; replace HB := Aside0.mk (below_step bl_ hb); have NB193_194 := nl_ hg BK193; have NB194_193 := nm_ hg BK193; replace BK193 := bb_ BK193 hb; clear hb hbox hg; have hnb27 := NB193_194.out; have hnc27 := NB194_193.out; have hcz28_0 : w26.cell? ⟨gb193, 0, none⟩ = some (.slice A0_0 l0_0.length c0_0) := bc_ BK193.out 0; have hcz28_1 : w26.cell? ⟨gb193, 1, none⟩ = some (.slice A0_1 l0_1.length c0_1) := bc_ BK193.out 1; have hfz28_0 := blk_frozen BK193.out 0; have hfz28_1 := blk_frozen BK193.out 1; have hcz29_0 : w26.cell? ⟨gb194, 0, none⟩ = some (.slice A1_0 l1_0.length c1_0) := bc_ BK194.out 0; have hcz29_1 : w26.cell? ⟨gb194, 1, none⟩ = some (.slice A1_1 l1_1.length c1_1) := bc_ BK194.out 1; have hfz29_0 := blk_frozen BK194.out 0; have hfz29_1 := blk_frozen BK194.out 1) | ((with_reducible refine gate_callee (f := 33) rfl ?_); refine goesL_ (some 9) rfl rfl Try.func33 (by kernel_rfl) rfl #[.slice A0_0 l0_0.length c0_0, .slice A1_0 l1_0.length c1_0] rfl nc_ ?_; (with_reducible refine (laws_eqAcceptorS.calls k _ _ l0_0 _ _ l1_0 false _ ?side1 ?side2 ?side3 ?side4 A3.out).mono ?_); (case side1 => exact kc_ (Kd.C_below HR0_0.out HB.out)); (case side2 => exact HC0_0.out); (case side3 => exact kc_ (Kd.C_below HR1_0.out HB.out)); (case side4 => exact HC1_0.out); rintro e w30 ⟨rfl, hb⟩; refine ⟨_, rfl, ?_⟩; replace BK193 := bb_ BK193 hb; replace BK194 := bb_ BK194 hb; replace HB := Aside0.mk (below_step bl_ hb); clear hb))
  go_ret
  exact ⟨ng_, bl_⟩
 subst c4
 have H1 : ((laws_eqProposerS.f k l0_1 l1_1).bind fun t196 => (if t196 = true then (some true) else (some false))) = some r := by rw [if_pos rfl] at H; exact H
 clear H
 have H := H1
 clear H1
 replace H := Option.bind_eq_some_iff.mp H
 obtain ⟨t196, A50, H⟩ := H
 replace H : (if t196 = true then (some true) else (some false)) = some r := H
 have A5 := Aside0.mk A50
 clear A50
 by_cases c6 : t196 = true
 ·subst c6
  have H1 : (some true) = some r := by rw [if_pos rfl] at H; exact H
  clear H
  have H := H1
  clear H1
  obtain rfl := Option.some.inj H
  go_enter Try.func12, Try.ntmps12
  go_wp2_with (first | ((with_reducible refine gate_dst (N := 2) rfl ?_); refine box_event rfl (N := 2) rfl (cs := #[.slice A0_0 l0_0.length c0_0, .slice A0_1 l0_1.length c0_1]) (t := 33) gs_ ?_; intro gb193 hg w7 hbox hb; have BK193 := Aside0.mk (hbox); have GW193 := Aside0.mk ((by rw [hg]; exact bz_ : w.heap.size ≤ gb193)); have GE193 := GW193; replace HB := Aside0.mk (below_step bl_ hb); clear hb hbox hg) | ((with_reducible refine gate_dst (N := 3) rfl ?_); refine box_event rfl (N := 3) rfl (cs := #[.slice A1_0 l1_0.length c1_0, .slice A1_1 l1_1.length c1_1]) (t := 33) gs_ ?_; intro gb194 hg w8 hbox hb; have BK194 := Aside0.mk (hbox); have GW194 := Aside0.mk ((by rw [hg]; exact bz_ : w.heap.size ≤ gb194)); have GE194 := GW194; replace HB := Aside0.mk (below_step bl_ hb); have NB193_194 := nl_ hg BK193; have NB194_193 := nm_ hg BK193; replace BK193 := bb_ BK193 hb; clear hb hbox hg; have hnb9 := NB193_194.out; have hnc9 := NB194_193.out; have hcz10_0 : w8.cell? ⟨gb193, 0, none⟩ = some (.slice A0_0 l0_0.length c0_0) := bc_ BK193.out 0; have hcz10_1 : w8.cell? ⟨gb193, 1, none⟩ = some (.slice A0_1 l0_1.length c0_1) := bc_ BK193.out 1; have hfz10_0 := blk_frozen BK193.out 0; have hfz10_1 := blk_frozen BK193.out 1; have hcz11_0 : w8.cell? ⟨gb194, 0, none⟩ = some (.slice A1_0 l1_0.length c1_0) := bc_ BK194.out 0; have hcz11_1 : w8.cell? ⟨gb194, 1, none⟩ = some (.slice A1_1 l1_1.length c1_1) := bc_ BK194.out 1; have hfz11_0 := blk_frozen BK194.out 0; have hfz11_1 := blk_frozen BK194.out 1) | ((with_reducible refine gate_callee (f := 33) rfl ?_); refine goesL_ (some 9) rfl rfl Try.func33 (by kernel_rfl) rfl #[.slice A0_0 l0_0.length c0_0, .slice A1_0 l1_0.length c1_0] rfl nc_ ?_; (with_reducible refine (laws_eqAcceptorS.calls k _ _ l0_0 _ _ l1_0 true _ ?side1 ?side2 ?side3 ?side4 A3.out).mono ?_); (case side1 => exact kc_ (Kd.C_below HR0_0.out HB.out)); (case side2 => exact HC0_0.out); (case side3 => exact kc_ (Kd.C_below HR1_0.out HB.out)); (case side4 => exact HC1_0.out); rintro e w12 ⟨rfl, hb⟩; refine ⟨_, rfl, ?_⟩; replace BK193 := bb_ BK193 hb; replace BK194 := bb_ BK194 hb; replace HB := Aside0.mk (below_step bl_ hb); clear hb; have hcz13_0 : w12.cell? ⟨gb193, 0, none⟩ = some (.slice A0_0 l0_0.length c0_0) := bc_ BK193.out 0; have hcz13_1 : w12.cell? ⟨gb193, 1, none⟩ = some (.slice A0_1 l0_1.length c0_1) := bc_ BK193.out 1; have hfz13_0 := blk_frozen BK193.out 0; have hfz13_1 := blk_frozen BK193.out 1; have hcz14_0 : w12.cell? ⟨gb194, 0, none⟩ = some (.slice A1_0 l1_0.length c1_0) := bc_ BK194.out 0; have hcz14_1 : w12.cell? ⟨gb194, 1, none⟩ = some (.slice A1_1 l1_1.length c1_1) := bc_ BK194.out 1; have hfz14_0 := blk_frozen BK194.out 0; have hfz14_1 := blk_frozen BK194.out 1) | ((with_reducible refine gate_callee (f := 34) rfl ?_); refine goesL_ (some 15) rfl rfl Try.func34 (by kernel_rfl) rfl #[.slice A0_1 l0_1.length c0_1, .slice A1_1 l1_1.length c1_1] rfl nc_ ?_; (with_reducible refine (laws_eqProposerS.calls k _ _ l0_1 _ _ l1_1 true _ ?side1 ?side2 ?side3 ?side4 A5.out).mono ?_); (case side1 => exact kc_ (Kd.C_below HR0_1.out HB.out)); (case side2 => exact HC0_1.out); (case side3 => exact kc_ (Kd.C_below HR1_1.out HB.out)); (case side4 => exact HC1_1.out); rintro e w15 ⟨rfl, hb⟩; refine ⟨_, rfl, ?_⟩; replace BK193 := bb_ BK193 hb; replace BK194 := bb_ BK194 hb; replace HB := Aside0.mk (below_step bl_ hb); clear hb))
  go_ret
  exact ⟨ng_, bl_⟩
 replace c6 := Bool.eq_false_iff.mpr c6
 subst c6
 have H1 : (some false) = some r := by rw [if_neg (show ¬ (false = true) by decide)] at H; exact H
 clear H
 have H := H1
 clear H1
 obtain rfl := Option.some.inj H
 go_enter Try.func12, Try.ntmps12
 go_wp2_with (first | ((with_reducible refine gate_dst (N := 2) rfl ?_); refine box_event rfl (N := 2) rfl (cs := #[.slice A0_0 l0_0.length c0_0, .slice A0_1 l0_1.length c0_1]) (t := 33) gs_ ?_; intro gb193 hg w16 hbox hb; have BK193 := Aside0.mk (hbox); have GW193 := Aside0.mk ((by rw [hg]; exact bz_ : w.heap.size ≤ gb193)); have GE193 := GW193; replace HB := Aside0.mk (below_step bl_ hb); clear hb hbox hg) | ((with_reducible refine gate_dst (N := 3) rfl ?_); refine box_event rfl (N := 3) rfl (cs := #[.slice A1_0 l1_0.length c1_0, .slice A1_1 l1_1.length c1_1]) (t := 33) gs_ ?_; intro gb194 hg w17 hbox hb; have BK194 := Aside0.mk (hbox); have GW194 := Aside0.mk ((by rw [hg]; exact bz_ : w.heap.size ≤ gb194)); have GE194 := GW194; replace HB := Aside0.mk (below_step bl_ hb); have NB193_194 := nl_ hg BK193; have NB194_193 := nm_ hg BK193; replace BK193 := bb_ BK193 hb; clear hb hbox hg; have hnb18 := NB193_194.out; have hnc18 := NB194_193.out; have hcz19_0 : w17.cell? ⟨gb193, 0, none⟩ = some (.slice A0_0 l0_0.length c0_0) := bc_ BK193.out 0; have hcz19_1 : w17.cell? ⟨gb193, 1, none⟩ = some (.slice A0_1 l0_1.length c0_1) := bc_ BK193.out 1; have hfz19_0 := blk_frozen BK193.out 0; have hfz19_1 := blk_frozen BK193.out 1; have hcz20_0 : w17.cell? ⟨gb194, 0, none⟩ = some (.slice A1_0 l1_0.length c1_0) := bc_ BK194.out 0; have hcz20_1 : w17.cell? ⟨gb194, 1, none⟩ = some (.slice A1_1 l1_1.length c1_1) := bc_ BK194.out 1; have hfz20_0 := blk_frozen BK194.out 0; have hfz20_1 := blk_frozen BK194.out 1) | ((with_reducible refine gate_callee (f := 33) rfl ?_); refine goesL_ (some 9) rfl rfl Try.func33 (by kernel_rfl) rfl #[.slice A0_0 l0_0.length c0_0, .slice A1_0 l1_0.length c1_0] rfl nc_ ?_; (with_reducible refine (laws_eqAcceptorS.calls k _ _ l0_0 _ _ l1_0 true _ ?side1 ?side2 ?side3 ?side4 A3.out).mono ?_); (case side1 => exact kc_ (Kd.C_below HR0_0.out HB.out)); (case side2 => exact HC0_0.out); (case side3 => exact kc_ (Kd.C_below HR1_0.out HB.out)); (case side4 => exact HC1_0.out); rintro e w21 ⟨rfl, hb⟩; refine ⟨_, rfl, ?_⟩; replace BK193 := bb_ BK193 hb; replace BK194 := bb_ BK194 hb; replace HB := Aside0.mk (below_step bl_ hb); clear hb; have hcz22_0 : w21.cell? ⟨gb193, 0, none⟩ = some (.slice A0_0 l0_0.length c0_0) := bc_ BK193.out 0; have hcz22_1 : w21.cell? ⟨gb193, 1, none⟩ = some (.slice A0_1 l0_1.length c0_1) := bc_ BK193.out 1; have hfz22_0 := blk_frozen BK193.out 0; have hfz22_1 := blk_frozen BK193.out 1; have hcz23_0 : w21.cell? ⟨gb194, 0, none⟩ = some (.slice A1_0 l1_0.length c1_0) := bc_ BK194.out 0; have hcz23_1 : w21.cell? ⟨gb194, 1, none⟩ = some (.slice A1_1 l1_1.length c1_1) := bc_ BK194.out 1; have hfz23_0 := blk_frozen BK194.out 0; have hfz23_1 := blk_frozen BK194.out 1) | ((with_reducible refine gate_callee (f := 34) rfl ?_); refine goesL_ (some 15) rfl rfl Try.func34 (by kernel_rfl) rfl #[.slice A0_1 l0_1.length c0_1, .slice A1_1 l1_1.length c1_1] rfl nc_ ?_; (with_reducible refine (laws_eqProposerS.calls k _ _ l0_1 _ _ l1_1 false _ ?side1 ?side2 ?side3 ?side4 A5.out).mono ?_); (case side1 => exact kc_ (Kd.C_below HR0_1.out HB.out)); (case side2 => exact HC0_1.out); (case side3 => exact kc_ (Kd.C_below HR1_1.out HB.out)); (case side4 => exact HC1_1.out); rintro e w24 ⟨rfl, hb⟩; refine ⟨_, rfl, ?_⟩; replace BK193 := bb_ BK193 hb; replace BK194 := bb_ BK194 hb; replace HB := Aside0.mk (below_step bl_ hb); clear hb))
 go_ret
 exact ⟨ng_, bl_⟩

/-! ### spec_l1In: function 39 -/
def spec_l1In.f (a0 : Int) (a1 : Int) (a2 : Int) : Option (Bool) := if a0 ≥ a1 then (some (decide (a0 ≤ a2))) else (some false)
set_option maxHeartbeats 8000000 in
set_option maxRecDepth 100000 in
theorem spec_l1In.calls (a0 : Int) (a1 : Int) (a2 : Int) (r : Bool) (w : World) (h : spec_l1In.f a0 a1 a2 = some r) :
  Calls Try.prog 39 #[.int .i64 a0, .int .i64 a1, .int .i64 a2] w fun e w' => e = .returned (.bool r) ∧ Drawn0 w w' := by
 have H : (if a0 ≥ a1 then (some (decide (a0 ≤ a2))) else (some false)) = some r := h
 clear h
 by_cases c4 : a0 ≥ a1
 ·rw [if_pos c4] at H
  have c4b0 : decide (a1 ≤ a0) = true := decide_eq_true c4
  clear c4
  obtain rfl := Option.some.inj H
  go_enter Try.func39, Try.ntmps39
  go_wp2
  go_ret
  exact ⟨by first | rfl | (simp; done) | (simp [*]; done), by repeat (first | exact Drawn0.refl _ | apply Drawn0.step)⟩
 rw [if_neg c4] at H
 have c4b0 : decide (a1 ≤ a0) = false := decide_eq_false c4
 clear c4
 obtain rfl := Option.some.inj H
 go_enter Try.func39, Try.ntmps39
 go_wp2
 go_ret
 exact ⟨by first | rfl | (simp; done) | (simp [*]; done), by repeat (first | exact Drawn0.refl _ | apply Drawn0.step)⟩

/-! ### spec_l8Nodes: function 38 -/
def spec_l8Nodes.f (a0 : Int) : Option (Bool) := (spec_l1In.f a0 1 12).bind fun t197 => (some t197)
set_option maxHeartbeats 8000000 in
set_option maxRecDepth 100000 in
theorem spec_l8Nodes.calls (a0 : Int) (r : Bool) (w : World) (h : spec_l8Nodes.f a0 = some r) :
  Calls Try.prog 38 #[.int .i64 a0] w fun e w' => e = .returned (.bool r) ∧ Drawn0 w w' := by
 have H : ((spec_l1In.f a0 1 12).bind fun t197 => (some t197)) = some r := h
 clear h
 replace H := Option.bind_eq_some_iff.mp H
 obtain ⟨t197, A20, H⟩ := H
 replace H : (some t197) = some r := H
 have A2 := Aside0.mk A20
 clear A20
 obtain rfl := Option.some.inj H
 go_enter Try.func38, Try.ntmps38
 go_wp2_with (first | ((with_reducible refine gate_callee (f := 39) rfl ?_); refine goesL_ (some 4) rfl rfl Try.func39 (by kernel_rfl) rfl #[.int .i64 a0, .int .i64 1, .int .i64 12] rfl nc_ ?_; (with_reducible refine (spec_l1In.calls a0 1 12 t197 _ A2.out).mono ?_); rintro e w' ⟨rfl, ⟨nd, rfl⟩⟩; refine ⟨_, rfl, ?_⟩))
 go_ret
 exact ⟨by first | rfl | (simp; done) | (simp [*]; done), by repeat (first | exact Drawn0.refl _ | apply Drawn0.step)⟩

end Go.Proofs.Ytjpaoeeeiklfnaa.PSY
