/- What this text proves: the machine calls of these functions return what the plain functions say. Conditions: as each theorem says. Printed by a program of this session out of the translation. -/
import Derived.Test.YtdnapgnnliibfaaPMBx0
import Derived.Test.YtdnapgnnliibfaaPMBx6
import Derived.Test.YtdnapgnnliibfaaPMBx7
namespace Go.Proofs.Ytdnapgnnliibfaa.PMB
open Go.RowKit Go.Proofs.YtdnapgnnliibfaaW.PrintWords Go.Proofs.YtdnapgnnliibfaaW.PrintLast Go.Proofs.YtdnapgnnliibfaaW.PrintMore
attribute [local go_sem] max2_int min2_int max_two min_two max_three min_three max_four min_four   -- for this text's walks alone
set_option linter.unusedVariables false
set_option linter.unusedSimpArgs false

/-! ### impl_isBag_1_1: function 57 -/
def impl_isBag_1_1.f (k : Nat) (a0_0 : ByteArray) (a0_1 : Int) (a0_2 : Int) (a1_0 : ByteArray) (a1_1 : Int) (a1_2 : Int) : Option (Bool) := (impl_compareAdds.f k a0_0 a0_1 a0_2 a1_0 a1_1 a1_2).bind fun t243 => (some (t243 == 0))
theorem impl_isBag_1_1.mono : ∀ a0 a1 a2 a3 a4 a5 k, LeO (impl_isBag_1_1.f k a0 a1 a2 a3 a4 a5) (impl_isBag_1_1.f (k + 1) a0 a1 a2 a3 a4 a5) := by
 intro a0 a1 a2 a3 a4 a5 k
 unfold impl_isBag_1_1.f
 repeat' first
   | (with_reducible exact impl_compareAdds.mono _ _ _ _ _ _ _)
   | (with_reducible exact LeO.refl _)
   | (with_reducible exact LeO.none _)
   | (with_reducible refine LeO.ite ?_ ?_)
   | (with_reducible refine LeO.bind ?_ (fun _ => ?_))
   | exact impl_compareAdds.mono _ _ _ _ _ _ _
   | exact LeO.none _
   | refine LeO.ite ?_ ?_
   | refine LeO.bind ?_ (fun _ => ?_)
set_option maxHeartbeats 8000000 in
set_option maxRecDepth 100000 in
theorem impl_isBag_1_1.calls (k : Nat) (a0_0 : ByteArray) (a0_1 : Int) (a0_2 : Int) (a1_0 : ByteArray) (a1_1 : Int) (a1_2 : Int) (r : Bool) (w : World) (h : impl_isBag_1_1.f k a0_0 a0_1 a0_2 a1_0 a1_1 a1_2 = some r) {gb241 : Nat} (hbk_ : w.heap[gb241]? = some (.cells #[.string a1_0, .int .i64 a1_1, .int .i64 a1_2] 48 (0, 0)) := by with_reducible repeat (first | exact Aside0.out (by assumption) | refine blk_drewN ?_ _ | refine blk_drew ?_ | refine blk_alloc ?_ _)) :
  Calls Try.prog 57 #[.agg #[.string a0_0, .int .i64 a0_1, .int .i64 a0_2], .pointer (some ⟨gb241, 0, none⟩)] w fun e w' => e = .returned (.bool r) ∧ Below w.heap.size w w' := by
 have BK241 := Aside0.mk hbk_
 clear hbk_
 have hu48 := Try.underlying48
 have HB := Aside0.mk (Below.refl w.heap.size w)
 have H : ((impl_compareAdds.f k a0_0 a0_1 a0_2 a1_0 a1_1 a1_2).bind fun t243 => (some (t243 == 0))) = some r := h
 clear h
 replace H := Option.bind_eq_some_iff.mp H
 obtain ⟨t243, A30, H⟩ := H
 replace H : (some (t243 == 0)) = some r := H
 have A3 := Aside0.mk A30
 clear A30
 obtain rfl := Option.some.inj H
 go_enter Try.func57, Try.ntmps57
 go_wp2_with (first | ((with_reducible refine gate_dst (N := 2) rfl ?_); refine box_event rfl (N := 2) rfl (cs := #[.string a0_0, .int .i64 a0_1, .int .i64 a0_2]) (t := 48) gs_ ?_; intro gb242 hg w5 hbox hb; have BK242 := Aside0.mk (hbox); have GW242 := Aside0.mk ((by rw [hg]; exact bz_ : w.heap.size ≤ gb242)); have GE242 := GW242; replace HB := Aside0.mk (below_step bl_ hb); have NB241_242 := nl_ hg BK241; have NB242_241 := nm_ hg BK241; replace BK241 := bb_ BK241 hb; clear hb hbox hg; have hnb6 := NB242_241.out; have hnc6 := NB241_242.out; have hcz7_0 : w5.cell? ⟨gb242, 0, none⟩ = some (.string a0_0) := bc_ BK242.out 0; have hcz7_1 : w5.cell? ⟨gb242, 1, none⟩ = some (.int .i64 a0_1) := bc_ BK242.out 1; have hcz7_2 : w5.cell? ⟨gb242, 2, none⟩ = some (.int .i64 a0_2) := bc_ BK242.out 2; have hfz7_0 := blk_frozen BK242.out 0; have hfz7_1 := blk_frozen BK242.out 1; have hfz7_2 := blk_frozen BK242.out 2; have hcz8_0 : w5.cell? ⟨gb241, 0, none⟩ = some (.string a1_0) := bc_ BK241.out 0; have hcz8_1 : w5.cell? ⟨gb241, 1, none⟩ = some (.int .i64 a1_1) := bc_ BK241.out 1; have hcz8_2 : w5.cell? ⟨gb241, 2, none⟩ = some (.int .i64 a1_2) := bc_ BK241.out 2; have hfz8_0 := blk_frozen BK241.out 0; have hfz8_1 := blk_frozen BK241.out 1; have hfz8_2 := blk_frozen BK241.out 2) | ((with_reducible refine gate_callee (f := 40) rfl ?_); refine goesL_ (some 6) rfl rfl Try.func40 (by kernel_rfl) rfl #[.agg #[.string a0_0, .int .i64 a0_1, .int .i64 a0_2], .agg #[.string a1_0, .int .i64 a1_1, .int .i64 a1_2]] rfl nc_ ?_; (with_reducible refine (impl_compareAdds.calls k a0_0 a0_1 a0_2 a1_0 a1_1 a1_2 t243 _ A3.out).mono ?_); rintro e w9 ⟨rfl, hb⟩; refine ⟨_, rfl, ?_⟩; replace BK241 := bb_ BK241 hb; replace BK242 := bb_ BK242 hb; replace HB := Aside0.mk (below_step bl_ hb); clear hb))
 go_ret
 exact ⟨ng_, bl_⟩

/-! ### has_impl_isBag_1_1: slices.ContainsFunc[[]loop.example/g00218/impl.Add,loop.example/g00218/impl.Add] with function 57 -/
def has_impl_isBag_1_1.f (k : Nat) (l0 : List S48) (a1_0 : ByteArray) (a1_1 : Int) (a1_2 : Int) : Option (Bool) := (idxO (fun x : S48 => impl_isBag_1_1.f k x.f0 x.f1 x.f2 a1_0 a1_1 a1_2) l0 0).bind fun i => some (decide (i ≥ 0))
theorem has_impl_isBag_1_1.mono : ∀ l0 a1_0 a1_1 a1_2 k, LeO (has_impl_isBag_1_1.f k l0 a1_0 a1_1 a1_2) (has_impl_isBag_1_1.f (k + 1) l0 a1_0 a1_1 a1_2) := by
 intro l0 a1_0 a1_1 a1_2 k
 unfold has_impl_isBag_1_1.f
 exact LeO.bind (idxO_le (fun x => impl_isBag_1_1.mono _ _ _ _ _ _ k) l0 0) (fun _ => LeO.refl _)
theorem has_impl_isBag_1_1.calls (k : Nat) (A0 : Option Addr) (c0 : Nat) (l0 : List S48) (a1_0 : ByteArray) (a1_1 : Int) (a1_2 : Int) (r : Bool) (w : World) (hr0 : Kd.C k48 w A0 l0.length l0) (hc0 : l0.length ≤ c0)  (h : has_impl_isBag_1_1.f k l0 a1_0 a1_1 a1_2 = some r) {g : Nat} (hb : w.heap[g]? = some (.cells #[.string a1_0, .int .i64 a1_1, .int .i64 a1_2] 48 (0, 0)) := by with_reducible repeat (first | exact Aside0.out (by assumption) | refine blk_drewN ?_ _ | refine blk_drew ?_ | refine blk_alloc ?_ _)) :
  Calls Try.prog 38 #[.slice A0 l0.length c0, .func (.func 57) #[] #[.pointer (some ⟨g, 0, none⟩)]] w fun e w' => e = .returned (.bool r) ∧ Below w.heap.size w w' := by
 have eg : ∀ args w, (callFunc 57 args).run Try.prog w = .ok (.enter 57 args) w := Go.Proofs.enters_of Try.func57 (by kernel_rfl) rfl
 unfold has_impl_isBag_1_1.f at h
 rw [Option.bind_eq_some_iff] at h
 obtain ⟨i, hi, he⟩ := h
 obtain rfl := Option.some.inj he
 exact conT48.any 57 #[.pointer (some ⟨g, 0, none⟩)] eg (fun x : S48 => impl_isBag_1_1.f k x.f0 x.f1 x.f2 a1_0 a1_1 a1_2) A0 c0 l0 i w (fun x b W hx hB_ => (impl_isBag_1_1.calls k x.f0 x.f1 x.f2 a1_0 a1_1 a1_2 b W hx (hbk_ := blk_below hb hB_)).mono fun _ _ h_ => ⟨h_.1, (by first | exact h_.2 | exact h_.2.below)⟩) hr0 hi

/-! ### impl_isBag_1: function 56 -/
def impl_isBag_1.f (k : Nat) (a0_0 : ByteArray) (a0_1 : Int) (a0_2 : Int) (l1_0 : List (S48)) (l1_1 : List (S48)) : Option (Bool) := (has_impl_isBag_1_1.f k l1_1 a0_0 a0_1 a0_2).bind fun t246 => (some t246)
theorem impl_isBag_1.mono : ∀ a0 a1 a2 a3 a4 k, LeO (impl_isBag_1.f k a0 a1 a2 a3 a4) (impl_isBag_1.f (k + 1) a0 a1 a2 a3 a4) := by
 intro a0 a1 a2 a3 a4 k
 unfold impl_isBag_1.f
 repeat' first
   | (with_reducible exact has_impl_isBag_1_1.mono _ _ _ _ _)
   | (with_reducible exact LeO.refl _)
   | (with_reducible exact LeO.none _)
   | (with_reducible refine LeO.ite ?_ ?_)
   | (with_reducible refine LeO.bind ?_ (fun _ => ?_))
   | exact has_impl_isBag_1_1.mono _ _ _ _ _
   | exact LeO.none _
   | refine LeO.ite ?_ ?_
   | refine LeO.bind ?_ (fun _ => ?_)
set_option maxHeartbeats 8000000 in
set_option maxRecDepth 100000 in
theorem impl_isBag_1.calls (k : Nat) (a0_0 : ByteArray) (a0_1 : Int) (a0_2 : Int) (A1_0 : Option Addr) (c1_0 : Nat) (l1_0 : List (S48)) (A1_1 : Option Addr) (c1_1 : Nat) (l1_1 : List (S48)) (r : Bool) (w : World) (hr1_0 : Kd.C k48 w A1_0 l1_0.length l1_0) (hc1_0 : l1_0.length ≤ c1_0) (hr1_1 : Kd.C k48 w A1_1 l1_1.length l1_1) (hc1_1 : l1_1.length ≤ c1_1) (h : impl_isBag_1.f k a0_0 a0_1 a0_2 l1_0 l1_1 = some r) {gb244 : Nat} (hbk_ : w.heap[gb244]? = some (.cells #[.slice A1_0 l1_0.length c1_0, .slice A1_1 l1_1.length c1_1] 29 (0, 0)) := by with_reducible repeat (first | exact Aside0.out (by assumption) | refine blk_drewN ?_ _ | refine blk_drew ?_ | refine blk_alloc ?_ _)) :
  Calls Try.prog 56 #[.agg #[.string a0_0, .int .i64 a0_1, .int .i64 a0_2], .pointer (some ⟨gb244, 0, none⟩)] w fun e w' => e = .returned (.bool r) ∧ Below w.heap.size w w' := by
 have BK244 := Aside0.mk hbk_
 clear hbk_
 have hu29 := Try.underlying29
 have hu48 := Try.underlying48
 have HR1_0 := Aside0.mk hr1_0
 have HC1_0 := Aside0.mk hc1_0
 clear hr1_0 hc1_0
 have HR1_1 := Aside0.mk hr1_1
 have HC1_1 := Aside0.mk hc1_1
 clear hr1_1 hc1_1
 have HB := Aside0.mk (Below.refl w.heap.size w)
 have H : ((has_impl_isBag_1_1.f k l1_1 a0_0 a0_1 a0_2).bind fun t246 => (some t246)) = some r := h
 clear h
 replace H := Option.bind_eq_some_iff.mp H
 obtain ⟨t246, A30, H⟩ := H
 replace H : (some t246) = some r := H
 have A3 := Aside0.mk A30
 clear A30
 obtain rfl := Option.some.inj H
 go_enter Try.func56, Try.ntmps56
 go_wp2_with (first | ((with_reducible refine gate_dst (N := 2) rfl ?_); refine box_event rfl (N := 2) rfl (cs := #[.string a0_0, .int .i64 a0_1, .int .i64 a0_2]) (t := 48) gs_ ?_; intro gb245 hg w5 hbox hb; have BK245 := Aside0.mk (hbox); have GW245 := Aside0.mk ((by rw [hg]; exact bz_ : w.heap.size ≤ gb245)); have GE245 := GW245; replace HB := Aside0.mk (below_step bl_ hb); have NB244_245 := nl_ hg BK244; have NB245_244 := nm_ hg BK244; replace BK244 := bb_ BK244 hb; clear hb hbox hg; have hnb6 := NB244_245.out; have hnc6 := NB245_244.out; have hcz7_0 : w5.cell? ⟨gb244, 0, none⟩ = some (.slice A1_0 l1_0.length c1_0) := bc_ BK244.out 0; have hcz7_1 : w5.cell? ⟨gb244, 1, none⟩ = some (.slice A1_1 l1_1.length c1_1) := bc_ BK244.out 1; have hfz7_0 := blk_frozen BK244.out 0; have hfz7_1 := blk_frozen BK244.out 1; have hcz8_0 : w5.cell? ⟨gb245, 0, none⟩ = some (.string a0_0) := bc_ BK245.out 0; have hcz8_1 : w5.cell? ⟨gb245, 1, none⟩ = some (.int .i64 a0_1) := bc_ BK245.out 1; have hcz8_2 : w5.cell? ⟨gb245, 2, none⟩ = some (.int .i64 a0_2) := bc_ BK245.out 2; have hfz8_0 := blk_frozen BK245.out 0; have hfz8_1 := blk_frozen BK245.out 1; have hfz8_2 := blk_frozen BK245.out 2) | ((with_reducible refine gate_callee (f := 38) rfl ?_); refine goesL_ (some 7) rfl rfl Try.func38 (by kernel_rfl) rfl #[.slice A1_1 l1_1.length c1_1, .func (.func 57) #[] #[.pointer (some ⟨gb245, 0, none⟩)]] rfl nc_ ?_; (with_reducible refine (has_impl_isBag_1_1.calls k _ _ l1_1 a0_0 a0_1 a0_2 t246 _ ?side1 ?side2 A3.out).mono ?_); (case side1 => exact kc_ (Kd.C_below HR1_1.out HB.out)); (case side2 => exact HC1_1.out); rintro e w9 ⟨rfl, hb⟩; refine ⟨_, rfl, ?_⟩; replace BK244 := bb_ BK244 hb; replace BK245 := bb_ BK245 hb; replace HB := Aside0.mk (below_step bl_ hb); clear hb))
 go_ret
 exact ⟨ng_, bl_⟩

/-! ### has_impl_isBag_1: slices.ContainsFunc[[]loop.example/g00218/impl.Add,loop.example/g00218/impl.Add] with function 56 -/
def has_impl_isBag_1.f (k : Nat) (l0 : List S48) (l1_0 : List (S48)) (l1_1 : List (S48)) : Option (Bool) := (idxO (fun x : S48 => impl_isBag_1.f k x.f0 x.f1 x.f2 l1_0 l1_1) l0 0).bind fun i => some (decide (i ≥ 0))
theorem has_impl_isBag_1.mono : ∀ l0 l1_0 l1_1 k, LeO (has_impl_isBag_1.f k l0 l1_0 l1_1) (has_impl_isBag_1.f (k + 1) l0 l1_0 l1_1) := by
 intro l0 l1_0 l1_1 k
 unfold has_impl_isBag_1.f
 exact LeO.bind (idxO_le (fun x => impl_isBag_1.mono _ _ _ _ _ k) l0 0) (fun _ => LeO.refl _)
theorem has_impl_isBag_1.calls (k : Nat) (A0 : Option Addr) (c0 : Nat) (l0 : List S48) (A1_0 : Option Addr) (c1_0 : Nat) (l1_0 : List (S48)) (A1_1 : Option Addr) (c1_1 : Nat) (l1_1 : List (S48)) (r : Bool) (w : World) (hr0 : Kd.C k48 w A0 l0.length l0) (hc0 : l0.length ≤ c0) (hr1_0 : Kd.C k48 w A1_0 l1_0.length l1_0) (hc1_0 : l1_0.length ≤ c1_0) (hr1_1 : Kd.C k48 w A1_1 l1_1.length l1_1) (hc1_1 : l1_1.length ≤ c1_1) (h : has_impl_isBag_1.f k l0 l1_0 l1_1 = some r) {g : Nat} (hb : w.heap[g]? = some (.cells #[.slice A1_0 l1_0.length c1_0, .slice A1_1 l1_1.length c1_1] 29 (0, 0)) := by with_reducible repeat (first | exact Aside0.out (by assumption) | refine blk_drewN ?_ _ | refine blk_drew ?_ | refine blk_alloc ?_ _)) :
  Calls Try.prog 38 #[.slice A0 l0.length c0, .func (.func 56) #[] #[.pointer (some ⟨g, 0, none⟩)]] w fun e w' => e = .returned (.bool r) ∧ Below w.heap.size w w' := by
 have eg : ∀ args w, (callFunc 56 args).run Try.prog w = .ok (.enter 56 args) w := Go.Proofs.enters_of Try.func56 (by kernel_rfl) rfl
 unfold has_impl_isBag_1.f at h
 rw [Option.bind_eq_some_iff] at h
 obtain ⟨i, hi, he⟩ := h
 obtain rfl := Option.some.inj he
 exact conT48.any 56 #[.pointer (some ⟨g, 0, none⟩)] eg (fun x : S48 => impl_isBag_1.f k x.f0 x.f1 x.f2 l1_0 l1_1) A0 c0 l0 i w (fun x b W hx hB_ => (impl_isBag_1.calls k x.f0 x.f1 x.f2 _ _ l1_0 _ _ l1_1 b W (Kd.C_below hr1_0 hB_) hc1_0 (Kd.C_below hr1_1 hB_) hc1_1 hx (hbk_ := blk_below hb hB_)).mono fun _ _ h_ => ⟨h_.1, (by first | exact h_.2 | exact h_.2.below)⟩) hr0 hi

/-! ### impl_isBag: function 30 -/
def impl_isBag.f (k : Nat) (l0_0 : List (S48)) (l0_1 : List (S48)) : Option (Bool) := (impl_areAdds.f k l0_0).bind fun t248 => (if t248 = true then ((impl_areAdds.f k l0_1).bind fun t249 => (if t249 = true then ((has_impl_isBag_1.f k l0_0 l0_0 l0_1).bind fun t250 => (some (!t250))) else (some false))) else (some false))
theorem impl_isBag.mono : ∀ a0 a1 k, LeO (impl_isBag.f k a0 a1) (impl_isBag.f (k + 1) a0 a1) := by
 intro a0 a1 k
 unfold impl_isBag.f
 repeat' first
   | (with_reducible exact has_impl_isBag_1.mono _ _ _ _)
   | (with_reducible exact impl_areAdds.mono _ _)
   | (with_reducible exact LeO.refl _)
   | (with_reducible exact LeO.none _)
   | (with_reducible refine LeO.ite ?_ ?_)
   | (with_reducible refine LeO.bind ?_ (fun _ => ?_))
   | exact has_impl_isBag_1.mono _ _ _ _
   | exact impl_areAdds.mono _ _
   | exact LeO.none _
   | refine LeO.ite ?_ ?_
   | refine LeO.bind ?_ (fun _ => ?_)
set_option maxHeartbeats 8000000 in
set_option maxRecDepth 100000 in
theorem impl_isBag.calls (k : Nat) (A0_0 : Option Addr) (c0_0 : Nat) (l0_0 : List (S48)) (A0_1 : Option Addr) (c0_1 : Nat) (l0_1 : List (S48)) (r : Bool) (w : World) (hr0_0 : Kd.C k48 w A0_0 l0_0.length l0_0) (hc0_0 : l0_0.length ≤ c0_0) (hr0_1 : Kd.C k48 w A0_1 l0_1.length l0_1) (hc0_1 : l0_1.length ≤ c0_1) (h : impl_isBag.f k l0_0 l0_1 = some r) :
  Calls Try.prog 30 #[.agg #[.slice A0_0 l0_0.length c0_0, .slice A0_1 l0_1.length c0_1]] w fun e w' => e = .returned (.bool r) ∧ Below w.heap.size w w' := by
 have hu29 := Try.underlying29
 have HR0_0 := Aside0.mk hr0_0
 have HC0_0 := Aside0.mk hc0_0
 clear hr0_0 hc0_0
 have HR0_1 := Aside0.mk hr0_1
 have HC0_1 := Aside0.mk hc0_1
 clear hr0_1 hc0_1
 have HB := Aside0.mk (Below.refl w.heap.size w)
 have H : ((impl_areAdds.f k l0_0).bind fun t248 => (if t248 = true then ((impl_areAdds.f k l0_1).bind fun t249 => (if t249 = true then ((has_impl_isBag_1.f k l0_0 l0_0 l0_1).bind fun t250 => (some (!t250))) else (some false))) else (some false))) = some r := h
 clear h
 replace H := Option.bind_eq_some_iff.mp H
 obtain ⟨t248, A20, H⟩ := H
 replace H : (if t248 = true then ((impl_areAdds.f k l0_1).bind fun t249 => (if t249 = true then ((has_impl_isBag_1.f k l0_0 l0_0 l0_1).bind fun t250 => (some (!t250))) else (some false))) else (some false)) = some r := H
 have A2 := Aside0.mk A20
 clear A20
 by_cases c3 : t248 = true
 rotate_left
 ·replace c3 := Bool.eq_false_iff.mpr c3
  subst c3
  have H1 : (some false) = some r := by rw [if_neg (show ¬ (false = true) by decide)] at H; exact H
  clear H
  have H := H1
  clear H1
  obtain rfl := Option.some.inj H
  go_enter Try.func30, Try.ntmps30
  go_wp2_with (first | ((with_reducible refine gate_dst (N := 1) rfl ?_); refine box_event rfl (N := 1) rfl (cs := #[.slice A0_0 l0_0.length c0_0, .slice A0_1 l0_1.length c0_1]) (t := 29) gs_ ?_; intro gb247 hg w19 hbox hb; have BK247 := Aside0.mk (hbox); have GW247 := Aside0.mk ((by rw [hg]; exact bz_ : w.heap.size ≤ gb247)); have GE247 := GW247; replace HB := Aside0.mk (below_step bl_ hb); clear hb hbox hg; have hcz20_0 : w19.cell? ⟨gb247, 0, none⟩ = some (.slice A0_0 l0_0.length c0_0) := bc_ BK247.out 0; have hcz20_1 : w19.cell? ⟨gb247, 1, none⟩ = some (.slice A0_1 l0_1.length c0_1) := bc_ BK247.out 1; have hfz20_0 := blk_frozen BK247.out 0; have hfz20_1 := blk_frozen BK247.out 1) | ((with_reducible refine gate_callee (f := 55) rfl ?_); refine goesL_ (some 5) rfl rfl Try.func55 (by kernel_rfl) rfl #[.slice A0_0 l0_0.length c0_0] rfl nc_ ?_; (with_reducible refine (impl_areAdds.calls k _ _ l0_0 false _ ?side1 ?side2 A2.out).mono ?_); (case side1 => exact kc_ (Kd.C_below HR0_0.out HB.out)); (case side2 => exact HC0_0.out); rintro e w21 ⟨rfl, hb⟩; refine ⟨_, rfl, ?_⟩; replace BK247 := bb_ BK247 hb; replace HB := Aside0.mk (below_step bl_ hb); clear hb))
  go_ret
  exact ⟨ng_, bl_⟩
 subst c3
 have H1 : ((impl_areAdds.f k l0_1).bind fun t249 => (if t249 = true then ((has_impl_isBag_1.f k l0_0 l0_0 l0_1).bind fun t250 => (some (!t250))) else (some false))) = some r := by rw [if_pos rfl] at H; exact H
 clear H
 have H := H1
 clear H1
 replace H := Option.bind_eq_some_iff.mp H
 obtain ⟨t249, A40, H⟩ := H
 replace H : (if t249 = true then ((has_impl_isBag_1.f k l0_0 l0_0 l0_1).bind fun t250 => (some (!t250))) else (some false)) = some r := H
 have A4 := Aside0.mk A40
 clear A40
 by_cases c5 : t249 = true
 rotate_left
 ·replace c5 := Bool.eq_false_iff.mpr c5
  subst c5
  have H1 : (some false) = some r := by rw [if_neg (show ¬ (false = true) by decide)] at H; exact H
  clear H
  have H := H1
  clear H1
  obtain rfl := Option.some.inj H
  go_enter Try.func30, Try.ntmps30
  go_wp2_with (first | ((with_reducible refine gate_dst (N := 1) rfl ?_); refine box_event rfl (N := 1) rfl (cs := #[.slice A0_0 l0_0.length c0_0, .slice A0_1 l0_1.length c0_1]) (t := 29) gs_ ?_; intro gb247 hg w14 hbox hb; have BK247 := Aside0.mk (hbox); have GW247 := Aside0.mk ((by rw [hg]; exact bz_ : w.heap.size ≤ gb247)); have GE247 := GW247; replace HB := Aside0.mk (below_step bl_ hb); clear hb hbox hg; have hcz15_0 : w14.cell? ⟨gb247, 0, none⟩ = some (.slice A0_0 l0_0.length c0_0) := bc_ BK247.out 0; have hcz15_1 : w14.cell? ⟨gb247, 1, none⟩ = some (.slice A0_1 l0_1.length c0_1) := bc_ BK247.out 1; have hfz15_0 := blk_frozen BK247.out 0; have hfz15_1 := blk_frozen BK247.out 1) | ((with_reducible refine gate_callee (f := 55) rfl ?_); refine goesL_ (some 5) rfl rfl Try.func55 (by kernel_rfl) rfl #[.slice A0_0 l0_0.length c0_0] rfl nc_ ?_; (with_reducible refine (impl_areAdds.calls k _ _ l0_0 true _ ?side1 ?side2 A2.out).mono ?_); (case side1 => exact kc_ (Kd.C_below HR0_0.out HB.out)); (case side2 => exact HC0_0.out); rintro e w16 ⟨rfl, hb⟩; refine ⟨_, rfl, ?_⟩; replace BK247 := bb_ BK247 hb; replace HB := Aside0.mk (below_step bl_ hb); clear hb; have hcz17_0 : w16.cell? ⟨gb247, 0, none⟩ = some (.slice A0_0 l0_0.length c0_0) := bc_ BK247.out 0; have hcz17_1 : w16.cell? ⟨gb247, 1, none⟩ = some (.slice A0_1 l0_1.length c0_1) := bc_ BK247.out 1; have hfz17_0 := blk_frozen BK247.out 0; have hfz17_1 := blk_frozen BK247.out 1) | (go_at_call 55; (with_reducible refine (impl_areAdds.calls k _ _ l0_1 false _ ?side1 ?side2 A4.out).mono ?_); (case side1 => exact kc_ (Kd.C_below HR0_1.out HB.out)); (case side2 => exact HC0_1.out); rintro e w18 ⟨rfl, hb⟩; replace BK247 := bb_ BK247 hb; replace HB := Aside0.mk (below_step bl_ hb); clear hb))
  go_ret
  exact ⟨ng_, bl_⟩
 subst c5
 have H1 : ((has_impl_isBag_1.f k l0_0 l0_0 l0_1).bind fun t250 => (some (!t250))) = some r := by rw [if_pos rfl] at H; exact H
 clear H
 have H := H1
 clear H1
 replace H := Option.bind_eq_some_iff.mp H
 obtain ⟨t250, A60, H⟩ := H
 replace H : (some (!t250)) = some r := H
 have A6 := Aside0.mk A60
 clear A60
 obtain rfl := Option.some.inj H
 go_enter Try.func30, Try.ntmps30
 go_wp2_with (first | ((with_reducible refine gate_dst (N := 1) rfl ?_); refine box_event rfl (N := 1) rfl (cs := #[.slice A0_0 l0_0.length c0_0, .slice A0_1 l0_1.length c0_1]) (t := 29) gs_ ?_; intro gb247 hg w7 hbox hb; have BK247 := Aside0.mk (hbox); have GW247 := Aside0.mk ((by rw [hg]; exact bz_ : w.heap.size ≤ gb247)); have GE247 := GW247; replace HB := Aside0.mk (below_step bl_ hb); clear hb hbox hg; have hcz8_0 : w7.cell? ⟨gb247, 0, none⟩ = some (.slice A0_0 l0_0.length c0_0) := bc_ BK247.out 0; have hcz8_1 : w7.cell? ⟨gb247, 1, none⟩ = some (.slice A0_1 l0_1.length c0_1) := bc_ BK247.out 1; have hfz8_0 := blk_frozen BK247.out 0; have hfz8_1 := blk_frozen BK247.out 1) | ((with_reducible refine gate_callee (f := 55) rfl ?_); refine goesL_ (some 5) rfl rfl Try.func55 (by kernel_rfl) rfl #[.slice A0_0 l0_0.length c0_0] rfl nc_ ?_; (with_reducible refine (impl_areAdds.calls k _ _ l0_0 true _ ?side1 ?side2 A2.out).mono ?_); (case side1 => exact kc_ (Kd.C_below HR0_0.out HB.out)); (case side2 => exact HC0_0.out); rintro e w9 ⟨rfl, hb⟩; refine ⟨_, rfl, ?_⟩; replace BK247 := bb_ BK247 hb; replace HB := Aside0.mk (below_step bl_ hb); clear hb; have hcz10_0 : w9.cell? ⟨gb247, 0, none⟩ = some (.slice A0_0 l0_0.length c0_0) := bc_ BK247.out 0; have hcz10_1 : w9.cell? ⟨gb247, 1, none⟩ = some (.slice A0_1 l0_1.length c0_1) := bc_ BK247.out 1; have hfz10_0 := blk_frozen BK247.out 0; have hfz10_1 := blk_frozen BK247.out 1) | (go_at_call 55; (with_reducible refine (impl_areAdds.calls k _ _ l0_1 true _ ?side1 ?side2 A4.out).mono ?_); (case side1 => exact kc_ (Kd.C_below HR0_1.out HB.out)); (case side2 => exact HC0_1.out); rintro e w11 ⟨rfl, hb⟩; replace BK247 := bb_ BK247 hb; replace HB := Aside0.mk (below_step bl_ hb); clear hb; have hcz12_0 : w11.cell? ⟨gb247, 0, none⟩ = some (.slice A0_0 l0_0.length c0_0) := bc_ BK247.out 0; have hcz12_1 : w11.cell? ⟨gb247, 1, none⟩ = some (.slice A0_1 l0_1.length c0_1) := bc_ BK247.out 1; have hfz12_0 := blk_frozen BK247.out 0; have hfz12_1 := blk_frozen BK247.out 1) | (go_at_call 38; (with_reducible refine (has_impl_isBag_1.calls k _ _ l0_0 _ _ l0_0 _ _ l0_1 t250 _ ?side1 ?side2 ?side3 ?side4 ?side5 ?side6 A6.out).mono ?_); (case side1 => exact kc_ (Kd.C_below HR0_0.out HB.out)); (case side2 => exact HC0_0.out); (case side3 => exact kc_ (Kd.C_below HR0_0.out HB.out)); (case side4 => exact HC0_0.out); (case side5 => exact kc_ (Kd.C_below HR0_1.out HB.out)); (case side6 => exact HC0_1.out); rintro e w13 ⟨rfl, hb⟩; replace BK247 := bb_ BK247 hb; replace HB := Aside0.mk (below_step bl_ hb); clear hb))
 go_ret
 exact ⟨ng_, bl_⟩

end Go.Proofs.Ytdnapgnnliibfaa.PMB
