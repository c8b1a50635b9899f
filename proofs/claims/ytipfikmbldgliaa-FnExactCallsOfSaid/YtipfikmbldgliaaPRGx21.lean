/- What this text proves (a hand-built part): the machine call of impl.isRegister returns what the plain function says; its two maps serve as sets.
   Conditions: as each theorem says. -/
import Derived.Test.YtipfikmbldgliaaPRGx20
namespace Go.Proofs.Ytipfikmbldgliaa.PRG
open Go.RowKit Go.Proofs.YtipfikmbldgliaaW.PrintWords Go.Proofs.YtipfikmbldgliaaW.PrintLast Go.Proofs.YtipfikmbldgliaaW.PrintMore Go.Proofs.Ytipfikmbldgliaa.Base Go.Proofs.Ytipfikmbldgliaa.MapSet
attribute [local go_sem] max2_int min2_int max_two min_two max_three min_three max_four min_four   -- for this text's walks alone
set_option linter.unusedVariables false
set_option linter.unusedSimpArgs false

/-- Two sets of the call's own. -/
structure TS (w0 W : World) (g4 : Nat) (S : List Int) (g5 : Nat) (T : List Int) : Prop where
  h4 : w0.heap.size ≤ g4
  h5 : w0.heap.size ≤ g5
  ne : g4 ≠ g5
  o4 : OSet Try.prog 3 4 W g4 S
  o5 : OSet Try.prog 3 4 W g5 T
theorem TS.below {w0 W W' : World} {g4 g5 : Nat} {S T : List Int} (h : TS w0 W g4 S g5 T) (hb : Below W.heap.size W W') : TS w0 W' g4 S g5 T := ⟨h.h4, h.h5, h.ne, h.o4.below hb, h.o5.below hb⟩
theorem TS.alloc {w0 W : World} {g4 g5 : Nat} {S T : List Int} (h : TS w0 W g4 S g5 T) (o : Obj) : TS w0 (W.alloc o) g4 S g5 T := ⟨h.h4, h.h5, h.ne, h.o4.alloc o, h.o5.alloc o⟩
theorem TS.drewN {w0 W : World} {g4 g5 : Nat} {S T : List Int} (h : TS w0 W g4 S g5 T) (n : Nat) : TS w0 (W.drewN n) g4 S g5 T := ⟨h.h4, h.h5, h.ne, h.o4.drewN n, h.o5.drewN n⟩
theorem TS.put4 {w0 W W' : World} {g4 g5 : Nat} {S S' T : List Int} (h : TS w0 W g4 S g5 T) (ho : OSet Try.prog 3 4 W' g4 S') (hg : W.grownBy W' (some g4)) : TS w0 W' g4 S' g5 T := ⟨h.h4, h.h5, h.ne, ho, h.o5.kept hg (fun e => h.ne (Option.some.inj e).symm)⟩
theorem TS.put5 {w0 W W' : World} {g4 g5 : Nat} {S T T' : List Int} (h : TS w0 W g4 S g5 T) (ho : OSet Try.prog 3 4 W' g5 T') (hg : W.grownBy W' (some g5)) : TS w0 W' g4 S g5 T' := ⟨h.h4, h.h5, h.ne, h.o4.kept hg (fun e => h.ne (Option.some.inj e)), ho⟩
theorem TS.set {w0 W : World} {g4 g5 g : Nat} {S T : List Int} {t : TypeId} {cs : Array Value} (h : TS w0 W g4 S g5 T) (hb : W.heap[g]? = some (.cells cs t (0, 0))) (i : Nat) (u : Value) : TS w0 (W.setCell ⟨g, i, none⟩ u) g4 S g5 T := by
  obtain ⟨D, ⟨es, c, e, r⟩, q⟩ := h.o4
  obtain ⟨D2, ⟨es2, c2, e2, r2⟩, q2⟩ := h.o5
  have n4 : g4 ≠ g := by intro x; subst x; rw [e] at hb; cases hb
  have n5 : g5 ≠ g := by intro x; subst x; rw [e2] at hb; cases hb
  exact ⟨h.h4, h.h5, h.ne, ⟨D, ⟨es, c, (Below.heap_setCell W _ _ _ n4).trans e, r⟩, q⟩, ⟨D2, ⟨es2, c2, (Below.heap_setCell W _ _ _ n5).trans e2, r2⟩, q2⟩⟩
theorem TS.far {w0 W : World} {g4 g5 g : Nat} {S T : List Int} (h : TS w0 W g4 S g5 T) (n4 : g4 ≠ g) (n5 : g5 ≠ g) (i : Nat) (u : Value) : TS w0 (W.setCell ⟨g, i, none⟩ u) g4 S g5 T := by
  obtain ⟨D, ⟨es, c, e, r⟩, q⟩ := h.o4
  obtain ⟨D2, ⟨es2, c2, e2, r2⟩, q2⟩ := h.o5
  exact ⟨h.h4, h.h5, h.ne, ⟨D, ⟨es, c, (Below.heap_setCell W _ _ _ n4).trans e, r⟩, q⟩, ⟨D2, ⟨es2, c2, (Below.heap_setCell W _ _ _ n5).trans e2, r2⟩, q2⟩⟩
theorem TS.ne4 {w0 W : World} {g4 g5 g : Nat} {S T : List Int} {t : TypeId} {cs : Array Value} (h : TS w0 W g4 S g5 T) (hb : W.heap[g]? = some (.cells cs t (0, 0))) : g4 ≠ g := by
  obtain ⟨D, ⟨es, c, e, r⟩, q⟩ := h.o4
  intro x; subst x; rw [e] at hb; cases hb
theorem TS.ne5 {w0 W : World} {g4 g5 g : Nat} {S T : List Int} {t : TypeId} {cs : Array Value} (h : TS w0 W g4 S g5 T) (hb : W.heap[g]? = some (.cells cs t (0, 0))) : g5 ≠ g := by
  obtain ⟨D, ⟨es, c, e, r⟩, q⟩ := h.o5
  intro x; subst x; rw [e] at hb; cases hb
theorem tsb_ {w0 w W w1 : World} {g4 g5 : Nat} {S T : List Int} (h : Aside0 (TS w0 w g4 S g5 T)) (hb : Below W.heap.size W w1) [k : Keep_ w W] : Aside0 (TS w0 w1 g4 S g5 T) := ⟨(h.out.below k.kept).below hb⟩
theorem tsk_ {w0 w W : World} {g4 g5 : Nat} {S T : List Int} (h : Aside0 (TS w0 w g4 S g5 T)) [k : Keep_ w W] : TS w0 W g4 S g5 T := h.out.below k.kept
theorem tsk1_ {w0 w W : World} {g4 g5 : Nat} {S T : List Int} (h : Aside0 (TS w0 w g4 S g5 T)) [k : Keep_ w W] : Aside0 (TS w0 W g4 S g5 T) := ⟨h.out.below k.kept⟩
theorem os4_ {w0 w W : World} {g4 g5 : Nat} {S T : List Int} (h : Aside0 (TS w0 w g4 S g5 T)) [k : Keep_ w W] : OSet Try.prog 3 4 W g4 S := (h.out.below k.kept).o4
theorem os5_ {w0 w W : World} {g4 g5 : Nat} {S T : List Int} (h : Aside0 (TS w0 w g4 S g5 T)) [k : Keep_ w W] : OSet Try.prog 3 4 W g5 T := (h.out.below k.kept).o5
theorem rdT83 {l : List S83} {i : Nat} (h : i < l.length) : rd_T83 l (i : Int) = l[i] := by simp [rd_T83, h]
theorem zero4 (w : World) : (zeroValue 4).run Try.prog w = .ok (.bool false) w := by kernel_rfl
theorem wf_in {x y : Int} (h : inB x 0 (wrap64 y) = true) : (Lit.int .i64 x).wf = true := by
  have := inB_iff.1 h; unfold wrap64 at this
  exact (by simpa [Lit.wf] using (show IntKind.i64.min ≤ x ∧ x ≤ IntKind.i64.max from ⟨by show -9223372036854775808 ≤ x; omega, by show x ≤ 9223372036854775807; omega⟩))
theorem wf_in9 {x : Int} (h : inB x 0 9 = true) : (Lit.int .i64 x).wf = true := by
  have := inB_iff.1 h
  exact (by simpa [Lit.wf] using (show IntKind.i64.min ≤ x ∧ x ≤ IntKind.i64.max from ⟨by show -9223372036854775808 ≤ x; omega, by show x ≤ 9223372036854775807; omega⟩))
theorem wf_in2 {x y z : Int} (h : inB x (wrap64 z) (wrap64 y) = true) : (Lit.int .i64 x).wf = true := by
  have := inB_iff.1 h; unfold wrap64 at this
  exact (by simpa [Lit.wf] using (show IntKind.i64.min ≤ x ∧ x ≤ IntKind.i64.max from ⟨by show -9223372036854775808 ≤ x; omega, by show x ≤ 9223372036854775807; omega⟩))

def badT (clk : Int) (l1 : List S40) (l2 : List S83) : Bool := !inB clk 0 1000 || (!inB (l1.length : Int) 1 12 || (decide (7 < (l2.length : Int)) || l1.any (fun c => !okCp c.f0 c.f1 c.f2)))
def badA (clk n : Int) (S : List Int) (o : S83) : Bool := !inB o.f0 0 9 || (!okVal o.f2 || ((!o.f1 && (o.f2.toList != ([] : List UInt8))) || (!inB o.f3 1 3 || (!risB o.f4 (wrap64 (n - 1)) || (decide (n < wrap64 (2 * (o.f4.length : Int))) || (!okCp o.f5.f0 o.f5.f1 o.f5.f2 || (!inB o.f6 0 (wrap64 (clk - 1)) || decide (o.f6 ∈ S))))))))
def badB (T : List Int) (o : S83) : Bool := decide (o.f0 ∈ T) || (o.f7 != 0)
def badC (clk : Int) (S : List Int) (o : S83) : Bool := decide (0 < (o.f4.length : Int)) || (!inB o.f7 (wrap64 (o.f6 + 1)) (wrap64 (clk - 1)) || decide (o.f7 ∈ S))
def goodOps (clk n : Int) : List S83 → List Int → List Int → Bool
  | [], _, _ => true
  | o :: r, S, T => !badA clk n S o && (if o.f3 = 3 then !badC clk (o.f6 :: S) o && goodOps clk n r (o.f7 :: o.f6 :: S) T else !badB T o && goodOps clk n r (o.f6 :: S) (o.f0 :: T))
def goodReg (clk : Int) (l1 : List S40) (l2 : List S83) : Bool := !badT clk l1 l2 && goodOps clk (l1.length : Int) l2 [] []
def impl_isRegister.f (k : Nat) (a0_0 : Int) (l0_1 : List (S40)) (l0_2 : List (S83)) : Option (Bool) := if (l0_1.all szCp && l0_2.all szOp) = true then some (goodReg a0_0 l0_1 l0_2) else none
theorem impl_isRegister.mono : ∀ a0 a1 a2 k, LeO (impl_isRegister.f k a0 a1 a2) (impl_isRegister.f (k + 1) a0 a1 a2) := fun _ _ _ _ => LeO.refl _
theorem goodOps_step {clk n : Int} {l : List S83} {i : Nat} {S T : List Int} (h : i < l.length) : goodOps clk n (l.drop i) S T = (!badA clk n S l[i] && (if l[i].f3 = 3 then !badC clk (l[i].f6 :: S) l[i] && goodOps clk n (l.drop (i + 1)) (l[i].f7 :: l[i].f6 :: S) T else !badB T l[i] && goodOps clk n (l.drop (i + 1)) (l[i].f6 :: S) (l[i].f0 :: T))) := by
  rw [List.drop_eq_getElem_cons h]; rfl
theorem goodOps_end {clk n : Int} {l : List S83} {S T : List Int} : goodOps clk n (l.drop l.length) S T = true := by rw [List.drop_length]; rfl

set_option maxHeartbeats 8000000 in
set_option maxRecDepth 100000 in
theorem impl_isRegister.calls (k : Nat) (a0_0 : Int) (A0_1 : Option Addr) (c0_1 : Nat) (l0_1 : List (S40)) (A0_2 : Option Addr) (c0_2 : Nat) (l0_2 : List (S83)) (r : Bool) (w : World) (hr0_1 : Kd.C k40 w A0_1 l0_1.length l0_1) (hc0_1 : l0_1.length ≤ c0_1) (hr0_2 : Kd.C k83 w A0_2 l0_2.length l0_2) (hc0_2 : l0_2.length ≤ c0_2) (h : impl_isRegister.f k a0_0 l0_1 l0_2 = some r) :
  Calls Try.prog 59 #[.agg #[.int .i64 a0_0, .slice A0_1 l0_1.length c0_1, .slice A0_2 l0_2.length c0_2]] w fun e w' => e = .returned (.bool r) ∧ Below w.heap.size w w' := by
 obtain ⟨hs, hg⟩ : (l0_1.all szCp && l0_2.all szOp) = true ∧ goodReg a0_0 l0_1 l0_2 = r := by
  unfold impl_isRegister.f at h
  by_cases hs : (l0_1.all szCp && l0_2.all szOp) = true
  · rw [if_pos hs] at h; exact ⟨hs, Option.some.inj h⟩
  · rw [if_neg hs] at h; cases h
 clear h
 have HS1 : Aside0 (∀ x ∈ l0_1, szCp x = true) := ⟨by rw [Bool.and_eq_true] at hs; exact List.all_eq_true.1 hs.1⟩
 have HS2 : Aside0 (∀ x ∈ l0_2, szOp x = true) := ⟨by rw [Bool.and_eq_true] at hs; exact List.all_eq_true.1 hs.2⟩
 have HG := Aside0.mk hg
 clear hs hg
 have HL : Aside0 (l0_2.length ≤ 9223372036854775807) := ⟨hr0_2.2.1⟩
 have hu25 := Try.underlying25
 have hu83 := Try.underlying83
 have hu40 := Try.underlying40
 have HR0_1 := Aside0.mk hr0_1
 have HC0_1 := Aside0.mk hc0_1
 clear hr0_1 hc0_1
 have HR0_2 := Aside0.mk hr0_2
 have HC0_2 := Aside0.mk hc0_2
 clear hr0_2 hc0_2
 have HB := Aside0.mk (Below.refl w.heap.size w)
 go_enter Try.func59, Try.ntmps59
 go_upto_region 2 with (first | ((with_reducible refine gate_dst (N := 1) rfl ?_); (try (refine gate_guard (by rfl) ?_; dsimp only)); refine box_event rfl (N := 1) rfl (cs := #[.int .i64 a0_0, .slice A0_1 l0_1.length c0_1, .slice A0_2 l0_2.length c0_2]) (t := 25) gs_ ?_; intro gb222 hg w3 hbox hb; have BK222 := Aside0.mk (hbox); have GE222 := Aside0.mk ((by rw [hg]; exact bz_ : w.heap.size ≤ gb222)); replace HB := Aside0.mk (below_step bl_ hb); clear hb hbox hg; have hcz4_0 : w3.cell? ⟨gb222, 0, none⟩ = some (.int .i64 a0_0) := bc_ BK222.out 0; have hcz4_1 : w3.cell? ⟨gb222, 1, none⟩ = some (.slice A0_1 l0_1.length c0_1) := bc_ BK222.out 1; have hcz4_2 : w3.cell? ⟨gb222, 2, none⟩ = some (.slice A0_2 l0_2.length c0_2) := bc_ BK222.out 2; have hfz4_0 := blk_frozen BK222.out 0; have hfz4_1 := blk_frozen BK222.out 1; have hfz4_2 := blk_frozen BK222.out 2))
 (try simp only [Act.put, List.setIfInBounds_toArray, List.set_cons_zero, List.set_cons_succ])
 go_cut [30] (fun v30 wc => v30 = .bool (badT a0_0 l0_1 l0_2) ∧ Aside0 (wc.heap[gb222]? = some (.cells #[.int .i64 a0_0, (.slice A0_1 l0_1.length c0_1), (.slice A0_2 l0_2.length c0_2)] 25 (0, 0))) ∧ Aside0 (Below w.heap.size w wc))
 case first =>
  cases h1 : inB a0_0 0 1000
  rotate_left
  cases h2 : inB (l0_1.length : Int) 1 12
  rotate_left
  cases h3 : decide (7 < (l0_2.length : Int))
  all_goals
   go_wp2_with (first
    | (go_at_call 45; (with_reducible refine (in_c _ _ _ _).mono ?_); rintro e w' ⟨rfl, ⟨nd, rfl⟩⟩)
    | (go_at_call 85; (with_reducible refine (has_c A0_1 c0_1 l0_1 HS1.out _ ?s1 HC0_1.out).mono ?_); (case s1 => exact (Kd.C_below HR0_1.out bl_)); rintro e w4 ⟨rfl, hb⟩; replace HB := Aside0.mk (below_step bl_ hb); replace BK222 := bb_ BK222 hb; clear hb))
   go_meet
   exact ⟨by first | rfl | (simp [badT, h1]; done) | (simp [badT, h1, h2]; done) | (simp [badT, h1, h2, h3]; done), ⟨kb_ BK222.out⟩, ⟨bl_⟩⟩
 obtain ⟨rfl, BK222, HB⟩ := hcut
 cases hT : badT a0_0 l0_1 l0_2
 rotate_left
 · have er : r = false := by rw [← HG.out]; simp [goodReg, hT]
   subst er
   go_wp2
   go_ret
   exact ⟨rfl, bl_⟩
 have H7 : Aside0 (l0_2.length ≤ 7) := ⟨by unfold badT at hT; simp at hT; have := hT.2.2.1; omega⟩
 have HN : Aside0 (inB (l0_1.length : Int) 1 12 = true) := ⟨by unfold badT at hT; simp at hT; exact hT.2.1⟩
 replace HG : Aside0 (goodOps a0_0 (l0_1.length : Int) (l0_2.drop 0) [] [] = r) := ⟨by have q := HG.out; unfold goodReg at q; rw [hT] at q; simpa using q⟩
 have hmm := @run_makeMap Try.prog
 go_upto_region 4 with (fail)
 (try simp only [Act.put, List.setIfInBounds_toArray, List.set_cons_zero, List.set_cons_succ])
 go_cut [4, 5] (fun v4 v5 wd => ∃ g4 g5 : Nat, v4 = .map (some g4) ∧ v5 = .map (some g5) ∧ Aside0 (TS w wd g4 [] g5 []) ∧ Aside0 (wd.heap[gb222]? = some (.cells #[.int .i64 a0_0, (.slice A0_1 l0_1.length c0_1), (.slice A0_2 l0_2.length c0_2)] 25 (0, 0))) ∧ Aside0 (Below w.heap.size w wd))
 case first =>
  go_wp2
  go_meet
  exact ⟨_, _, rfl, rfl, ⟨⟨HB.out.size, Nat.le_succ_of_le HB.out.size, by omega, (OSet.made _ _ _ _).alloc _, by simpa using OSet.made Try.prog 3 4 (wc.alloc (.map #[] 0))⟩⟩, ⟨kb_ BK222.out⟩, ⟨bl_⟩⟩
 clear hmm
 obtain ⟨g4, g5, rfl, rfl, OS, BK222, HB⟩ := hcut
 have hcz5_0 : wc.cell? ⟨gb222, 0, none⟩ = some (.int .i64 a0_0) := bc_ BK222.out 0
 have hcz5_1 : wc.cell? ⟨gb222, 1, none⟩ = some (.slice A0_1 l0_1.length c0_1) := bc_ BK222.out 1
 have hcz5_2 : wc.cell? ⟨gb222, 2, none⟩ = some (.slice A0_2 l0_2.length c0_2) := bc_ BK222.out 2
 have hfz5_0 := blk_frozen BK222.out 0
 have hfz5_1 := blk_frozen BK222.out 1
 have hfz5_2 := blk_frozen BK222.out 2
 go_wp2
 go_loopg [36] l0_2.length (fun gg v36 w' => ∃ (i : Nat) (S T : List Int), v36 = .int .i64 (i : Int) ∧ i ≤ l0_2.length ∧ l0_2.length - i ≤ gg ∧ Aside0 (goodOps a0_0 (l0_1.length : Int) (l0_2.drop i) S T = r) ∧ Aside0 (S.length ≤ 2 * i ∧ T.length ≤ i) ∧ Aside0 (TS w w' g4 S g5 T) ∧ Aside0 (w'.heap[gb222]? = some (.cells #[.int .i64 a0_0, (.slice A0_1 l0_1.length c0_1), (.slice A0_2 l0_2.length c0_2)] 25 (0, 0))) ∧ Aside0 (Below w.heap.size w w'))
 case atStart => exact ⟨0, [], [], rfl, Nat.zero_le _, by omega, HG, ⟨by simp⟩, OS, ⟨kb_ BK222.out⟩, ⟨bl_⟩⟩
 case round =>
  clear HG OS BK222 HB hcz5_0 hcz5_1 hcz5_2 hfz5_0 hfz5_1 hfz5_2 hT
  obtain ⟨i, S, T, rfl, hi, hgg, HG, HN2, OS, BK222, HB⟩ := hrel
  by_cases hlt : i < l0_2.length
  rotate_left
  · have ei : i = l0_2.length := by omega
    subst ei
    have er : r = true := by rw [← HG.out, goodOps_end]
    subst er
    go_wp2
    go_ret
    exact ⟨rfl, bl_⟩
  have hltz : (i : Int) < (l0_2.length : Int) := by omega
  replace HG := Aside0.mk ((goodOps_step hlt).symm.trans HG.out)
  have HO := Aside0.mk (rdT83 hlt)
  have HV := Aside0.mk (HS2.out _ (List.getElem_mem hlt))
  obtain ⟨ad226, A226_4, c226_4, e226, hx0, hx1, hx2, hx3, hx4, hx5, hx6, hx7, hx8, hx9, hl226_4, hi226_4⟩ := at_T83 HR0_2.out (i : Int) (by omega) hltz
  cases e226
  replace hx0 := (HB.out.cell (World.block_lt_of_cell? w _ hx0)).trans hx0
  replace hx1 := (HB.out.cell (World.block_lt_of_cell? w _ hx1)).trans hx1
  replace hx2 := (HB.out.cell (World.block_lt_of_cell? w _ hx2)).trans hx2
  replace hx3 := (HB.out.cell (World.block_lt_of_cell? w _ hx3)).trans hx3
  replace hx4 := (HB.out.cell (World.block_lt_of_cell? w _ hx4)).trans hx4
  replace hx5 := (HB.out.cell (World.block_lt_of_cell? w _ hx5)).trans hx5
  replace hx6 := (HB.out.cell (World.block_lt_of_cell? w _ hx6)).trans hx6
  replace hx7 := (HB.out.cell (World.block_lt_of_cell? w _ hx7)).trans hx7
  replace hx8 := (HB.out.cell (World.block_lt_of_cell? w _ hx8)).trans hx8
  replace hx9 := (HB.out.cell (World.block_lt_of_cell? w _ hx9)).trans hx9
  simp only [Int.toNat_natCast] at hx0 hx1 hx2 hx3 hx4 hx5 hx6 hx7 hx8 hx9
  generalize hq : l0_2[i] = o at HG HO HV
  clear hq
  rw [HO.out] at hx0 hx1 hx2 hx3 hx4 hx5 hx6 hx7 hx8 hx9 hl226_4 hi226_4
  clear HO
  have HR4 := Aside0.mk hi226_4
  have HC4 := Aside0.mk hl226_4
  clear hi226_4 hl226_4
  have HV2 : Aside0 (o.f2.size ≤ 9223372036854775807) := ⟨by have q := HV.out; simp [szOp] at q; exact q.1⟩
  have HV5 : Aside0 (o.f5.f2.size ≤ 9223372036854775807) := ⟨by have q := HV.out; simp [szOp, szCp] at q; exact q.2⟩
  have p226 := eq_true (show (0 : Int) ≤ (i : Int) by omega)
  replace hltz := eq_true hltz
  have hcz6_0 : wr.cell? ⟨gb222, 0, none⟩ = some (.int .i64 a0_0) := bc_ BK222.out 0
  have hcz6_1 : wr.cell? ⟨gb222, 1, none⟩ = some (.slice A0_1 l0_1.length c0_1) := bc_ BK222.out 1
  have hcz6_2 : wr.cell? ⟨gb222, 2, none⟩ = some (.slice (some ad226) l0_2.length c0_2) := bc_ BK222.out 2
  have hfz6_0 := blk_frozen BK222.out 0
  have hfz6_1 := blk_frozen BK222.out 1
  have hfz6_2 := blk_frozen BK222.out 2
  go_upto_region 7 with (fail)
  (try simp only [Act.put, List.setIfInBounds_toArray, List.set_cons_zero, List.set_cons_succ])
  go_cut [7] (fun v7 wc => ∃ gb227 : Nat, v7 = .pointer (some ⟨gb227, 0, none⟩) ∧ Aside0 (gb222 ≠ gb227) ∧ Aside0 (w.heap.size ≤ gb227) ∧ Aside0 (TS w wc g4 S g5 T) ∧ Aside0 (wc.heap[gb222]? = some (.cells #[.int .i64 a0_0, (.slice A0_1 l0_1.length c0_1), (.slice (some ad226) l0_2.length c0_2)] 25 (0, 0))) ∧ Aside0 (wc.heap[gb227]? = some (.cells #[.int .i64 o.f0, .bool o.f1, .string o.f2, .int .i64 o.f3, .slice A226_4 o.f4.length c226_4, .int .i64 o.f5.f0, .int .i64 o.f5.f1, .string o.f5.f2, .int .i64 o.f6, .int .i64 o.f7] 83 (0, 0))) ∧ Aside0 (Below w.heap.size w wc))
  case first =>
   go_wp2_with (first | ((with_reducible refine gate_dst (N := 7) rfl ?_); (try (refine gate_guard (by rfl) ?_; dsimp only)); refine box_event rfl (N := 7) rfl (cs := #[.int .i64 0, .bool false, .string (⟨#[]⟩ : ByteArray), .int .i64 0, .slice none 0 0, .int .i64 0, .int .i64 0, .string (⟨#[]⟩ : ByteArray), .int .i64 0, .int .i64 0]) (t := 83) gs_ ?_; intro gb227 hg w22 hbox hb; have BK227 := Aside0.mk (hbox); have GE227 := Aside0.mk ((by rw [hg]; exact bz_ : w.heap.size ≤ gb227)); replace HB := Aside0.mk (below_step bl_ hb); have NB222_227 := nl_ hg BK222; have NB227_222 := nm_ hg BK222; replace BK222 := bb_ BK222 hb; replace OS := tsb_ OS hb; clear hb hbox hg; have hnb23 := NB227_222.out; have hnc23 := NB222_227.out; have hcz24_0 : w22.cell? ⟨gb227, 0, none⟩ = some (.int .i64 0) := bc_ BK227.out 0; have hcz24_1 : w22.cell? ⟨gb227, 1, none⟩ = some (.bool false) := bc_ BK227.out 1; have hcz24_2 : w22.cell? ⟨gb227, 2, none⟩ = some (.string (⟨#[]⟩ : ByteArray)) := bc_ BK227.out 2; have hcz24_3 : w22.cell? ⟨gb227, 3, none⟩ = some (.int .i64 0) := bc_ BK227.out 3; have hcz24_4 : w22.cell? ⟨gb227, 4, none⟩ = some (.slice none 0 0) := bc_ BK227.out 4; have hcz24_5 : w22.cell? ⟨gb227, 5, none⟩ = some (.int .i64 0) := bc_ BK227.out 5; have hcz24_6 : w22.cell? ⟨gb227, 6, none⟩ = some (.int .i64 0) := bc_ BK227.out 6; have hcz24_7 : w22.cell? ⟨gb227, 7, none⟩ = some (.string (⟨#[]⟩ : ByteArray)) := bc_ BK227.out 7; have hcz24_8 : w22.cell? ⟨gb227, 8, none⟩ = some (.int .i64 0) := bc_ BK227.out 8; have hcz24_9 : w22.cell? ⟨gb227, 9, none⟩ = some (.int .i64 0) := bc_ BK227.out 9; have hfz24_0 := blk_frozen BK227.out 0; have hfz24_1 := blk_frozen BK227.out 1; have hfz24_2 := blk_frozen BK227.out 2; have hfz24_3 := blk_frozen BK227.out 3; have hfz24_4 := blk_frozen BK227.out 4; have hfz24_5 := blk_frozen BK227.out 5; have hfz24_6 := blk_frozen BK227.out 6; have hfz24_7 := blk_frozen BK227.out 7; have hfz24_8 := blk_frozen BK227.out 8; have hfz24_9 := blk_frozen BK227.out 9))
   have N4 := Aside0.mk (OS.out.ne4 BK227.out)
   have N5 := Aside0.mk (OS.out.ne5 BK227.out)
   go_meet
   exact ⟨gb227, rfl, NB222_227, GE227, ⟨by with_reducible repeat (first | exact OS.out | refine TS.far ?_ N4.out N5.out _ _)⟩, ⟨kz_⟩, ⟨by refine blk_put (cs := #[.int .i64 o.f0, .bool o.f1, .string o.f2, .int .i64 o.f3, .slice A226_4 o.f4.length c226_4, .int .i64 o.f5.f0, .int .i64 o.f5.f1, .string o.f5.f2, .int .i64 o.f6, .int .i64 0]) ?_ 9 _ rfl; refine blk_put (cs := #[.int .i64 o.f0, .bool o.f1, .string o.f2, .int .i64 o.f3, .slice A226_4 o.f4.length c226_4, .int .i64 o.f5.f0, .int .i64 o.f5.f1, .string o.f5.f2, .int .i64 0, .int .i64 0]) ?_ 8 _ rfl; refine blk_put (cs := #[.int .i64 o.f0, .bool o.f1, .string o.f2, .int .i64 o.f3, .slice A226_4 o.f4.length c226_4, .int .i64 o.f5.f0, .int .i64 o.f5.f1, .string (⟨#[]⟩ : ByteArray), .int .i64 0, .int .i64 0]) ?_ 7 _ rfl; refine blk_put (cs := #[.int .i64 o.f0, .bool o.f1, .string o.f2, .int .i64 o.f3, .slice A226_4 o.f4.length c226_4, .int .i64 o.f5.f0, .int .i64 0, .string (⟨#[]⟩ : ByteArray), .int .i64 0, .int .i64 0]) ?_ 6 _ rfl; refine blk_put (cs := #[.int .i64 o.f0, .bool o.f1, .string o.f2, .int .i64 o.f3, .slice A226_4 o.f4.length c226_4, .int .i64 0, .int .i64 0, .string (⟨#[]⟩ : ByteArray), .int .i64 0, .int .i64 0]) ?_ 5 _ rfl; refine blk_put (cs := #[.int .i64 o.f0, .bool o.f1, .string o.f2, .int .i64 o.f3, .slice none 0 0, .int .i64 0, .int .i64 0, .string (⟨#[]⟩ : ByteArray), .int .i64 0, .int .i64 0]) ?_ 4 _ rfl; refine blk_put (cs := #[.int .i64 o.f0, .bool o.f1, .string o.f2, .int .i64 0, .slice none 0 0, .int .i64 0, .int .i64 0, .string (⟨#[]⟩ : ByteArray), .int .i64 0, .int .i64 0]) ?_ 3 _ rfl; refine blk_put (cs := #[.int .i64 o.f0, .bool o.f1, .string (⟨#[]⟩ : ByteArray), .int .i64 0, .slice none 0 0, .int .i64 0, .int .i64 0, .string (⟨#[]⟩ : ByteArray), .int .i64 0, .int .i64 0]) ?_ 2 _ rfl; refine blk_put (cs := #[.int .i64 o.f0, .bool false, .string (⟨#[]⟩ : ByteArray), .int .i64 0, .slice none 0 0, .int .i64 0, .int .i64 0, .string (⟨#[]⟩ : ByteArray), .int .i64 0, .int .i64 0]) ?_ 1 _ rfl; refine blk_put (cs := #[.int .i64 0, .bool false, .string (⟨#[]⟩ : ByteArray), .int .i64 0, .slice none 0 0, .int .i64 0, .int .i64 0, .string (⟨#[]⟩ : ByteArray), .int .i64 0, .int .i64 0]) ?_ 0 _ rfl; exact BK227.out⟩, ⟨bl_⟩⟩
  clear hx0 hx1 hx2 hx3 hx4 hx5 hx6 hx7 hx8 hx9 hcz6_0 hcz6_1 hcz6_2 hfz6_0 hfz6_1 hfz6_2 OS BK222 HB
  obtain ⟨gb227, rfl, NB, GE227, OS, BK222, BK227, HB⟩ := hcut
  have hnb := NB.out
  have hnc := hnb.symm
  go_upto_region 8 with (fail)
  (try simp only [Act.put, List.setIfInBounds_toArray, List.set_cons_zero, List.set_cons_succ])
  go_cut [101] (fun v101 wc => v101 = .bool (badA a0_0 (l0_1.length : Int) S o) ∧ Aside0 (TS w wc g4 S g5 T) ∧ Aside0 (wc.heap[gb222]? = some (.cells #[.int .i64 a0_0, (.slice A0_1 l0_1.length c0_1), (.slice (some ad226) l0_2.length c0_2)] 25 (0, 0))) ∧ Aside0 (wc.heap[gb227]? = some (.cells #[.int .i64 o.f0, .bool o.f1, .string o.f2, .int .i64 o.f3, .slice A226_4 o.f4.length c226_4, .int .i64 o.f5.f0, .int .i64 o.f5.f1, .string o.f5.f2, .int .i64 o.f6, .int .i64 o.f7] 83 (0, 0))) ∧ Aside0 (Below w.heap.size w wc))
  case first =>
   as_aux_lemma =>
   have ya_0 : wc.cell? ⟨gb222, 0, none⟩ = some (.int .i64 a0_0) := bc_ BK222.out 0
   have yb_0 := blk_frozen BK222.out 0
   have ya_1 : wc.cell? ⟨gb222, 1, none⟩ = some (.slice A0_1 l0_1.length c0_1) := bc_ BK222.out 1
   have yb_1 := blk_frozen BK222.out 1
   have ya_2 : wc.cell? ⟨gb222, 2, none⟩ = some (.slice (some ad226) l0_2.length c0_2) := bc_ BK222.out 2
   have yb_2 := blk_frozen BK222.out 2
   have yc_0 : wc.cell? ⟨gb227, 0, none⟩ = some (.int .i64 o.f0) := bc_ BK227.out 0
   have yd_0 := blk_frozen BK227.out 0
   have yc_1 : wc.cell? ⟨gb227, 1, none⟩ = some (.bool o.f1) := bc_ BK227.out 1
   have yd_1 := blk_frozen BK227.out 1
   have yc_2 : wc.cell? ⟨gb227, 2, none⟩ = some (.string o.f2) := bc_ BK227.out 2
   have yd_2 := blk_frozen BK227.out 2
   have yc_3 : wc.cell? ⟨gb227, 3, none⟩ = some (.int .i64 o.f3) := bc_ BK227.out 3
   have yd_3 := blk_frozen BK227.out 3
   have yc_4 : wc.cell? ⟨gb227, 4, none⟩ = some (.slice A226_4 o.f4.length c226_4) := bc_ BK227.out 4
   have yd_4 := blk_frozen BK227.out 4
   have yc_5 : wc.cell? ⟨gb227, 5, none⟩ = some (.int .i64 o.f5.f0) := bc_ BK227.out 5
   have yd_5 := blk_frozen BK227.out 5
   have yc_6 : wc.cell? ⟨gb227, 6, none⟩ = some (.int .i64 o.f5.f1) := bc_ BK227.out 6
   have yd_6 := blk_frozen BK227.out 6
   have yc_7 : wc.cell? ⟨gb227, 7, none⟩ = some (.string o.f5.f2) := bc_ BK227.out 7
   have yd_7 := blk_frozen BK227.out 7
   have yc_8 : wc.cell? ⟨gb227, 8, none⟩ = some (.int .i64 o.f6) := bc_ BK227.out 8
   have yd_8 := blk_frozen BK227.out 8
   have yc_9 : wc.cell? ⟨gb227, 9, none⟩ = some (.int .i64 o.f7) := bc_ BK227.out 9
   have yd_9 := blk_frozen BK227.out 9
   cases h1 : inB o.f0 0 9
   rotate_left
   cases h2 : okVal o.f2
   rotate_left
   cases h3 : o.f1
   · cases h4 : (o.f2.toList != ([] : List UInt8))
     · have h4e : (o.f2.toList == ([] : List UInt8)) = true := by simpa [bne] using h4
       cases h5 : inB o.f3 1 3
       rotate_left
       cases h6 : risB o.f4 (wrap64 ((l0_1.length : Int) - 1))
       rotate_left
       cases h7 : decide ((l0_1.length : Int) < wrap64 (2 * (o.f4.length : Int)))
       cases h8 : okCp o.f5.f0 o.f5.f1 o.f5.f2
       rotate_left
       cases h9 : inB o.f6 0 (wrap64 (a0_0 - 1))
       rotate_left
       all_goals as_aux_lemma =>
        go_wp2_with (first
         | (go_at_call 45; (with_reducible refine (in_c _ _ _ _).mono ?_); rintro e w' ⟨rfl, ⟨nd, rfl⟩⟩)
         | (go_at_call 88; (with_reducible refine (val_c _ HV2.out _).mono ?_); rintro e w' ⟨rfl, ⟨nd, rfl⟩⟩)
         | (go_at_call 89; (with_reducible refine (ris_c A226_4 c226_4 o.f4 _ _ ?s1 HC4.out).mono ?_); (case s1 => exact (Kd.C_below HR4.out bl_)); rintro e w' ⟨rfl, ⟨nd, rfl⟩⟩)
         | (go_at_call 87; (with_reducible refine (cp_c _ _ _ HV5.out _).mono ?_); rintro e w4 ⟨rfl, hb⟩; replace HB := Aside0.mk (below_step bl_ hb); replace BK222 := bb_ BK222 hb; replace BK227 := bb_ BK227 hb; replace OS := tsb_ OS hb; clear hb; clear ya_0 yb_0 ya_1 yb_1 ya_2 yb_2 yc_0 yd_0 yc_1 yd_1 yc_2 yd_2 yc_3 yd_3 yc_4 yd_4 yc_5 yd_5 yc_6 yd_6 yc_7 yd_7 yc_8 yd_8 yc_9 yd_9; have za_0 : w4.cell? ⟨gb222, 0, none⟩ = some (.int .i64 a0_0) := bc_ BK222.out 0; have zb_0 := blk_frozen BK222.out 0; have za_1 : w4.cell? ⟨gb222, 1, none⟩ = some (.slice A0_1 l0_1.length c0_1) := bc_ BK222.out 1; have zb_1 := blk_frozen BK222.out 1; have za_2 : w4.cell? ⟨gb222, 2, none⟩ = some (.slice (some ad226) l0_2.length c0_2) := bc_ BK222.out 2; have zb_2 := blk_frozen BK222.out 2; have zc_0 : w4.cell? ⟨gb227, 0, none⟩ = some (.int .i64 o.f0) := bc_ BK227.out 0; have zd_0 := blk_frozen BK227.out 0; have zc_1 : w4.cell? ⟨gb227, 1, none⟩ = some (.bool o.f1) := bc_ BK227.out 1; have zd_1 := blk_frozen BK227.out 1; have zc_2 : w4.cell? ⟨gb227, 2, none⟩ = some (.string o.f2) := bc_ BK227.out 2; have zd_2 := blk_frozen BK227.out 2; have zc_3 : w4.cell? ⟨gb227, 3, none⟩ = some (.int .i64 o.f3) := bc_ BK227.out 3; have zd_3 := blk_frozen BK227.out 3; have zc_4 : w4.cell? ⟨gb227, 4, none⟩ = some (.slice A226_4 o.f4.length c226_4) := bc_ BK227.out 4; have zd_4 := blk_frozen BK227.out 4; have zc_5 : w4.cell? ⟨gb227, 5, none⟩ = some (.int .i64 o.f5.f0) := bc_ BK227.out 5; have zd_5 := blk_frozen BK227.out 5; have zc_6 : w4.cell? ⟨gb227, 6, none⟩ = some (.int .i64 o.f5.f1) := bc_ BK227.out 6; have zd_6 := blk_frozen BK227.out 6; have zc_7 : w4.cell? ⟨gb227, 7, none⟩ = some (.string o.f5.f2) := bc_ BK227.out 7; have zd_7 := blk_frozen BK227.out 7; have zc_8 : w4.cell? ⟨gb227, 8, none⟩ = some (.int .i64 o.f6) := bc_ BK227.out 8; have zd_8 := blk_frozen BK227.out 8; have zc_9 : w4.cell? ⟨gb227, 9, none⟩ = some (.int .i64 o.f7) := bc_ BK227.out 9; have zd_9 := blk_frozen BK227.out 9; try (have hlk := fun n : Nat => (OS.out.o4.drewN n).look (mt := 116) Try.underlying3 Try.underlying4 Try.underlying116 (zero4 _) (wf_in h9))))
        go_meet
        exact ⟨by first | rfl | (simp [badA, h1]; done) | (simp [badA, h1, h2]; done) | (simp [badA, h1, h2, h3]; done) | (simp [badA, h1, h2, h3, h4]; done) | (simp [badA, h1, h2, h3, h4, h5]; done) | (simp [badA, h1, h2, h3, h4, h5, h6]; done) | (simp [badA, h1, h2, h3, h4, h5, h6, h7]; done) | (simp [badA, h1, h2, h3, h4, h5, h6, h7, h8]; done) | (simp [badA, h1, h2, h3, h4, h5, h6, h7, h8, h9]; done), tsk1_ OS, ⟨kb_ BK222.out⟩, ⟨kb_ BK227.out⟩, ⟨bl_⟩⟩
     · have h4e : (o.f2.toList == ([] : List UInt8)) = false := by simpa [bne] using h4
       go_wp2_with (first
        | (go_at_call 45; (with_reducible refine (in_c _ _ _ _).mono ?_); rintro e w' ⟨rfl, ⟨nd, rfl⟩⟩)
        | (go_at_call 88; (with_reducible refine (val_c _ HV2.out _).mono ?_); rintro e w' ⟨rfl, ⟨nd, rfl⟩⟩)
        | (go_at_call 89; (with_reducible refine (ris_c A226_4 c226_4 o.f4 _ _ ?s1 HC4.out).mono ?_); (case s1 => exact (Kd.C_below HR4.out bl_)); rintro e w' ⟨rfl, ⟨nd, rfl⟩⟩)
        | (go_at_call 87; (with_reducible refine (cp_c _ _ _ HV5.out _).mono ?_); rintro e w4 ⟨rfl, hb⟩; replace HB := Aside0.mk (below_step bl_ hb); replace BK222 := bb_ BK222 hb; replace BK227 := bb_ BK227 hb; replace OS := tsb_ OS hb; clear hb; clear ya_0 yb_0 ya_1 yb_1 ya_2 yb_2 yc_0 yd_0 yc_1 yd_1 yc_2 yd_2 yc_3 yd_3 yc_4 yd_4 yc_5 yd_5 yc_6 yd_6 yc_7 yd_7 yc_8 yd_8 yc_9 yd_9; have za_0 : w4.cell? ⟨gb222, 0, none⟩ = some (.int .i64 a0_0) := bc_ BK222.out 0; have zb_0 := blk_frozen BK222.out 0; have za_1 : w4.cell? ⟨gb222, 1, none⟩ = some (.slice A0_1 l0_1.length c0_1) := bc_ BK222.out 1; have zb_1 := blk_frozen BK222.out 1; have za_2 : w4.cell? ⟨gb222, 2, none⟩ = some (.slice (some ad226) l0_2.length c0_2) := bc_ BK222.out 2; have zb_2 := blk_frozen BK222.out 2; have zc_0 : w4.cell? ⟨gb227, 0, none⟩ = some (.int .i64 o.f0) := bc_ BK227.out 0; have zd_0 := blk_frozen BK227.out 0; have zc_1 : w4.cell? ⟨gb227, 1, none⟩ = some (.bool o.f1) := bc_ BK227.out 1; have zd_1 := blk_frozen BK227.out 1; have zc_2 : w4.cell? ⟨gb227, 2, none⟩ = some (.string o.f2) := bc_ BK227.out 2; have zd_2 := blk_frozen BK227.out 2; have zc_3 : w4.cell? ⟨gb227, 3, none⟩ = some (.int .i64 o.f3) := bc_ BK227.out 3; have zd_3 := blk_frozen BK227.out 3; have zc_4 : w4.cell? ⟨gb227, 4, none⟩ = some (.slice A226_4 o.f4.length c226_4) := bc_ BK227.out 4; have zd_4 := blk_frozen BK227.out 4; have zc_5 : w4.cell? ⟨gb227, 5, none⟩ = some (.int .i64 o.f5.f0) := bc_ BK227.out 5; have zd_5 := blk_frozen BK227.out 5; have zc_6 : w4.cell? ⟨gb227, 6, none⟩ = some (.int .i64 o.f5.f1) := bc_ BK227.out 6; have zd_6 := blk_frozen BK227.out 6; have zc_7 : w4.cell? ⟨gb227, 7, none⟩ = some (.string o.f5.f2) := bc_ BK227.out 7; have zd_7 := blk_frozen BK227.out 7; have zc_8 : w4.cell? ⟨gb227, 8, none⟩ = some (.int .i64 o.f6) := bc_ BK227.out 8; have zd_8 := blk_frozen BK227.out 8; have zc_9 : w4.cell? ⟨gb227, 9, none⟩ = some (.int .i64 o.f7) := bc_ BK227.out 9; have zd_9 := blk_frozen BK227.out 9; try (have hlk := fun n : Nat => (OS.out.o4.drewN n).look (mt := 116) Try.underlying3 Try.underlying4 Try.underlying116 (zero4 _) (wf_in h9))))
       go_meet
       exact ⟨by first | rfl | (simp [badA, h1]; done) | (simp [badA, h1, h2]; done) | (simp [badA, h1, h2, h3]; done) | (simp [badA, h1, h2, h3, h4]; done), tsk1_ OS, ⟨kb_ BK222.out⟩, ⟨kb_ BK227.out⟩, ⟨bl_⟩⟩
   · skip
     cases h5 : inB o.f3 1 3
     rotate_left
     cases h6 : risB o.f4 (wrap64 ((l0_1.length : Int) - 1))
     rotate_left
     cases h7 : decide ((l0_1.length : Int) < wrap64 (2 * (o.f4.length : Int)))
     cases h8 : okCp o.f5.f0 o.f5.f1 o.f5.f2
     rotate_left
     cases h9 : inB o.f6 0 (wrap64 (a0_0 - 1))
     rotate_left
     all_goals as_aux_lemma =>
      go_wp2_with (first
       | (go_at_call 45; (with_reducible refine (in_c _ _ _ _).mono ?_); rintro e w' ⟨rfl, ⟨nd, rfl⟩⟩)
       | (go_at_call 88; (with_reducible refine (val_c _ HV2.out _).mono ?_); rintro e w' ⟨rfl, ⟨nd, rfl⟩⟩)
       | (go_at_call 89; (with_reducible refine (ris_c A226_4 c226_4 o.f4 _ _ ?s1 HC4.out).mono ?_); (case s1 => exact (Kd.C_below HR4.out bl_)); rintro e w' ⟨rfl, ⟨nd, rfl⟩⟩)
       | (go_at_call 87; (with_reducible refine (cp_c _ _ _ HV5.out _).mono ?_); rintro e w4 ⟨rfl, hb⟩; replace HB := Aside0.mk (below_step bl_ hb); replace BK222 := bb_ BK222 hb; replace BK227 := bb_ BK227 hb; replace OS := tsb_ OS hb; clear hb; clear ya_0 yb_0 ya_1 yb_1 ya_2 yb_2 yc_0 yd_0 yc_1 yd_1 yc_2 yd_2 yc_3 yd_3 yc_4 yd_4 yc_5 yd_5 yc_6 yd_6 yc_7 yd_7 yc_8 yd_8 yc_9 yd_9; have za_0 : w4.cell? ⟨gb222, 0, none⟩ = some (.int .i64 a0_0) := bc_ BK222.out 0; have zb_0 := blk_frozen BK222.out 0; have za_1 : w4.cell? ⟨gb222, 1, none⟩ = some (.slice A0_1 l0_1.length c0_1) := bc_ BK222.out 1; have zb_1 := blk_frozen BK222.out 1; have za_2 : w4.cell? ⟨gb222, 2, none⟩ = some (.slice (some ad226) l0_2.length c0_2) := bc_ BK222.out 2; have zb_2 := blk_frozen BK222.out 2; have zc_0 : w4.cell? ⟨gb227, 0, none⟩ = some (.int .i64 o.f0) := bc_ BK227.out 0; have zd_0 := blk_frozen BK227.out 0; have zc_1 : w4.cell? ⟨gb227, 1, none⟩ = some (.bool o.f1) := bc_ BK227.out 1; have zd_1 := blk_frozen BK227.out 1; have zc_2 : w4.cell? ⟨gb227, 2, none⟩ = some (.string o.f2) := bc_ BK227.out 2; have zd_2 := blk_frozen BK227.out 2; have zc_3 : w4.cell? ⟨gb227, 3, none⟩ = some (.int .i64 o.f3) := bc_ BK227.out 3; have zd_3 := blk_frozen BK227.out 3; have zc_4 : w4.cell? ⟨gb227, 4, none⟩ = some (.slice A226_4 o.f4.length c226_4) := bc_ BK227.out 4; have zd_4 := blk_frozen BK227.out 4; have zc_5 : w4.cell? ⟨gb227, 5, none⟩ = some (.int .i64 o.f5.f0) := bc_ BK227.out 5; have zd_5 := blk_frozen BK227.out 5; have zc_6 : w4.cell? ⟨gb227, 6, none⟩ = some (.int .i64 o.f5.f1) := bc_ BK227.out 6; have zd_6 := blk_frozen BK227.out 6; have zc_7 : w4.cell? ⟨gb227, 7, none⟩ = some (.string o.f5.f2) := bc_ BK227.out 7; have zd_7 := blk_frozen BK227.out 7; have zc_8 : w4.cell? ⟨gb227, 8, none⟩ = some (.int .i64 o.f6) := bc_ BK227.out 8; have zd_8 := blk_frozen BK227.out 8; have zc_9 : w4.cell? ⟨gb227, 9, none⟩ = some (.int .i64 o.f7) := bc_ BK227.out 9; have zd_9 := blk_frozen BK227.out 9; try (have hlk := fun n : Nat => (OS.out.o4.drewN n).look (mt := 116) Try.underlying3 Try.underlying4 Try.underlying116 (zero4 _) (wf_in h9))))
      go_meet
      exact ⟨by first | rfl | (simp [badA, h1]; done) | (simp [badA, h1, h2]; done) | (simp [badA, h1, h2, h3]; done) | (simp [badA, h1, h2, h3, h5]; done) | (simp [badA, h1, h2, h3, h5, h6]; done) | (simp [badA, h1, h2, h3, h5, h6, h7]; done) | (simp [badA, h1, h2, h3, h5, h6, h7, h8]; done) | (simp [badA, h1, h2, h3, h5, h6, h7, h8, h9]; done), tsk1_ OS, ⟨kb_ BK222.out⟩, ⟨kb_ BK227.out⟩, ⟨bl_⟩⟩
   all_goals as_aux_lemma =>
    go_wp2_with (first
     | (go_at_call 45; (with_reducible refine (in_c _ _ _ _).mono ?_); rintro e w' ⟨rfl, ⟨nd, rfl⟩⟩)
     | (go_at_call 88; (with_reducible refine (val_c _ HV2.out _).mono ?_); rintro e w' ⟨rfl, ⟨nd, rfl⟩⟩)
     | (go_at_call 89; (with_reducible refine (ris_c A226_4 c226_4 o.f4 _ _ ?s1 HC4.out).mono ?_); (case s1 => exact (Kd.C_below HR4.out bl_)); rintro e w' ⟨rfl, ⟨nd, rfl⟩⟩)
     | (go_at_call 87; (with_reducible refine (cp_c _ _ _ HV5.out _).mono ?_); rintro e w4 ⟨rfl, hb⟩; replace HB := Aside0.mk (below_step bl_ hb); replace BK222 := bb_ BK222 hb; replace BK227 := bb_ BK227 hb; replace OS := tsb_ OS hb; clear hb; clear ya_0 yb_0 ya_1 yb_1 ya_2 yb_2 yc_0 yd_0 yc_1 yd_1 yc_2 yd_2 yc_3 yd_3 yc_4 yd_4 yc_5 yd_5 yc_6 yd_6 yc_7 yd_7 yc_8 yd_8 yc_9 yd_9; have za_0 : w4.cell? ⟨gb222, 0, none⟩ = some (.int .i64 a0_0) := bc_ BK222.out 0; have zb_0 := blk_frozen BK222.out 0; have za_1 : w4.cell? ⟨gb222, 1, none⟩ = some (.slice A0_1 l0_1.length c0_1) := bc_ BK222.out 1; have zb_1 := blk_frozen BK222.out 1; have za_2 : w4.cell? ⟨gb222, 2, none⟩ = some (.slice (some ad226) l0_2.length c0_2) := bc_ BK222.out 2; have zb_2 := blk_frozen BK222.out 2; have zc_0 : w4.cell? ⟨gb227, 0, none⟩ = some (.int .i64 o.f0) := bc_ BK227.out 0; have zd_0 := blk_frozen BK227.out 0; have zc_1 : w4.cell? ⟨gb227, 1, none⟩ = some (.bool o.f1) := bc_ BK227.out 1; have zd_1 := blk_frozen BK227.out 1; have zc_2 : w4.cell? ⟨gb227, 2, none⟩ = some (.string o.f2) := bc_ BK227.out 2; have zd_2 := blk_frozen BK227.out 2; have zc_3 : w4.cell? ⟨gb227, 3, none⟩ = some (.int .i64 o.f3) := bc_ BK227.out 3; have zd_3 := blk_frozen BK227.out 3; have zc_4 : w4.cell? ⟨gb227, 4, none⟩ = some (.slice A226_4 o.f4.length c226_4) := bc_ BK227.out 4; have zd_4 := blk_frozen BK227.out 4; have zc_5 : w4.cell? ⟨gb227, 5, none⟩ = some (.int .i64 o.f5.f0) := bc_ BK227.out 5; have zd_5 := blk_frozen BK227.out 5; have zc_6 : w4.cell? ⟨gb227, 6, none⟩ = some (.int .i64 o.f5.f1) := bc_ BK227.out 6; have zd_6 := blk_frozen BK227.out 6; have zc_7 : w4.cell? ⟨gb227, 7, none⟩ = some (.string o.f5.f2) := bc_ BK227.out 7; have zd_7 := blk_frozen BK227.out 7; have zc_8 : w4.cell? ⟨gb227, 8, none⟩ = some (.int .i64 o.f6) := bc_ BK227.out 8; have zd_8 := blk_frozen BK227.out 8; have zc_9 : w4.cell? ⟨gb227, 9, none⟩ = some (.int .i64 o.f7) := bc_ BK227.out 9; have zd_9 := blk_frozen BK227.out 9; try (have hlk := fun n : Nat => (OS.out.o4.drewN n).look (mt := 116) Try.underlying3 Try.underlying4 Try.underlying116 (zero4 _) (wf_in h9))))
    go_meet
    exact ⟨by first | rfl | (simp [badA, h1]; done) | (simp [badA, h1, h2]; done), tsk1_ OS, ⟨kb_ BK222.out⟩, ⟨kb_ BK227.out⟩, ⟨bl_⟩⟩
  obtain ⟨rfl, OS, BK222, BK227, HB⟩ := hcut
  cases hA : badA a0_0 (l0_1.length : Int) S o
  rotate_left
  · have er : r = false := by rw [← HG.out, hA]; rfl
    subst er
    go_wp2
    go_ret
    exact ⟨rfl, bl_⟩
  replace HG : Aside0 ((if o.f3 = 3 then !badC a0_0 (o.f6 :: S) o && goodOps a0_0 (l0_1.length : Int) (l0_2.drop (i + 1)) (o.f7 :: o.f6 :: S) T else !badB T o && goodOps a0_0 (l0_1.length : Int) (l0_2.drop (i + 1)) (o.f6 :: S) (o.f0 :: T)) = r) := ⟨by have q := HG.out; rw [hA] at q; simpa using q⟩
  have W0 : Aside0 (inB o.f0 0 9 = true) := ⟨by unfold badA at hA; simp at hA; exact hA.1⟩
  have W6 : Aside0 ((Lit.int .i64 o.f6).wf = true) := ⟨by unfold badA at hA; simp at hA; exact wf_in hA.2.2.2.2.2.2.2.1⟩
  have N4 := Aside0.mk (OS.out.ne4 BK227.out)
  have N5 := Aside0.mk (OS.out.ne5 BK227.out)
  have M4 := Aside0.mk (OS.out.ne4 BK222.out)
  have M5 := Aside0.mk (OS.out.ne5 BK222.out)
  have ya_0 : wc.cell? ⟨gb222, 0, none⟩ = some (.int .i64 a0_0) := bc_ BK222.out 0
  have yb_0 := blk_frozen BK222.out 0
  have ya_1 : wc.cell? ⟨gb222, 1, none⟩ = some (.slice A0_1 l0_1.length c0_1) := bc_ BK222.out 1
  have yb_1 := blk_frozen BK222.out 1
  have ya_2 : wc.cell? ⟨gb222, 2, none⟩ = some (.slice (some ad226) l0_2.length c0_2) := bc_ BK222.out 2
  have yb_2 := blk_frozen BK222.out 2
  have yc_0 : wc.cell? ⟨gb227, 0, none⟩ = some (.int .i64 o.f0) := bc_ BK227.out 0
  have yd_0 := blk_frozen BK227.out 0
  have yc_1 : wc.cell? ⟨gb227, 1, none⟩ = some (.bool o.f1) := bc_ BK227.out 1
  have yd_1 := blk_frozen BK227.out 1
  have yc_2 : wc.cell? ⟨gb227, 2, none⟩ = some (.string o.f2) := bc_ BK227.out 2
  have yd_2 := blk_frozen BK227.out 2
  have yc_3 : wc.cell? ⟨gb227, 3, none⟩ = some (.int .i64 o.f3) := bc_ BK227.out 3
  have yd_3 := blk_frozen BK227.out 3
  have yc_4 : wc.cell? ⟨gb227, 4, none⟩ = some (.slice A226_4 o.f4.length c226_4) := bc_ BK227.out 4
  have yd_4 := blk_frozen BK227.out 4
  have yc_5 : wc.cell? ⟨gb227, 5, none⟩ = some (.int .i64 o.f5.f0) := bc_ BK227.out 5
  have yd_5 := blk_frozen BK227.out 5
  have yc_6 : wc.cell? ⟨gb227, 6, none⟩ = some (.int .i64 o.f5.f1) := bc_ BK227.out 6
  have yd_6 := blk_frozen BK227.out 6
  have yc_7 : wc.cell? ⟨gb227, 7, none⟩ = some (.string o.f5.f2) := bc_ BK227.out 7
  have yd_7 := blk_frozen BK227.out 7
  have yc_8 : wc.cell? ⟨gb227, 8, none⟩ = some (.int .i64 o.f6) := bc_ BK227.out 8
  have yd_8 := blk_frozen BK227.out 8
  have yc_9 : wc.cell? ⟨gb227, 9, none⟩ = some (.int .i64 o.f7) := bc_ BK227.out 9
  have yd_9 := blk_frozen BK227.out 9
  clear hA
  go_upto_region 10 with (fail)
  (try simp only [Act.put, List.setIfInBounds_toArray, List.set_cons_zero, List.set_cons_succ])
  go_cut [102] (fun v102 wc => v102 = .map (some g4) ∧ Aside0 (TS w wc g4 (o.f6 :: S) g5 T) ∧ Aside0 (wc.heap[gb222]? = some (.cells #[.int .i64 a0_0, (.slice A0_1 l0_1.length c0_1), (.slice (some ad226) l0_2.length c0_2)] 25 (0, 0))) ∧ Aside0 (wc.heap[gb227]? = some (.cells #[.int .i64 o.f0, .bool o.f1, .string o.f2, .int .i64 o.f3, .slice A226_4 o.f4.length c226_4, .int .i64 o.f5.f0, .int .i64 o.f5.f1, .string o.f5.f2, .int .i64 o.f6, .int .i64 o.f7] 83 (0, 0))) ∧ Aside0 (Below w.heap.size w wc))
  case first =>
   go_wp2_with (at_mapUpdate; refine wpList_put_set rfl _ _ _ 116 rfl Try.underlying3 Try.underlying4 Try.underlying116 rfl (os4_ OS) (by have q := HN2.out; have q7 := H7.out; (try simp only [List.length_cons]); unfold maxLen; omega) _ rfl W6.out rfl ?_; intro w5 ho hg; replace HB := Aside0.mk (pw_below_grown bl_ _ bz_ hg (fun k e => by cases e; exact OS.out.h4)); replace BK222 := Aside0.mk (blk_grown (kb_ BK222.out) hg (fun e => M4.out (Option.some.inj e).symm)); replace BK227 := Aside0.mk (blk_grown (kb_ BK227.out) hg (fun e => N4.out (Option.some.inj e).symm)); replace OS := Aside0.mk ((tsk_ OS).put4 ho hg); clear ho hg)
   go_meet
   exact ⟨rfl, tsk1_ OS, ⟨kb_ BK222.out⟩, ⟨kb_ BK227.out⟩, ⟨bl_⟩⟩
  clear ya_0 yb_0 ya_1 yb_1 ya_2 yb_2 yc_0 yd_0 yc_1 yd_1 yc_2 yd_2 yc_3 yd_3 yc_4 yd_4 yc_5 yd_5 yc_6 yd_6 yc_7 yd_7 yc_8 yd_8 yc_9 yd_9
  clear OS BK222 BK227 HB
  obtain ⟨rfl, OS, BK222, BK227, HB⟩ := hcut
  have ya_0 : wc.cell? ⟨gb222, 0, none⟩ = some (.int .i64 a0_0) := bc_ BK222.out 0
  have yb_0 := blk_frozen BK222.out 0
  have ya_1 : wc.cell? ⟨gb222, 1, none⟩ = some (.slice A0_1 l0_1.length c0_1) := bc_ BK222.out 1
  have yb_1 := blk_frozen BK222.out 1
  have ya_2 : wc.cell? ⟨gb222, 2, none⟩ = some (.slice (some ad226) l0_2.length c0_2) := bc_ BK222.out 2
  have yb_2 := blk_frozen BK222.out 2
  have yc_0 : wc.cell? ⟨gb227, 0, none⟩ = some (.int .i64 o.f0) := bc_ BK227.out 0
  have yd_0 := blk_frozen BK227.out 0
  have yc_1 : wc.cell? ⟨gb227, 1, none⟩ = some (.bool o.f1) := bc_ BK227.out 1
  have yd_1 := blk_frozen BK227.out 1
  have yc_2 : wc.cell? ⟨gb227, 2, none⟩ = some (.string o.f2) := bc_ BK227.out 2
  have yd_2 := blk_frozen BK227.out 2
  have yc_3 : wc.cell? ⟨gb227, 3, none⟩ = some (.int .i64 o.f3) := bc_ BK227.out 3
  have yd_3 := blk_frozen BK227.out 3
  have yc_4 : wc.cell? ⟨gb227, 4, none⟩ = some (.slice A226_4 o.f4.length c226_4) := bc_ BK227.out 4
  have yd_4 := blk_frozen BK227.out 4
  have yc_5 : wc.cell? ⟨gb227, 5, none⟩ = some (.int .i64 o.f5.f0) := bc_ BK227.out 5
  have yd_5 := blk_frozen BK227.out 5
  have yc_6 : wc.cell? ⟨gb227, 6, none⟩ = some (.int .i64 o.f5.f1) := bc_ BK227.out 6
  have yd_6 := blk_frozen BK227.out 6
  have yc_7 : wc.cell? ⟨gb227, 7, none⟩ = some (.string o.f5.f2) := bc_ BK227.out 7
  have yd_7 := blk_frozen BK227.out 7
  have yc_8 : wc.cell? ⟨gb227, 8, none⟩ = some (.int .i64 o.f6) := bc_ BK227.out 8
  have yd_8 := blk_frozen BK227.out 8
  have yc_9 : wc.cell? ⟨gb227, 9, none⟩ = some (.int .i64 o.f7) := bc_ BK227.out 9
  have yd_9 := blk_frozen BK227.out 9
  by_cases c3 : o.f3 = 3
  · as_aux_lemma =>
    have c3a : (o.f3 == 3) = true := beq_iff_eq.mpr c3
    have c3b : (o.f3 != 3) = false := bne_eq_false_iff_eq.mpr c3
    rw [if_pos c3] at HG
    clear c3
    cases h1 : decide (0 < (o.f4.length : Int))
    rotate_left
    · have er : r = false := by rw [← HG.out]; simp only [badC, h1]; rfl
      subst er
      have h1b : decide (0 < o.f4.length) = true := by have q := of_decide_eq_true h1; exact decide_eq_true (by omega)
      go_wp2
      go_ret
      exact ⟨rfl, bl_⟩
    have h1b : decide (0 < o.f4.length) = false := by have q := of_decide_eq_false h1; exact decide_eq_false (by omega)
    cases h2 : inB o.f7 (wrap64 (o.f6 + 1)) (wrap64 (a0_0 - 1))
    · have er : r = false := by rw [← HG.out]; simp only [badC, h1, h2]; rfl
      subst er
      go_wp2_with (go_at_call 45; (with_reducible refine (in_c _ _ _ _).mono ?_); rintro e w' ⟨rfl, ⟨nd, rfl⟩⟩)
      go_ret
      exact ⟨rfl, bl_⟩
    have hlk := fun n : Nat => (OS.out.o4.drewN n).look (mt := 116) Try.underlying3 Try.underlying4 Try.underlying116 (zero4 _) (wf_in2 h2)
    cases h3 : decide (o.f7 ∈ o.f6 :: S)
    rotate_left
    · have er : r = false := by rw [← HG.out]; simp only [badC, h1, h2, h3]; rfl
      subst er
      rw [h3] at hlk
      go_wp2_with (go_at_call 45; (with_reducible refine (in_c _ _ _ _).mono ?_); rintro e w' ⟨rfl, ⟨nd, rfl⟩⟩)
      go_ret
      exact ⟨rfl, bl_⟩
    replace HG : Aside0 (goodOps a0_0 (l0_1.length : Int) (l0_2.drop (i + 1)) (o.f7 :: o.f6 :: S) T = r) := ⟨by have q := HG.out; simp only [badC, h1, h2, h3] at q; simpa using q⟩
    rw [h3] at hlk
    have W7 := Aside0.mk (wf_in2 h2)
    go_wp2_with (first | (go_at_call 45; (with_reducible refine (in_c _ _ _ _).mono ?_); rintro e w' ⟨rfl, ⟨nd, rfl⟩⟩) | (at_mapUpdate; refine wpList_put_set rfl _ _ _ 116 rfl Try.underlying3 Try.underlying4 Try.underlying116 rfl (os4_ OS) (by have q := HN2.out; have q7 := H7.out; (try simp only [List.length_cons]); unfold maxLen; omega) _ rfl W7.out rfl ?_; intro w5 ho hg; replace HB := Aside0.mk (pw_below_grown bl_ _ bz_ hg (fun k e => by cases e; exact OS.out.h4)); replace BK222 := Aside0.mk (blk_grown (kb_ BK222.out) hg (fun e => M4.out (Option.some.inj e).symm)); replace BK227 := Aside0.mk (blk_grown (kb_ BK227.out) hg (fun e => N4.out (Option.some.inj e).symm)); replace OS := Aside0.mk ((tsk_ OS).put4 ho hg); clear ho hg))
    go_roundg (l0_2.length - (i + 1))
    case measure => omega
    case rel => exact ⟨i + 1, (o.f7 :: o.f6 :: S), T, by rw [w64_succ hlt HL.out], by omega, by omega, HG, ⟨by have q := HN2.out; (try simp only [List.length_cons]); omega⟩, tsk1_ OS, ⟨kb_ BK222.out⟩, ⟨bl_⟩⟩
  · as_aux_lemma =>
    have c3a : (o.f3 == 3) = false := beq_eq_false_iff_ne.mpr c3
    have c3b : (o.f3 != 3) = true := bne_iff_ne.mpr c3
    rw [if_neg c3] at HG
    clear c3
    cases h1 : decide (o.f0 ∈ T)
    rotate_left
    · have er : r = false := by rw [← HG.out]; simp only [badB, h1]; rfl
      subst er
      go_wp2_with (at_lookup; refine wpList_look_set rfl _ _ 116 rfl Try.underlying3 Try.underlying4 Try.underlying116 (zero4 _) rfl (os5_ OS) _ rfl (wf_in9 W0.out) ?_)
      go_ret
      exact ⟨rfl, bl_⟩
    cases h2 : (o.f7 != 0)
    rotate_left
    · have er : r = false := by rw [← HG.out]; simp only [badB, h1, h2]; rfl
      subst er
      have h2b : (o.f7 == 0) = false := by simpa [bne] using h2
      go_wp2_with (at_lookup; refine wpList_look_set rfl _ _ 116 rfl Try.underlying3 Try.underlying4 Try.underlying116 (zero4 _) rfl (os5_ OS) _ rfl (wf_in9 W0.out) ?_)
      go_ret
      exact ⟨rfl, bl_⟩
    have h2b : (o.f7 == 0) = true := by simpa [bne] using h2
    replace HG : Aside0 (goodOps a0_0 (l0_1.length : Int) (l0_2.drop (i + 1)) (o.f6 :: S) (o.f0 :: T) = r) := ⟨by have q := HG.out; simp only [badB, h1, h2] at q; simpa using q⟩
    go_wp2_with (first | (at_lookup; refine wpList_look_set rfl _ _ 116 rfl Try.underlying3 Try.underlying4 Try.underlying116 (zero4 _) rfl (os5_ OS) _ rfl (wf_in9 W0.out) ?_) | (at_mapUpdate; refine wpList_put_set rfl _ _ _ 116 rfl Try.underlying3 Try.underlying4 Try.underlying116 rfl (os5_ OS) (by have q := HN2.out; have q7 := H7.out; (try simp only [List.length_cons]); unfold maxLen; omega) _ rfl (wf_in9 W0.out) rfl ?_; intro w5 ho hg; replace HB := Aside0.mk (pw_below_grown bl_ _ bz_ hg (fun k e => by cases e; exact OS.out.h5)); replace BK222 := Aside0.mk (blk_grown (kb_ BK222.out) hg (fun e => M5.out (Option.some.inj e).symm)); replace BK227 := Aside0.mk (blk_grown (kb_ BK227.out) hg (fun e => N5.out (Option.some.inj e).symm)); replace OS := Aside0.mk ((tsk_ OS).put5 ho hg); clear ho hg))
    go_roundg (l0_2.length - (i + 1))
    case measure => omega
    case rel => exact ⟨i + 1, (o.f6 :: S), (o.f0 :: T), by rw [w64_succ hlt HL.out], by omega, by omega, HG, ⟨by have q := HN2.out; (try simp only [List.length_cons]); omega⟩, tsk1_ OS, ⟨kb_ BK222.out⟩, ⟨bl_⟩⟩
end Go.Proofs.Ytipfikmbldgliaa.PRG
