import Derived.Test.YtdnapgnnliibfaaPMBx0
import Derived.Test.YtdnapgnnliibfaaPMBx6
import Derived.Shelf.SlSortCmp.WholeK
import Derived.Shelf.SlSortCmp.NoneTotal
/- What this text proves (a hand-built part): slices.SortFunc with the program's comparison of adds, on a row of one's own. Conditions: as each theorem says. -/
namespace Go.Proofs.Ytdnapgnnliibfaa.PMB
open Go.Shelf Go.Sort Go.Lib Go.RowKit Go.Proofs.YtdnapgnnliibfaaW.PrintWords Go.Proofs.YtdnapgnnliibfaaW.PrintLast Go.Proofs.YtdnapgnnliibfaaW.PrintMore
attribute [local go_sem] max2_int min2_int max_two min_two max_three min_three max_four min_four
set_option linter.unusedVariables false
set_option linter.unusedSimpArgs false
def addSort_ren : Go.Shelf.Ren := ⟨fun | 6 => 59 | 15 => 66 | 14 => 67 | 28 => 78 | 29 => 79 | 20 => 80 | 21 => 81 | 22 => 82 | 23 => 83 | 24 => 84 | 25 => 85 | 26 => 86 | 27 => 87 | 46 => 94 | 47 => 89 | 48 => 90 | 49 => 95 | 50 => 96 | 57 => 98 | n => n, fun | 22 => 27 | 24 => 48 | 25 => 59 | 3 => 3 | 39 => 82 | 0 => 0 | 53 => 97 | 55 => 99 | 4 => 4 | 46 => 89 | 45 => 88 | 50 => 94 | 5 => 5 | 9 => 9 | 66 => 105 | 70 => 109 | 76 => 113 | 77 => 114 | n => n, fun n => n⟩
theorem addSort_lays : SlLaysF0.n6 Try.prog addSort_ren where
  mixed := by kernel_rfl
  f6 := ⟨Try.f59.name, by decide, Try.func59.trans (congrArg some (by kernel_rfl))⟩
  f14 := ⟨Try.f67.name, by decide, Try.func67.trans (congrArg some (by kernel_rfl))⟩
  f15 := Try.func66.trans (congrArg some (by kernel_rfl))
  f20 := ⟨Try.f80.name, by decide, Try.func80.trans (congrArg some (by kernel_rfl))⟩
  f21 := ⟨Try.f81.name, by decide, Try.func81.trans (congrArg some (by kernel_rfl))⟩
  f22 := ⟨Try.f82.name, by decide, Try.func82.trans (congrArg some (by kernel_rfl))⟩
  f23 := ⟨Try.f83.name, by decide, Try.func83.trans (congrArg some (by kernel_rfl))⟩
  f24 := ⟨Try.f84.name, by decide, Try.func84.trans (congrArg some (by kernel_rfl))⟩
  f25 := ⟨Try.f85.name, by decide, Try.func85.trans (congrArg some (by kernel_rfl))⟩
  f26 := ⟨Try.f86.name, by decide, Try.func86.trans (congrArg some (by kernel_rfl))⟩
  f27 := ⟨Try.f87.name, by decide, Try.func87.trans (congrArg some (by kernel_rfl))⟩
  f28 := Try.func78.trans (congrArg some (by kernel_rfl))
  f29 := Try.func79.trans (congrArg some (by kernel_rfl))
  f46 := ⟨Try.f94.name, by decide, Try.func94.trans (congrArg some (by kernel_rfl))⟩
  f47 := Try.func89.trans (congrArg some (by kernel_rfl))
  f48 := Try.func90.trans (congrArg some (by kernel_rfl))
  f49 := ⟨Try.f95.name, by decide, Try.func95.trans (congrArg some (by kernel_rfl))⟩
  f50 := ⟨Try.f96.name, by decide, Try.func96.trans (congrArg some (by kernel_rfl))⟩
  f57 := ⟨Try.f98.name, by decide, Try.func98.trans (congrArg some (by kernel_rfl))⟩
  t0 := Try.underlying0
  a0 := Try.isAgg0
  z0 := Try.sizeOf0
  v0 := Try.zeroValue0
  t3 := Try.underlying3
  a3 := Try.isAgg3
  z3 := Try.sizeOf3
  v3 := Try.zeroValue3
  t4 := Try.underlying4
  a4 := Try.isAgg4
  z4 := Try.sizeOf4
  v4 := Try.zeroValue4
  t5 := Try.underlying5
  a5 := Try.isAgg5
  z5 := Try.sizeOf5
  v5 := Try.zeroValue5
  t9 := Try.underlying9
  a9 := Try.isAgg9
  z9 := Try.sizeOf9
  v9 := Try.zeroValue9
  t22 := Try.underlying27
  a22 := Try.isAgg27
  z22 := Try.sizeOf27
  v22 := Try.zeroValue27
  t25 := Try.underlying59
  a25 := Try.isAgg59
  z25 := Try.sizeOf59
  v25 := Try.zeroValue59
  t39 := Try.underlying82
  a39 := Try.isAgg82
  z39 := Try.sizeOf82
  v39 := Try.zeroValue82
  t45 := Try.underlying88
  a45 := Try.isAgg88
  z45 := Try.sizeOf88
  v45 := Try.zeroValue88
  t46 := Try.underlying89
  a46 := Try.isAgg89
  z46 := Try.sizeOf89
  v46 := Try.zeroValue89
  t50 := Try.underlying94
  a50 := Try.isAgg94
  z50 := Try.sizeOf94
  v50 := Try.zeroValue94
  t53 := Try.underlying97
  a53 := Try.isAgg97
  z53 := Try.sizeOf97
  v53 := Try.zeroValue97
  t55 := Try.underlying99
  a55 := Try.isAgg99
  z55 := Try.sizeOf99
  v55 := Try.zeroValue99
  t66 := Try.underlying105
  a66 := Try.isAgg105
  z66 := Try.sizeOf105
  v66 := Try.zeroValue105
  t70 := Try.underlying109
  a70 := Try.isAgg109
  z70 := Try.sizeOf109
  v70 := Try.zeroValue109
  t76 := Try.underlying113
  a76 := Try.isAgg113
  z76 := Try.sizeOf113
  v76 := Try.zeroValue113
  t77 := Try.underlying114
  a77 := Try.isAgg114
  z77 := Try.sizeOf114
  v77 := Try.zeroValue114
/-- blocks laid and draws: nothing else -/
def Grw (w w' : World) : Prop := ∃ q os, w' = grow (w.drewN q) os
theorem Grw.refl (w : World) : Grw w w := ⟨0, #[], by rw [grow_empty]; rfl⟩
theorem Grw.drewN {w W : World} (h : Grw w W) (n : Nat) : Grw w (W.drewN n) := by
  obtain ⟨q, os, rfl⟩ := h
  exact ⟨q + n, os, by simp [grow, World.drewN, Nat.add_assoc]⟩
theorem Grw.drew {w W : World} (h : Grw w W) : Grw w W.drew := by
  obtain ⟨q, os, rfl⟩ := h
  exact ⟨q + 1, os, by simp [grow, World.drewN, World.drew, Nat.add_assoc]⟩
theorem Grw.alloc {w W : World} (h : Grw w W) (o : Obj) : Grw w (W.alloc o) := by
  obtain ⟨q, os, rfl⟩ := h
  exact ⟨q, os ++ #[o], by rw [alloc_eq_grow, grow_grow]⟩
theorem Grw.trans {a b c : World} (h : Grw a b) (k : Grw b c) : Grw a c := by
  obtain ⟨q, os, rfl⟩ := h
  obtain ⟨q2, os2, rfl⟩ := k
  exact ⟨q + q2, os ++ os2, by simp [grow, World.drewN, Nat.add_assoc, Array.append_assoc]⟩
section
variable {P : Program} {ops : Array Oper} {rest : List Oper} {o : Oper} {a : Act} {Q : Exit → Act → World → Prop} {Kc : Act → World → Prop} {α : Type}
theorem box_eventG {W : World} (hgd : o.guard = none) {N : Tmp} (_hd : o.dst = some N) {cs : Array Value} {t : TypeId}
    (hrun : (execOp a.eval o).run P W = .ok (.value (.pointer (some ⟨W.heap.size, 0, none⟩))) (W.alloc (.cells cs t (0, 0))))
    (h : ∀ g, g = W.heap.size → ∀ w1, w1.heap[g]? = some (.cells cs t (0, 0)) → Below W.heap.size W w1 → Grw W w1 → wpList P ops Q rest (a.put o.dst (.pointer (some ⟨g, 0, none⟩))) w1) : wpList P ops Q (o :: rest) a W :=
  Kd.event_run hgd hrun (h _ rfl _ (blk_new W _) (below_alloc (Below.refl _ _) _) ((Grw.refl W).alloc _))
theorem R_lit_stepG (d : Kd α) {w0 W : World} (base e : Nat) (hw : Region.wanted o (yielded ops a.tmps) = true) {N : Tmp} (_hd : o.dst = some N) {xs : List α} {inner : List Value} {ok okp : Nat → Prop}
    (hrun : (execOp a.eval o).run P W = .ok (.value (.slice (some ⟨W.heap.size, 0, none⟩) xs.length xs.length)) (W.alloc (.cells inner.toArray e)))
    (hrep : Reps (d.M W base okp) d.sz xs inner) (hok : ∀ k, okp k → ok k) (hfresh : ok W.heap.size) (HB : Below base w0 W) (hbase : base ≤ W.heap.size) (hm : xs.length ≤ 9223372036854775807)
    (h : ∀ v1 w1, d.R e w1 base ok v1 xs → Below base w0 w1 → W.grownBy w1 none → (∃ b, v1.ownBlock = some b ∧ W.heap.size ≤ b) → Grw W w1 → Kc (a.put o.dst v1) w1) : if Region.wanted o (yielded ops a.tmps) = true then Oper.wp P o a W Kc Q else Kc (a.put o.dst undef) W := by
  refine event_step hw hrun (h _ _ ⟨fun k hk => ?_, inner, ?_, ?_⟩ (HB.alloc hbase _) (World.grownBy_alloc W _ none) ⟨W.heap.size, by simp [Value.ownBlock], Nat.le_refl _⟩ ((Grw.refl W).alloc _))
  · have : W.heap.size = k := by simpa [Value.ownBlock] using hk
    subst this
    exact hfresh
  · have h2 := World.ownsRow_lit (base := base) (e := e) (size := d.sz) W inner.toArray xs.length hbase (by simpa [maxLen] using hm) (by simpa using hrep.1)
    simpa using h2
  · refine hrep.imp_ (fun p c hp => d.M_mono (fun k hk => ⟨hok k hk.1, fun he => ?_⟩) (Kd.M_below (d.M_bound hp) (below_alloc (Below.refl _ _) _)))
    have h3 : k = W.heap.size := by simpa [Value.ownBlock] using he
    have := hk.2.2.1
    omega
end
set_option maxHeartbeats 8000000 in
set_option maxRecDepth 100000 in
theorem compareAdds_grw (k : Nat) (a0_0 : ByteArray) (a0_1 : Int) (a0_2 : Int) (a1_0 : ByteArray) (a1_1 : Int) (a1_2 : Int) (r : Int) (w : World) (h : impl_compareAdds.f k a0_0 a0_1 a0_2 a1_0 a1_1 a1_2 = some r) :
  Calls Try.prog 40 #[.agg #[.string a0_0, .int .i64 a0_1, .int .i64 a0_2], .agg #[.string a1_0, .int .i64 a1_1, .int .i64 a1_2]] w fun e w' => e = .returned (.int .i64 r) ∧ ∃ q os', w' = grow (w.drewN q) os' := by
 have hu48 := Try.underlying48
 have HB := Aside0.mk (Below.refl w.heap.size w)
 have HG := Aside0.mk (Grw.refl w)
 have H : ((cmp_Compare_int.f a0_1 a1_1).bind fun t228 => ((cmp_Compare_int.f a0_2 a1_2).bind fun t229 => ((cmp_Or_int.f k (([t228, t229] : List Int))).bind fun t233 => (some t233)))) = some r := h
 clear h
 replace H := Option.bind_eq_some_iff.mp H
 obtain ⟨t228, A30, H⟩ := H
 replace H : ((cmp_Compare_int.f a0_2 a1_2).bind fun t229 => ((cmp_Or_int.f k (([t228, t229] : List Int))).bind fun t233 => (some t233))) = some r := H
 have A3 := Aside0.mk A30
 clear A30
 replace H := Option.bind_eq_some_iff.mp H
 obtain ⟨t229, A40, H⟩ := H
 replace H : ((cmp_Or_int.f k (([t228, t229] : List Int))).bind fun t233 => (some t233)) = some r := H
 have A4 := Aside0.mk A40
 clear A40
 obtain ⟨y230, hy230⟩ : ∃ y_ : List Int, y_ = (([t228, t229] : List Int)) := ⟨_, rfl⟩
 replace H : ((cmp_Or_int.f k y230).bind fun t233 => (some t233)) = some r := by first | (rw [hy230]; with_reducible exact H) | (have H2_ := (Option.bind_some _ _).symm.trans H; rw [hy230]; with_reducible exact H2_) | (have H2_ := (Option.bind_some _ _).symm.trans H; with_reducible exact H2_) | with_reducible exact H | (rw [hy230]; exact H) | exact H
 have Ny230 := Aside0.mk hy230
 clear hy230
 replace H := Option.bind_eq_some_iff.mp H
 obtain ⟨t233, A50, H⟩ := H
 replace H : (some t233) = some r := H
 have A5 := Aside0.mk A50
 clear A50
 obtain rfl := Option.some.inj H
 go_enter Try.func40, Try.ntmps40
 try go_wp2_with (first | ((with_reducible refine gate_dst (N := 2) rfl ?_); refine box_eventG rfl (N := 2) rfl (cs := #[.string a0_0, .int .i64 a0_1, .int .i64 a0_2]) (t := 48) gs_ ?_; intro gb226 hg w6 hbox hb hgr; replace HG := Aside0.mk (Grw.trans (by repeat (first | exact HG.out | apply Grw.drewN | apply Grw.drew | apply Grw.alloc)) hgr); have BK226 := Aside0.mk (hbox); have GW226 := Aside0.mk ((by rw [hg]; exact bz_ : w.heap.size ≤ gb226)); have GE226 := GW226; replace HB := Aside0.mk (below_step bl_ hb); clear hb hbox hg) | ((with_reducible refine gate_dst (N := 3) rfl ?_); refine box_eventG rfl (N := 3) rfl (cs := #[.string a1_0, .int .i64 a1_1, .int .i64 a1_2]) (t := 48) gs_ ?_; intro gb227 hg w7 hbox hb hgr; replace HG := Aside0.mk (Grw.trans (by repeat (first | exact HG.out | apply Grw.drewN | apply Grw.drew | apply Grw.alloc)) hgr); have BK227 := Aside0.mk (hbox); have GW227 := Aside0.mk ((by rw [hg]; exact bz_ : w.heap.size ≤ gb227)); have GE227 := GW227; replace HB := Aside0.mk (below_step bl_ hb); have NB226_227 := nl_ hg BK226; have NB227_226 := nm_ hg BK226; replace BK226 := bb_ BK226 hb; clear hb hbox hg))
 replace BK226 := Aside0.mk (blk_drew BK226.out)
 replace BK227 := Aside0.mk (blk_drew BK227.out)
 replace HB := Aside0.mk (below_drew1 HB.out)
 replace HG := Aside0.mk (Grw.drew HG.out)
 refine start_ (n := 13) (S := fun w' => w'.cell? ⟨gb226, 0, none⟩ = some (.string a0_0) ∧ w'.cell? ⟨gb226, 1, none⟩ = some (.int .i64 a0_1) ∧ w'.cell? ⟨gb226, 2, none⟩ = some (.int .i64 a0_2) ∧ w'.cell? ⟨gb227, 0, none⟩ = some (.string a1_0) ∧ w'.cell? ⟨gb227, 1, none⟩ = some (.int .i64 a1_1) ∧ w'.cell? ⟨gb227, 2, none⟩ = some (.int .i64 a1_2)) (ds := []) #[false, false, false, false, false, false, false, false, false, false, false, false, false] (by kernel_rfl) rfl rfl ⟨bc_ BK226.out 0, bc_ BK226.out 1, bc_ BK226.out 2, bc_ BK227.out 0, bc_ BK227.out 1, bc_ BK227.out 2⟩ (fun hHeld => ?_); refine with_tabW impl_compareAdds.tab1 impl_compareAdds.bits1 (fun HT_ HW_ => ?_)
 generalize w7.drew = w8 at BK226 BK227 HB HG hHeld ⊢
 refine pu_ 0 (some 5) (h := ?_)
 refine pu_ 2 (some 7) (h := ?_)
 refine pu_ 5 (some 10) (h := ?_)
 refine pu_ 7 (some 12) (h := ?_)
 refine tk6_ 1 (some 6) (h := ?_)
 refine tk6_ 3 (some 8) (h := ?_)
 refine tk6_ 6 (some 11) (h := ?_)
 refine tk6_ 8 (some 13) (h := ?_)
 refine on_ 4 (some 9) (h := fun K hK => ?_)
 refine goes_ Try.func63 (by kernel_rfl) rfl #[.int .i64 a0_1, .int .i64 a1_1] (by rfl) rfl rfl nc_ ?_
 with_reducible refine (cmp_Compare_int.calls a0_1 a1_1 t228 _ A3.out).mono ?_
 rintro e w' ⟨rfl, ⟨nd, rfl⟩⟩
 refine ⟨_, rfl, ?_⟩
 refine hK.out _ _ ⟨bc_ BK226.out 0, bc_ BK226.out 1, bc_ BK226.out 2, bc_ BK227.out 0, bc_ BK227.out 1, bc_ BK227.out 2⟩ (fun hHeld => ?_)
 clear hK K
 refine norm_ nn_ ?_
 refine on_ 9 (some 14) (h := fun K hK => ?_)
 refine goes_ Try.func63 (by kernel_rfl) rfl #[.int .i64 a0_2, .int .i64 a1_2] (by rfl) rfl rfl nc_ ?_
 with_reducible refine (cmp_Compare_int.calls a0_2 a1_2 t229 _ A4.out).mono ?_
 rintro e w' ⟨rfl, ⟨nd, rfl⟩⟩
 refine ⟨_, rfl, ?_⟩
 refine hK.out _ _ ⟨bc_ BK226.out 0, bc_ BK226.out 1, bc_ BK226.out 2, bc_ BK227.out 0, bc_ BK227.out 1, bc_ BK227.out 2⟩ (fun hHeld => ?_)
 clear hK K
 refine norm_ nn_ ?_
 refine on_ 10 (some 15) (h := fun K hK => ?_)
 refine R_lit_stepG (Kd.int .i64) _ 3 rfl (N := 15) rfl (xs := ([t228, t229] : List Int)) (inner := [.int .i64 t228, .int .i64 t229]) (ok := fun _ => True) (okp := fun _ => True) gs_ ?hp (fun _ hk => hk) trivial (Below.refl _ _) (Nat.le_refl _) (by simp) ?_; (case hp => exact (Reps.one (show Kd.M (Kd.int .i64) _ _ _ t228 [.int .i64 t228] from rfl) (Reps.one (show Kd.M (Kd.int .i64) _ _ _ t229 [.int .i64 t229] from rfl) (Reps.none _ _))))
 intro v231 w9 ho10 hb hg_ hnew_ hgr
 replace HG := Aside0.mk (Grw.trans (by repeat (first | exact HG.out | apply Grw.drewN | apply Grw.drew | apply Grw.alloc)) hgr)
 clear hg_ hnew_
 (first | rw [← Ny230.out] at ho10 | (simp only [Int.reduceToNat] at ho10; rw [← Ny230.out] at ho10))
 have HO232 := Aside0.mk (Kd.R_lower ho10 bz_)
 replace BK226 := bb_ BK226 hb
 replace BK227 := bb_ BK227 hb
 replace HB := Aside0.mk (below_step bl_ hb)
 clear hb ho10
 obtain ⟨Ao11, co11, eo11⟩ := Kd.R_slice HO232.out
 (first | subst eo11 | (injection eo11 with f1_ f2_ f3_; have f4_ := f1_.symm; have f5_ := f3_.symm; clear f1_ f2_ f3_; subst f4_; subst f5_))
 refine hK.out _ _ ⟨bc_ BK226.out 0, bc_ BK226.out 1, bc_ BK226.out 2, bc_ BK227.out 0, bc_ BK227.out 1, bc_ BK227.out 2⟩ (fun hHeld => ?_)
 clear hK K
 refine norm_ nn_ ?_
 refine on_ 11 (some 16) (h := fun K hK => ?_)
 refine goes_ Try.func62 (by kernel_rfl) rfl #[.slice Ao11 y230.length co11] (by rfl) rfl rfl nc_ ?_
 with_reducible refine (cmp_Or_int.calls k _ _ y230 t233 _ ?side1 ?side2 A5.out).mono ?_
 (case side1 => exact kc_ (Kd.R_reads' HO232.out).2.2)
 (case side2 => exact (Kd.R_reads' HO232.out).2.1)
 rintro e w' ⟨rfl, ⟨nd, rfl⟩⟩
 refine ⟨_, rfl, ?_⟩
 refine hK.out _ _ ⟨bc_ BK226.out 0, bc_ BK226.out 1, bc_ BK226.out 2, bc_ BK227.out 0, bc_ BK227.out 1, bc_ BK227.out 2⟩ (fun hHeld => ?_)
 clear hK K
 refine norm_ nn_ ?_
 refine pu_ 12 (some 4) (h := ?_)
 refine done_ (done_of HT_.out (by kernel_rfl)) ?_
 try go_wp2
 go_ret
 refine ⟨ng_, ?_⟩
 show Grw _ _
 repeat (first | exact HG.out | apply Grw.drewN | apply Grw.drew | apply Grw.alloc)
/-! #### the comparison -/
def cfA (x y : S48) : Int := if x.f1 < y.f1 then -1 else if y.f1 < x.f1 then 1 else if x.f2 < y.f2 then -1 else if y.f2 < x.f2 then 1 else 0
theorem cmpI_val (a b : Int) : cmp_Compare_int.f a b = some (if a < b then -1 else if b < a then 1 else 0) := by
  have e : ∀ a : Int, cmp_isNaN_int.f a = some false := fun a => by simp [cmp_isNaN_int.f]
  unfold cmp_Compare_int.f
  rw [e, e]
  simp only [Option.bind_some, Bool.false_eq_true, if_false, gt_iff_lt]
  split
  · rfl
  · split <;> rfl
theorem orI_val (a b : Int) : cmp_Or_int.f 5 [a, b] = some (if a = 0 then b else a) := by
  have e1 : wrap64 (0 + 1) = 1 := by unfold wrap64; omega
  have e2 : wrap64 (1 + 1) = 2 := by unfold wrap64; omega
  have r0 : rd [a, b] 0 = a := rfl
  have r1 : rd [a, b] 1 = b := rfl
  unfold cmp_Or_int.f
  rw [show (([a, b] : List Int).length : Int) = 2 from rfl]
  rw [cmp_Or_int.l0, if_pos (by omega), if_pos (by omega), if_pos (by show (0 : Int) < 2; omega), r0, e1]
  by_cases ha : a = 0
  · rw [if_pos ha, if_pos ha, cmp_Or_int.l0, if_pos (by omega), if_pos (by omega), if_pos (by show (1 : Int) < 2; omega), r1, e2]
    by_cases hb : b = 0
    · rw [if_pos hb, cmp_Or_int.l0, if_neg (by omega), hb]
    · rw [if_neg hb]
  · rw [if_neg ha, if_neg ha]
theorem cfA_val (x y : S48) : ∃ k, impl_compareAdds.f k x.f0 x.f1 x.f2 y.f0 y.f1 y.f2 = some (cfA x y) := by
  refine ⟨5, ?_⟩
  unfold impl_compareAdds.f cfA
  rw [cmpI_val, cmpI_val]
  simp only [Option.bind_some]
  rw [orI_val]
  simp only [Option.bind_some]
  by_cases h1 : x.f1 < y.f1
  · rw [if_pos h1, if_pos h1]; rfl
  · rw [if_neg h1, if_neg h1]
    by_cases h2 : y.f1 < x.f1
    · rw [if_pos h2, if_pos h2]; rfl
    · rw [if_neg h2, if_neg h2]; rfl
def ltA (x y : S48) : Bool := ltOf cfA x y
theorem ltA_iff (x y : S48) : ltA x y = decide (x.f1 < y.f1 ∨ x.f1 = y.f1 ∧ x.f2 < y.f2) := by
  unfold ltA ltOf cfA
  apply decide_eq_decide.2
  split
  · rename_i h; constructor <;> intro _ <;> omega
  · split
    · constructor <;> intro _ <;> omega
    · split
      · constructor <;> intro _ <;> omega
      · split <;> constructor <;> intro _ <;> omega
theorem swoA : SWO (ltOf cfA) where
  irrefl x := by show ltA x x = false; rw [ltA_iff]; simp
  trans x y z h1 h2 := by
    have h1 : ltA x y = true := h1
    have h2 : ltA y z = true := h2
    show ltA x z = true
    rw [ltA_iff] at *; simp only [decide_eq_true_eq] at *; omega
  ntrans x y z h1 h2 := by
    have h1 : ltA x y = false := h1
    have h2 : ltA y z = false := h2
    show ltA x z = false
    rw [ltA_iff] at *; simp only [decide_eq_false_iff_not] at *; omega
instance : Inhabited S48 := ⟨z48⟩
def encA (x : S48) : List Value := [.string x.f0, .int .i64 x.f1, .int .i64 x.f2]
theorem cmpLaysA (blk off size : Nat) (w : World) : CmpLays Try.prog 40 #[] encA 3 cfA blk off size w := fun m os dk _ x y => by
  obtain ⟨k, hk⟩ := cfA_val x y
  exact compareAdds_grw k x.f0 x.f1 x.f2 y.f0 y.f1 y.f2 (cfA x y) _ hk
/-- the adds, sorted -/
def srtA (l : List S48) : List S48 := (pdq (ltOf cfA) l.toArray 0 l.toArray.size (Lib.bitLen l.toArray.size) true true).toList
theorem srtA_perm (l : List S48) : (srtA l).Perm l ∧ (srtA l).length = l.length := by
  have h := (pdq_sorts (ltOf cfA) swoA l.toArray 0 l.toArray.size (Lib.bitLen l.toArray.size) true true (Nat.zero_le _) (Nat.le_refl _) (Or.inl rfl)).1
  obtain ⟨h1, _, h3⟩ := h
  have e : (srtA l).length = l.length := by show (pdq _ _ _ _ _ _ _).toList.length = _; rw [Array.length_toList, h1]; simp
  refine ⟨?_, e⟩
  rw [show l.toArray.extract 0 l.toArray.size = l.toArray by simp] at h3
  unfold srtA
  generalize pdq (ltOf cfA) l.toArray 0 l.toArray.size (Lib.bitLen l.toArray.size) true true = D at h1 h3 ⊢
  have e2 : D.extract 0 l.toArray.size = D := by rw [← h1]; simp
  rw [e2] at h3
  exact h3
theorem srtA_sorted (l : List S48) : (srtA l).Pairwise (fun x y => ltA y x = false) := by
  have h := (pdq_sorts (ltOf cfA) swoA l.toArray 0 l.toArray.size (Lib.bitLen l.toArray.size) true true (Nat.zero_le _) (Nat.le_refl _) (Or.inl rfl))
  have hs := h.1.1
  refine List.pairwise_iff_getElem.2 fun i j hi hj hij => ?_
  have hi' : i < (pdq (ltOf cfA) l.toArray 0 l.toArray.size (Lib.bitLen l.toArray.size) true true).size := by simpa [srtA] using hi
  have hj' : j < (pdq (ltOf cfA) l.toArray 0 l.toArray.size (Lib.bitLen l.toArray.size) true true).size := by simpa [srtA] using hj
  have h2 := h.2 i j (Nat.zero_le _) hij (by rw [← hs]; exact hj')
  rw [getElem!_pos _ j hj', getElem!_pos _ i hi'] at h2
  exact h2
/-! #### rows of adds, flat -/
theorem chunkA (d : Array S48) (j : Nat) (h : j < d.size) : ((flatK encA 3 d).toList.drop (j * 3)).take 3 = encA d[j] := by
  have g : ∀ i, i < 3 → (flatK encA 3 d)[j * 3 + i]? = some ((encA d[j])[i]!) := by
    intro i hi
    have hlt : j * 3 + i < d.size * 3 := by omega
    have e := get_flatK encA 3 d (j * 3 + i) hlt
    rw [getElem!_pos _ _ (by simpa using hlt)] at e
    rw [Array.getElem?_eq_getElem (by simpa using hlt), e, show (j * 3 + i) / 3 = j by omega, show (j * 3 + i) % 3 = i by omega, getElem!_pos d j h]
  apply List.ext_getElem?
  intro i
  by_cases hi : i < 3
  · rw [List.getElem?_take, if_pos hi, List.getElem?_drop, Array.getElem?_toList, g i hi]
    have : i = 0 ∨ i = 1 ∨ i = 2 := by omega
    rcases this with rfl | rfl | rfl <;> rfl
  · rw [List.getElem?_take, if_neg hi]
    rw [List.getElem?_eq_none (by simp [encA]; omega)]
theorem flat_of {w : World} {base : Nat} {ok : Nat → Prop} {xs : List S48} {inner : List Value} (h : Reps (k48.M w base ok) 3 xs inner) : inner = (flatK encA 3 xs.toArray).toList := by
  obtain ⟨h1, h2⟩ := h
  apply List.ext_getElem?
  intro t
  by_cases ht : t < xs.length * 3
  · have hj : t / 3 < xs.length := by omega
    have h3 := k48_openM (h2 (t / 3) xs[t / 3] (by simp [hj]))
    have h4 := chunkA xs.toArray (t / 3) (by simpa using hj)
    have e : ∀ l : List Value, l[t]? = ((l.drop (t / 3 * 3)).take 3)[t % 3]? := fun l => by
      rw [List.getElem?_take, if_pos (by omega), List.getElem?_drop, show t / 3 * 3 + t % 3 = t by omega]
    rw [e inner, e (flatK encA 3 xs.toArray).toList, h3, h4]; rfl
  · rw [List.getElem?_eq_none (by omega), List.getElem?_eq_none (by simp; omega)]
theorem reps_flat (w : World) (base : Nat) (ok : Nat → Prop) (xs : List S48) : Reps (k48.M w base ok) 3 xs (flatK encA 3 xs.toArray).toList := by
  refine ⟨by simp, fun j p hp => ?_⟩
  obtain ⟨hj, e⟩ := List.getElem?_eq_some_iff.1 hp
  have h4 := chunkA xs.toArray j (by simpa using hj)
  rw [h4]
  have : xs.toArray[j]'(by simpa using hj) = p := by simpa using e
  rw [this]
  exact k48_mkM w base ok p
def sortA.f (k : Nat) (l : List S48) (a : Int) : Option (Int × List S48) := if l.length ≤ 1048576 then some (0, srtA l) else none
theorem sortA.mono : ∀ a0 a1 k, LeO (sortA.f k a0 a1) (sortA.f (k + 1) a0 a1) := fun _ _ _ => LeO.refl _
theorem sortA.calls (k : Nat) (P0_ : Nat → Prop) (u : Value) (l0 : List S48) (a1 : Int) (r1 : Int) (r2 : List S48) (w0 w : World) (hB : Below w0.heap.size w0 w) (ho0 : Kd.R k48 48 w w0.heap.size P0_ u l0) (h : sortA.f k l0 a1 = some (r1, r2)) :
  Calls Try.prog 59 #[u, .func (.func 40) #[] #[]] w fun e w' => e = .returned (.tuple #[]) ∧ Kd.R k48 48 w' w0.heap.size (fun k_ => (P0_ k_ ∨ w.heap.size ≤ k_)) u r2 ∧ Below w0.heap.size w0 w' ∧ Kept w w' (fun k_ => P0_ k_) := by
  have hl : l0.length ≤ 1048576 ∧ r2 = srtA l0 := by
    unfold sortA.f at h
    split at h
    · rename_i g; injection h with h; injection h with h1 h2; exact ⟨g, h2.symm⟩
    · cases h
  obtain ⟨hl, rfl⟩ := hl
  obtain ⟨A, c, hv⟩ := Kd.R_slice ho0
  by_cases hz : l0.length = 0
  · have hys : l0 = [] := List.eq_nil_of_length_eq_zero hz
    subst hys
    subst hv
    refine (AnyF.slices_SortFunc_none addSort_lays A c (.func (.func 40) #[] #[]) w).mono ?_
    rintro e w' ⟨rfl, rfl⟩
    have e0 : srtA [] = [] := List.eq_nil_of_length_eq_zero (srtA_perm []).2
    exact ⟨rfl, by rw [e0]; exact Kd.R_mono ho0 (fun _ hk => .inl hk), hB, Kept.refl _ _⟩
  · obtain ⟨hok, inner, hown, hreps⟩ := ho0
    have hflat := flat_of hreps
    rcases hown.2 with ⟨_, h2⟩ | ⟨g, cap, cur, h1, hb, hh, hn, hc, hs, ht⟩
    · exact absurd h2 hz
    · have hgP : P0_ g := hok g (by rw [h1]; rfl)
      have hgl : g < w.heap.size := (Array.getElem?_eq_some_iff.1 hh).1
      rw [hflat] at ht
      have hs3 : cur.size = cap * 3 := hs
      have ht3 : cur.toList.take (l0.length * 3) = (flatK encA 3 l0.toArray).toList := ht
      have hH : HoldsK encA 3 w g 0 l0.toArray := by
        intro t htt
        have htl : t < l0.length * 3 := by simpa using htt
        refine ⟨?_, by simp [World.frozen?, hh]⟩
        have e1 : (cur.toList.take (l0.length * 3))[t]? = (flatK encA 3 l0.toArray).toList[t]? := by rw [ht3]
        rw [List.getElem?_take, if_pos htl, Array.getElem?_toList, Array.getElem?_toList] at e1
        simp only [World.cell?, hh, Nat.zero_add]
        simp only [Option.isSome_none, Bool.false_eq_true, if_false]
        rw [e1, Array.getElem?_eq_getElem htt, getElem!_pos _ t htt]; rfl
      have eg : ∀ args w, (callFunc 40 args).run Try.prog w = .ok (.enter 40 args) w := enters_of Try.func40 (by kernel_rfl) rfl
      have hcon := AnyQ.slices_SortFunc_eq addSort_lays 3 Try.isAgg48 Try.sizeOf48 encA (fun _ => rfl) (fun x v hv => by simp [encA] at hv; rcases hv with rfl | rfl | rfl <;> rfl) cfA swoA 40 #[] g 0 cap l0.toArray w eg (cmpLaysA g 0 l0.toArray.size w) hH hgl (by simp; omega)
      rw [List.size_toArray] at hcon
      rw [h1]
      refine hcon.mono ?_
      rintro e w' ⟨rfl, n, os, rfl⟩
      have hd : (pdq (ltOf cfA) l0.toArray 0 l0.length (Lib.bitLen l0.length) true true) = (srtA l0).toArray := by simp [srtA]
      rw [hd]
      have hlen := (srtA_perm l0).2
      have hheap : (sortWorldK encA 3 w g 0 n (srtA l0).toArray os).heap[g]? = some (.cells (putCells id 0 (flatK encA 3 (srtA l0).toArray) cur) 48 (0, 0)) := by
        show ((putRow id (Sort.ahead w n) g 0 (flatK encA 3 (srtA l0).toArray)).heap ++ os)[g]? = _
        rw [Array.getElem?_append_left (by simpa [putRow, mapBlock, Sort.ahead] using hgl)]
        simp [putRow, mapBlock, Sort.ahead, Array.getElem?_modify, hh, onCells]
      have hfar : ∀ i, i < w.heap.size → i ≠ g → (sortWorldK encA 3 w g 0 n (srtA l0).toArray os).heap[i]? = w.heap[i]? := by
        intro i hi hne
        show ((putRow id (Sort.ahead w n) g 0 (flatK encA 3 (srtA l0).toArray)).heap ++ os)[i]? = _
        rw [Array.getElem?_append_left (by simpa [putRow, mapBlock, Sort.ahead] using hi)]
        have : g ≠ i := fun e => hne e.symm
        simp [putRow, mapBlock, Sort.ahead, Array.getElem?_modify, this]
      have hsz : w.heap.size ≤ (sortWorldK encA 3 w g 0 n (srtA l0).toArray os).heap.size := by
        show _ ≤ ((putRow id (Sort.ahead w n) g 0 (flatK encA 3 (srtA l0).toArray)).heap ++ os).size
        rw [Array.size_append]; simp [putRow, mapBlock, Sort.ahead]
      refine ⟨rfl, ⟨fun k hk => ?_, (flatK encA 3 (srtA l0).toArray).toList, ⟨?_, .inr ⟨g, cap, _, ?_, hb, hheap, ?_, hc, ?_, ?_⟩⟩, reps_flat _ _ _ _⟩, ?_, ?_⟩
      · have : g = k := by simpa [Value.ownBlock] using hk
        exact .inl (this ▸ hgP)
      · simp; rfl
      · rw [hlen]
      · rw [hlen]; exact hn
      · show (putCells id 0 (flatK encA 3 (srtA l0).toArray) cur).size = cap * 3
        simpa [putCells] using hs3
      · apply List.ext_getElem?
        intro t
        rw [hlen]
        by_cases htl : t < l0.length * 3
        · have hcl : l0.length * 3 ≤ cap * 3 := Nat.mul_le_mul_right 3 hn
          have htc : t < cur.size := by omega
          have hfl : t < (flatK encA 3 (srtA l0).toArray).size := by simp [hlen]; exact htl
          show (List.take (l0.length * 3) _)[t]? = _
          rw [List.getElem?_take, if_pos htl, Array.getElem?_toList, Array.getElem?_toList]
          simp only [putCells, Array.getElem?_mapIdx, Array.getElem?_eq_getElem htc, Option.map_some, Array.getElem?_eq_getElem hfl]
          rw [if_pos ⟨Nat.zero_le _, by omega⟩]
          have e9 := getElem!_pos (flatK encA 3 (srtA l0).toArray) t hfl
          simp [e9]
        · show (List.take (l0.length * 3) _)[t]? = _
          rw [List.getElem?_take, if_neg htl, List.getElem?_eq_none (by simp [hlen]; omega)]
      · refine ⟨hB.os, hB.tape, hB.output, Nat.le_trans hB.size hsz, fun i hi => ?_⟩
        rw [hfar i (Nat.lt_of_lt_of_le hi hB.size) (by omega)]
        exact hB.block i hi
      · exact ⟨hsz, fun i hi hn' => hfar i hi (fun e => hn' (e ▸ hgP))⟩
end Go.Proofs.Ytdnapgnnliibfaa.PMB
