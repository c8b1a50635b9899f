/- What this text proves (a hand-built part): the machine call of impl.areEvents returns what the plain function says; its two maps serve as sets.
   Conditions: as each theorem says. -/
import Derived.Test.YtgdcooiaeeajmaaPLAx0
import Derived.Test.YtgdcooiaeeajmaaPLAx2
import Derived.Test.YtgdcooiaeeajmaaBase
import Derived.Test.YtgdcooiaeeajmaaMapSet
namespace Go.Proofs.Ytgdcooiaeeajmaa.PLA
open Go.RowKit Go.Proofs.YtgdcooiaeeajmaaW.PrintWords Go.Proofs.YtgdcooiaeeajmaaW.PrintLast Go.Proofs.YtgdcooiaeeajmaaW.PrintMore Go.Proofs.Ytgdcooiaeeajmaa.Base Go.Proofs.Ytgdcooiaeeajmaa.MapSet
attribute [local go_sem] max2_int min2_int max_two min_two max_three min_three max_four min_four   -- for this text's walks alone
set_option linter.unusedVariables false
set_option linter.unusedSimpArgs false

/-- Two sets of the call's own. -/
structure TS (w0 W : World) (g4 : Nat) (S : List Int) (g5 : Nat) (T : List Int) : Prop where
  h4 : w0.heap.size ≤ g4
  h5 : w0.heap.size ≤ g5
  ne : g4 ≠ g5
  o4 : OSet Try.prog 3 4 W g4 S
  o5 : OSet Try.prog 3 4 W g5 T
theorem TS.below {w0 W W' : World} {g4 g5 : Nat} {S T : List Int} (h : TS w0 W g4 S g5 T) (hb : Below W.heap.size W W') : TS w0 W' g4 S g5 T := ⟨h.h4, h.h5, h.ne, h.o4.below hb, h.o5.below hb⟩
theorem TS.alloc {w0 W : World} {g4 g5 : Nat} {S T : List Int} (h : TS w0 W g4 S g5 T) (o : Obj) : TS w0 (W.alloc o) g4 S g5 T := ⟨h.h4, h.h5, h.ne, h.o4.alloc o, h.o5.alloc o⟩
theorem TS.drewN {w0 W : World} {g4 g5 : Nat} {S T : List Int} (h : TS w0 W g4 S g5 T) (n : Nat) : TS w0 (W.drewN n) g4 S g5 T := ⟨h.h4, h.h5, h.ne, h.o4.drewN n, h.o5.drewN n⟩
theorem TS.put4 {w0 W W' : World} {g4 g5 : Nat} {S S' T : List Int} (h : TS w0 W g4 S g5 T) (ho : OSet Try.prog 3 4 W' g4 S') (hg : W.grownBy W' (some g4)) : TS w0 W' g4 S' g5 T := ⟨h.h4, h.h5, h.ne, ho, h.o5.kept hg (fun e => h.ne (Option.some.inj e).symm)⟩
theorem TS.put5 {w0 W W' : World} {g4 g5 : Nat} {S T T' : List Int} (h : TS w0 W g4 S g5 T) (ho : OSet Try.prog 3 4 W' g5 T') (hg : W.grownBy W' (some g5)) : TS w0 W' g4 S g5 T' := ⟨h.h4, h.h5, h.ne, h.o4.kept hg (fun e => h.ne (Option.some.inj e)), ho⟩
theorem TS.set {w0 W : World} {g4 g5 g : Nat} {S T : List Int} {t : TypeId} {cs : Array Value} (h : TS w0 W g4 S g5 T) (hb : W.heap[g]? = some (.cells cs t (0, 0))) (i : Nat) (u : Value) : TS w0 (W.setCell ⟨g, i, none⟩ u) g4 S g5 T := by
  obtain ⟨D, ⟨es, c, e, r⟩, q⟩ := h.o4
  obtain ⟨D2, ⟨es2, c2, e2, r2⟩, q2⟩ := h.o5
  have n4 : g4 ≠ g := by intro x; subst x; rw [e] at hb; cases hb
  have n5 : g5 ≠ g := by intro x; subst x; rw [e2] at hb; cases hb
  exact ⟨h.h4, h.h5, h.ne, ⟨D, ⟨es, c, (Below.heap_setCell W _ _ _ n4).trans e, r⟩, q⟩, ⟨D2, ⟨es2, c2, (Below.heap_setCell W _ _ _ n5).trans e2, r2⟩, q2⟩⟩
theorem TS.far {w0 W : World} {g4 g5 g : Nat} {S T : List Int} (h : TS w0 W g4 S g5 T) (n4 : g4 ≠ g) (n5 : g5 ≠ g) (i : Nat) (u : Value) : TS w0 (W.setCell ⟨g, i, none⟩ u) g4 S g5 T := by
  obtain ⟨D, ⟨es, c, e, r⟩, q⟩ := h.o4
  obtain ⟨D2, ⟨es2, c2, e2, r2⟩, q2⟩ := h.o5
  exact ⟨h.h4, h.h5, h.ne, ⟨D, ⟨es, c, (Below.heap_setCell W _ _ _ n4).trans e, r⟩, q⟩, ⟨D2, ⟨es2, c2, (Below.heap_setCell W _ _ _ n5).trans e2, r2⟩, q2⟩⟩
theorem TS.ne4 {w0 W : World} {g4 g5 g : Nat} {S T : List Int} {t : TypeId} {cs : Array Value} (h : TS w0 W g4 S g5 T) (hb : W.heap[g]? = some (.cells cs t (0, 0))) : g4 ≠ g := by
  obtain ⟨D, ⟨es, c, e, r⟩, q⟩ := h.o4
  intro x; subst x; rw [e] at hb; cases hb
theorem TS.ne5 {w0 W : World} {g4 g5 g : Nat} {S T : List Int} {t : TypeId} {cs : Array Value} (h : TS w0 W g4 S g5 T) (hb : W.heap[g]? = some (.cells cs t (0, 0))) : g5 ≠ g := by
  obtain ⟨D, ⟨es, c, e, r⟩, q⟩ := h.o5
  intro x; subst x; rw [e] at hb; cases hb
theorem tsb_ {w0 w W w1 : World} {g4 g5 : Nat} {S T : List Int} (h : Aside0 (TS w0 w g4 S g5 T)) (hb : Below W.heap.size W w1) [k : Keep_ w W] : Aside0 (TS w0 w1 g4 S g5 T) := ⟨(h.out.below k.kept).below hb⟩
theorem tsk_ {w0 w W : World} {g4 g5 : Nat} {S T : List Int} (h : Aside0 (TS w0 w g4 S g5 T)) [k : Keep_ w W] : TS w0 W g4 S g5 T := h.out.below k.kept
theorem tsk1_ {w0 w W : World} {g4 g5 : Nat} {S T : List Int} (h : Aside0 (TS w0 w g4 S g5 T)) [k : Keep_ w W] : Aside0 (TS w0 W g4 S g5 T) := ⟨h.out.below k.kept⟩
theorem os4_ {w0 w W : World} {g4 g5 : Nat} {S T : List Int} (h : Aside0 (TS w0 w g4 S g5 T)) [k : Keep_ w W] : OSet Try.prog 3 4 W g4 S := (h.out.below k.kept).o4
theorem os5_ {w0 w W : World} {g4 g5 : Nat} {S T : List Int} (h : Aside0 (TS w0 w g4 S g5 T)) [k : Keep_ w W] : OSet Try.prog 3 4 W g5 T := (h.out.below k.kept).o5
theorem rdT68 {l : List S68} {i : Nat} (h : i < l.length) : rd_T68 l (i : Int) = l[i] := by simp [rd_T68, h]
theorem zero4 (w : World) : (zeroValue 4).run Try.prog w = .ok (.bool false) w := by kernel_rfl
theorem in_c (x a b : Int) (w : World) : Calls Try.prog 25 #[.int .i64 x, .int .i64 a, .int .i64 b] w fun e w' => e = .returned (.bool (inB x a b)) ∧ Drawn0 w w' := impl_in.calls x a b _ w (by unfold impl_in.f inB; by_cases h : x ≥ a <;> simp [h]; all_goals omega)
def okEv (S T : List Int) (e : S68) : Bool := inB e.f1 0 5 && (if e.f0 = 1 then e.f2 == 0 else if e.f0 = 2 then inB e.f2 1 1000 && !decide (e.f2 ∈ S) else if e.f0 = 3 then decide (e.f2 ∈ S) && !decide (e.f2 ∈ T) else false)
def goodEv : List S68 → List Int → List Int → Bool
  | [], _, _ => true
  | e :: r, S, T => okEv S T e && goodEv r (if e.f0 = 2 then e.f2 :: S else S) (if e.f0 = 3 then e.f2 :: T else T)
def szEv (e : S68) : Bool := (Lit.int .i64 e.f2).wf
def impl_areEvents.f (k : Nat) (l0 : List (S68)) : Option (Bool) := if l0.all szEv = true then some (goodEv l0 [] [] && decide (l0.length ≤ 60)) else none
theorem impl_areEvents.mono : ∀ a0 k, LeO (impl_areEvents.f k a0) (impl_areEvents.f (k + 1) a0) := fun _ _ => LeO.refl _
theorem goodEv_step {l : List S68} {i : Nat} {S T : List Int} (h : i < l.length) : goodEv (l.drop i) S T = (okEv S T l[i] && goodEv (l.drop (i + 1)) (if l[i].f0 = 2 then l[i].f2 :: S else S) (if l[i].f0 = 3 then l[i].f2 :: T else T)) := by
  rw [List.drop_eq_getElem_cons h]; rfl
theorem goodEv_end {l : List S68} {S T : List Int} : goodEv (l.drop l.length) S T = true := by rw [List.drop_length]; rfl

set_option maxHeartbeats 8000000 in
set_option maxRecDepth 100000 in
theorem impl_areEvents.calls (k : Nat) (A0 : Option Addr) (c0 : Nat) (l0 : List (S68)) (r : Bool) (w : World) (hr0 : Kd.C k68 w A0 l0.length l0) (hc0 : l0.length ≤ c0) (h : impl_areEvents.f k l0 = some r) :
  Calls Try.prog 36 #[.slice A0 l0.length c0] w fun e w' => e = .returned (.bool r) ∧ Below w.heap.size w w' := by
 obtain ⟨hs, hg⟩ : l0.all szEv = true ∧ (goodEv l0 [] [] && decide (l0.length ≤ 60)) = r := by
  unfold impl_areEvents.f at h
  by_cases hs : l0.all szEv = true
  · rw [if_pos hs] at h; exact ⟨hs, Option.some.inj h⟩
  · rw [if_neg hs] at h; cases h
 clear h
 have HS : Aside0 (∀ x ∈ l0, szEv x = true) := ⟨List.all_eq_true.1 hs⟩
 have HG : Aside0 ((goodEv (l0.drop 0) [] [] && decide (l0.length ≤ 60)) = r) := Aside0.mk hg
 clear hs hg
 have HL : Aside0 (l0.length ≤ 9223372036854775807) := ⟨hr0.2.1⟩
 have hu68 := Try.underlying68
 have HR0 := Aside0.mk hr0
 have HC0 := Aside0.mk hc0
 clear hr0 hc0
 have HB := Aside0.mk (Below.refl w.heap.size w)
 go_enter Try.func36, Try.ntmps36
 have hmm := @run_makeMap Try.prog
 go_upto_region 1 with (fail)
 (try simp only [Act.put, List.setIfInBounds_toArray, List.set_cons_zero, List.set_cons_succ])
 go_cut [3, 4] (fun v3 v4 wd => ∃ g4 g5 : Nat, v3 = .map (some g4) ∧ v4 = .map (some g5) ∧ Aside0 (TS w wd g4 [] g5 []) ∧ Aside0 (Below w.heap.size w wd))
 case first =>
  go_wp2
  go_meet
  exact ⟨_, _, rfl, rfl, ⟨⟨HB.out.size, Nat.le_succ_of_le HB.out.size, by omega, (OSet.made _ _ _ _).alloc _, by simpa using OSet.made Try.prog 3 4 (w.alloc (.map #[] 0))⟩⟩, ⟨bl_⟩⟩
 clear hmm HB
 obtain ⟨g4, g5, rfl, rfl, OS, HB⟩ := hcut
 go_wp2
 go_loopg [12] l0.length (fun gg v12 w' => ∃ (i : Nat) (S T : List Int), v12 = .int .i64 (i : Int) ∧ i ≤ l0.length ∧ l0.length - i ≤ gg ∧ Aside0 ((goodEv (l0.drop i) S T && decide (l0.length ≤ 60)) = r) ∧ Aside0 (S.length ≤ i ∧ T.length ≤ i) ∧ Aside0 (TS w w' g4 S g5 T) ∧ Aside0 (Below w.heap.size w w'))
 case atStart => exact ⟨0, [], [], rfl, Nat.zero_le _, by omega, HG, ⟨by simp⟩, ⟨tsk_ OS⟩, ⟨bl_⟩⟩
 case round =>
  clear HG OS HB
  obtain ⟨i, S, T, rfl, hi, hgg, HG, HN2, OS, HB⟩ := hrel
  by_cases hlt : i < l0.length
  rotate_left
  · have ei : i = l0.length := by omega
    subst ei
    have er : r = decide ((l0.length : Int) ≤ 60) := by rw [← HG.out, goodEv_end, Bool.true_and]; exact decide_eq_decide.2 (by omega)
    subst er
    go_wp2
    go_ret
    exact ⟨rfl, bl_⟩
  have hltz : (i : Int) < (l0.length : Int) := by omega
  have HO := Aside0.mk (rdT68 hlt)
  have HV := Aside0.mk (HS.out _ (List.getElem_mem hlt))
  replace HG : Aside0 ((okEv S T l0[i] && (goodEv (l0.drop (i + 1)) (if l0[i].f0 = 2 then l0[i].f2 :: S else S) (if l0[i].f0 = 3 then l0[i].f2 :: T else T) && decide (l0.length ≤ 60))) = r) := ⟨by rw [← Bool.and_assoc, ← goodEv_step hlt]; exact HG.out⟩
  obtain ⟨ad, eA, hx0, hx1, hx2⟩ := at_T68 HR0.out (i : Int) (by omega) hltz
  cases eA
  replace hx0 := (HB.out.cell (World.block_lt_of_cell? w _ hx0)).trans hx0
  replace hx1 := (HB.out.cell (World.block_lt_of_cell? w _ hx1)).trans hx1
  replace hx2 := (HB.out.cell (World.block_lt_of_cell? w _ hx2)).trans hx2
  simp only [Int.toNat_natCast] at hx0 hx1 hx2
  generalize hq : l0[i] = o at HG HO HV
  clear hq
  rw [HO.out] at hx0 hx1 hx2
  clear HO
  replace HV : Aside0 ((Lit.int .i64 o.f2).wf = true) := HV
  have p226 := eq_true (show (0 : Int) ≤ (i : Int) by omega)
  replace hltz := eq_true hltz
  go_upto_region 4 with (fail)
  (try simp only [Act.put, List.setIfInBounds_toArray, List.set_cons_zero, List.set_cons_succ])
  go_cut [6] (fun v6 wc => ∃ gb : Nat, v6 = .pointer (some ⟨gb, 0, none⟩) ∧ Aside0 (w.heap.size ≤ gb) ∧ Aside0 (TS w wc g4 S g5 T) ∧ Aside0 (wc.heap[gb]? = some (.cells #[.int .i64 o.f0, .int .i64 o.f1, .int .i64 o.f2] 68 (0, 0))) ∧ Aside0 (Below w.heap.size w wc))
  case first =>
   go_wp2_with (first | ((with_reducible refine gate_dst (N := 6) rfl ?_); (try (refine gate_guard (by rfl) ?_; dsimp only)); refine box_event rfl (N := 6) rfl (cs := #[.int .i64 0, .int .i64 0, .int .i64 0]) (t := 68) gs_ ?_; intro gb hg w22 hbox hb; have BK := Aside0.mk (hbox); have GE := Aside0.mk ((by rw [hg]; exact bz_ : w.heap.size ≤ gb)); replace HB := Aside0.mk (below_step bl_ hb); replace OS := tsb_ OS hb; clear hb hbox hg; have hcz_0 : w22.cell? ⟨gb, 0, none⟩ = some (.int .i64 0) := bc_ BK.out 0; have hcz_1 : w22.cell? ⟨gb, 1, none⟩ = some (.int .i64 0) := bc_ BK.out 1; have hcz_2 : w22.cell? ⟨gb, 2, none⟩ = some (.int .i64 0) := bc_ BK.out 2; have hfz_0 := blk_frozen BK.out 0; have hfz_1 := blk_frozen BK.out 1; have hfz_2 := blk_frozen BK.out 2))
   have N4 := Aside0.mk (OS.out.ne4 BK.out)
   have N5 := Aside0.mk (OS.out.ne5 BK.out)
   go_meet
   exact ⟨gb, rfl, GE, ⟨by with_reducible repeat (first | exact OS.out | refine TS.far ?_ N4.out N5.out _ _)⟩, ⟨by refine blk_put (cs := #[.int .i64 o.f0, .int .i64 o.f1, .int .i64 0]) ?_ 2 _ rfl; refine blk_put (cs := #[.int .i64 o.f0, .int .i64 0, .int .i64 0]) ?_ 1 _ rfl; refine blk_put (cs := #[.int .i64 0, .int .i64 0, .int .i64 0]) ?_ 0 _ rfl; exact BK.out⟩, ⟨bl_⟩⟩
  clear hx0 hx1 hx2 OS HB
  obtain ⟨gb, rfl, GE, OS, BK, HB⟩ := hcut
  have yc_0 : wc.cell? ⟨gb, 0, none⟩ = some (.int .i64 o.f0) := bc_ BK.out 0
  have yd_0 := blk_frozen BK.out 0
  have yc_1 : wc.cell? ⟨gb, 1, none⟩ = some (.int .i64 o.f1) := bc_ BK.out 1
  have yd_1 := blk_frozen BK.out 1
  have yc_2 : wc.cell? ⟨gb, 2, none⟩ = some (.int .i64 o.f2) := bc_ BK.out 2
  have yd_2 := blk_frozen BK.out 2
  have N4 := Aside0.mk (OS.out.ne4 BK.out)
  have N5 := Aside0.mk (OS.out.ne5 BK.out)
  have hl4 := fun n : Nat => (OS.out.o4.drewN n).look (mt := 77) Try.underlying3 Try.underlying4 Try.underlying77 (zero4 _) HV.out
  have hl5 := fun n : Nat => (OS.out.o5.drewN n).look (mt := 77) Try.underlying3 Try.underlying4 Try.underlying77 (zero4 _) HV.out
  cases h1 : inB o.f1 0 5
  · by_cases c1 : o.f0 = 1
    · have e1 : (o.f0 == 1) = true := beq_iff_eq.mpr c1
      have q2 : ¬ o.f0 = 2 := by omega
      have q3 : ¬ o.f0 = 3 := by omega
      · as_aux_lemma =>
        have er : r = false := by rw [← HG.out]; simp [okEv, h1]
        subst er
        go_wp2_with (first | (go_at_call 25; (with_reducible refine (in_c _ _ _ _).mono ?_); rintro e w' ⟨rfl, ⟨nd, rfl⟩⟩))
        go_ret
        exact ⟨rfl, bl_⟩
    have e1 : (o.f0 == 1) = false := beq_eq_false_iff_ne.mpr c1
    by_cases c2 : o.f0 = 2
    · have e2 : (o.f0 == 2) = true := beq_iff_eq.mpr c2
      have q3 : ¬ o.f0 = 3 := by omega
      · as_aux_lemma =>
        have er : r = false := by rw [← HG.out]; simp [okEv, h1]
        subst er
        go_wp2_with (first | (go_at_call 25; (with_reducible refine (in_c _ _ _ _).mono ?_); rintro e w' ⟨rfl, ⟨nd, rfl⟩⟩) | (at_mapUpdate; refine wpList_put_set rfl _ _ _ 77 rfl Try.underlying3 Try.underlying4 Try.underlying77 rfl (os4_ OS) (by have q := HN2.out; have q7 := HL.out; unfold maxLen; omega) _ rfl HV.out rfl ?_; intro w5 ho hg; replace HB := Aside0.mk (pw_below_grown bl_ _ bz_ hg (fun k e => by cases e; exact OS.out.h4)); replace BK := Aside0.mk (blk_grown (kb_ BK.out) hg (fun e => N4.out (Option.some.inj e).symm)); replace OS := Aside0.mk ((tsk_ OS).put4 ho hg); clear ho hg))
        go_ret
        exact ⟨rfl, bl_⟩
    have e2 : (o.f0 == 2) = false := beq_eq_false_iff_ne.mpr c2
    by_cases c3 : o.f0 = 3
    · have e3 : (o.f0 == 3) = true := beq_iff_eq.mpr c3
      · as_aux_lemma =>
        have er : r = false := by rw [← HG.out]; simp [okEv, h1]
        subst er
        go_wp2_with (first | (go_at_call 25; (with_reducible refine (in_c _ _ _ _).mono ?_); rintro e w' ⟨rfl, ⟨nd, rfl⟩⟩) | (at_mapUpdate; refine wpList_put_set rfl _ _ _ 77 rfl Try.underlying3 Try.underlying4 Try.underlying77 rfl (os5_ OS) (by have q := HN2.out; have q7 := HL.out; unfold maxLen; omega) _ rfl HV.out rfl ?_; intro w5 ho hg; replace HB := Aside0.mk (pw_below_grown bl_ _ bz_ hg (fun k e => by cases e; exact OS.out.h5)); replace BK := Aside0.mk (blk_grown (kb_ BK.out) hg (fun e => N5.out (Option.some.inj e).symm)); replace OS := Aside0.mk ((tsk_ OS).put5 ho hg); clear ho hg))
        go_ret
        exact ⟨rfl, bl_⟩
    have e3 : (o.f0 == 3) = false := beq_eq_false_iff_ne.mpr c3
    · as_aux_lemma =>
      have er : r = false := by rw [← HG.out]; simp [okEv, h1, c1, c2, c3]
      subst er
      go_wp2_with (first | (go_at_call 25; (with_reducible refine (in_c _ _ _ _).mono ?_); rintro e w' ⟨rfl, ⟨nd, rfl⟩⟩))
      go_ret
      exact ⟨rfl, bl_⟩
  · by_cases c1 : o.f0 = 1
    · have e1 : (o.f0 == 1) = true := beq_iff_eq.mpr c1
      have q2 : ¬ o.f0 = 2 := by omega
      have q3 : ¬ o.f0 = 3 := by omega
      cases h2 : (o.f2 == 0)
      · as_aux_lemma =>
        have er : r = false := by rw [← HG.out]; simp [okEv, h1, c1, h2]
        subst er
        go_wp2_with (first | (go_at_call 25; (with_reducible refine (in_c _ _ _ _).mono ?_); rintro e w' ⟨rfl, ⟨nd, rfl⟩⟩))
        go_ret
        exact ⟨rfl, bl_⟩
      · as_aux_lemma =>
        replace HG : Aside0 ((goodEv (l0.drop (i + 1)) S T && decide (l0.length ≤ 60)) = r) := ⟨by have q := HG.out; simpa [okEv, h1, c1, q2, q3, h2] using q⟩
        go_wp2_with (first | (go_at_call 25; (with_reducible refine (in_c _ _ _ _).mono ?_); rintro e w' ⟨rfl, ⟨nd, rfl⟩⟩))
        go_roundg (l0.length - (i + 1))
        case measure => omega
        case rel => exact ⟨i + 1, S, T, by rw [w64_succ hlt HL.out], by omega, by omega, HG, ⟨by have q := HN2.out; (try simp only [List.length_cons]); omega⟩, tsk1_ OS, ⟨bl_⟩⟩
    have e1 : (o.f0 == 1) = false := beq_eq_false_iff_ne.mpr c1
    by_cases c2 : o.f0 = 2
    · have e2 : (o.f0 == 2) = true := beq_iff_eq.mpr c2
      have q3 : ¬ o.f0 = 3 := by omega
      cases h2 : inB o.f2 1 1000
      · as_aux_lemma =>
        have er : r = false := by rw [← HG.out]; simp [okEv, h1, c1, c2, h2]
        subst er
        go_wp2_with (first | (go_at_call 25; (with_reducible refine (in_c _ _ _ _).mono ?_); rintro e w' ⟨rfl, ⟨nd, rfl⟩⟩) | (at_mapUpdate; refine wpList_put_set rfl _ _ _ 77 rfl Try.underlying3 Try.underlying4 Try.underlying77 rfl (os4_ OS) (by have q := HN2.out; have q7 := HL.out; unfold maxLen; omega) _ rfl HV.out rfl ?_; intro w5 ho hg; replace HB := Aside0.mk (pw_below_grown bl_ _ bz_ hg (fun k e => by cases e; exact OS.out.h4)); replace BK := Aside0.mk (blk_grown (kb_ BK.out) hg (fun e => N4.out (Option.some.inj e).symm)); replace OS := Aside0.mk ((tsk_ OS).put4 ho hg); clear ho hg))
        go_ret
        exact ⟨rfl, bl_⟩
      cases h3 : decide (o.f2 ∈ S)
      rotate_left
      all_goals rw [h3] at hl4
      · as_aux_lemma =>
        have er : r = false := by rw [← HG.out]; simp [okEv, h1, c1, c2, h2, of_decide_eq_true h3]
        subst er
        go_wp2_with (first | (go_at_call 25; (with_reducible refine (in_c _ _ _ _).mono ?_); rintro e w' ⟨rfl, ⟨nd, rfl⟩⟩) | (at_mapUpdate; refine wpList_put_set rfl _ _ _ 77 rfl Try.underlying3 Try.underlying4 Try.underlying77 rfl (os4_ OS) (by have q := HN2.out; have q7 := HL.out; unfold maxLen; omega) _ rfl HV.out rfl ?_; intro w5 ho hg; replace HB := Aside0.mk (pw_below_grown bl_ _ bz_ hg (fun k e => by cases e; exact OS.out.h4)); replace BK := Aside0.mk (blk_grown (kb_ BK.out) hg (fun e => N4.out (Option.some.inj e).symm)); replace OS := Aside0.mk ((tsk_ OS).put4 ho hg); clear ho hg))
        go_ret
        exact ⟨rfl, bl_⟩
      · as_aux_lemma =>
        replace HG : Aside0 ((goodEv (l0.drop (i + 1)) (o.f2 :: S) T && decide (l0.length ≤ 60)) = r) := ⟨by have q := HG.out; simpa [okEv, h1, c1, c2, q3, h2, of_decide_eq_false h3] using q⟩
        go_wp2_with (first | (go_at_call 25; (with_reducible refine (in_c _ _ _ _).mono ?_); rintro e w' ⟨rfl, ⟨nd, rfl⟩⟩) | (at_mapUpdate; refine wpList_put_set rfl _ _ _ 77 rfl Try.underlying3 Try.underlying4 Try.underlying77 rfl (os4_ OS) (by have q := HN2.out; have q7 := HL.out; unfold maxLen; omega) _ rfl HV.out rfl ?_; intro w5 ho hg; replace HB := Aside0.mk (pw_below_grown bl_ _ bz_ hg (fun k e => by cases e; exact OS.out.h4)); replace BK := Aside0.mk (blk_grown (kb_ BK.out) hg (fun e => N4.out (Option.some.inj e).symm)); replace OS := Aside0.mk ((tsk_ OS).put4 ho hg); clear ho hg))
        go_roundg (l0.length - (i + 1))
        case measure => omega
        case rel => exact ⟨i + 1, (o.f2 :: S), T, by rw [w64_succ hlt HL.out], by omega, by omega, HG, ⟨by have q := HN2.out; (try simp only [List.length_cons]); omega⟩, tsk1_ OS, ⟨bl_⟩⟩
    have e2 : (o.f0 == 2) = false := beq_eq_false_iff_ne.mpr c2
    by_cases c3 : o.f0 = 3
    · have e3 : (o.f0 == 3) = true := beq_iff_eq.mpr c3
      cases h2 : decide (o.f2 ∈ S)
      all_goals rw [h2] at hl4
      · as_aux_lemma =>
        have er : r = false := by rw [← HG.out]; simp [okEv, h1, c1, c2, c3, of_decide_eq_false h2]
        subst er
        go_wp2_with (first | (go_at_call 25; (with_reducible refine (in_c _ _ _ _).mono ?_); rintro e w' ⟨rfl, ⟨nd, rfl⟩⟩) | (at_mapUpdate; refine wpList_put_set rfl _ _ _ 77 rfl Try.underlying3 Try.underlying4 Try.underlying77 rfl (os5_ OS) (by have q := HN2.out; have q7 := HL.out; unfold maxLen; omega) _ rfl HV.out rfl ?_; intro w5 ho hg; replace HB := Aside0.mk (pw_below_grown bl_ _ bz_ hg (fun k e => by cases e; exact OS.out.h5)); replace BK := Aside0.mk (blk_grown (kb_ BK.out) hg (fun e => N5.out (Option.some.inj e).symm)); replace OS := Aside0.mk ((tsk_ OS).put5 ho hg); clear ho hg))
        go_ret
        exact ⟨rfl, bl_⟩
      cases h3 : decide (o.f2 ∈ T)
      rotate_left
      all_goals rw [h3] at hl5
      · as_aux_lemma =>
        have er : r = false := by rw [← HG.out]; simp [okEv, h1, c1, c2, c3, of_decide_eq_true h2, of_decide_eq_true h3]
        subst er
        go_wp2_with (first | (go_at_call 25; (with_reducible refine (in_c _ _ _ _).mono ?_); rintro e w' ⟨rfl, ⟨nd, rfl⟩⟩) | (at_mapUpdate; refine wpList_put_set rfl _ _ _ 77 rfl Try.underlying3 Try.underlying4 Try.underlying77 rfl (os5_ OS) (by have q := HN2.out; have q7 := HL.out; unfold maxLen; omega) _ rfl HV.out rfl ?_; intro w5 ho hg; replace HB := Aside0.mk (pw_below_grown bl_ _ bz_ hg (fun k e => by cases e; exact OS.out.h5)); replace BK := Aside0.mk (blk_grown (kb_ BK.out) hg (fun e => N5.out (Option.some.inj e).symm)); replace OS := Aside0.mk ((tsk_ OS).put5 ho hg); clear ho hg))
        go_ret
        exact ⟨rfl, bl_⟩
      · as_aux_lemma =>
        replace HG : Aside0 ((goodEv (l0.drop (i + 1)) S (o.f2 :: T) && decide (l0.length ≤ 60)) = r) := ⟨by have q := HG.out; simpa [okEv, h1, c1, c2, c3, of_decide_eq_true h2, of_decide_eq_false h3] using q⟩
        go_wp2_with (first | (go_at_call 25; (with_reducible refine (in_c _ _ _ _).mono ?_); rintro e w' ⟨rfl, ⟨nd, rfl⟩⟩) | (at_mapUpdate; refine wpList_put_set rfl _ _ _ 77 rfl Try.underlying3 Try.underlying4 Try.underlying77 rfl (os5_ OS) (by have q := HN2.out; have q7 := HL.out; unfold maxLen; omega) _ rfl HV.out rfl ?_; intro w5 ho hg; replace HB := Aside0.mk (pw_below_grown bl_ _ bz_ hg (fun k e => by cases e; exact OS.out.h5)); replace BK := Aside0.mk (blk_grown (kb_ BK.out) hg (fun e => N5.out (Option.some.inj e).symm)); replace OS := Aside0.mk ((tsk_ OS).put5 ho hg); clear ho hg))
        go_roundg (l0.length - (i + 1))
        case measure => omega
        case rel => exact ⟨i + 1, S, (o.f2 :: T), by rw [w64_succ hlt HL.out], by omega, by omega, HG, ⟨by have q := HN2.out; (try simp only [List.length_cons]); omega⟩, tsk1_ OS, ⟨bl_⟩⟩
    have e3 : (o.f0 == 3) = false := beq_eq_false_iff_ne.mpr c3
    · as_aux_lemma =>
      have er : r = false := by rw [← HG.out]; simp [okEv, h1, c1, c2, c3]
      subst er
      go_wp2_with (first | (go_at_call 25; (with_reducible refine (in_c _ _ _ _).mono ?_); rintro e w' ⟨rfl, ⟨nd, rfl⟩⟩))
      go_ret
      exact ⟨rfl, bl_⟩
end Go.Proofs.Ytgdcooiaeeajmaa.PLA
