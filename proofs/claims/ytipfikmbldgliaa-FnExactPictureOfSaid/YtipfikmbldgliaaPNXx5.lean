/- What this text proves (a hand-built part): the machine call of spec.GoodNet returns what the plain function says.
   Conditions: as each theorem says. -/
import Derived.Test.YtipfikmbldgliaaPNXx0
import Derived.Test.YtipfikmbldgliaaPNXx4
import Derived.Test.YtipfikmbldgliaaBase
namespace Go.Proofs.Ytipfikmbldgliaa.PNX
open Go.RowKit Go.Proofs.YtipfikmbldgliaaW.PrintWords Go.Proofs.YtipfikmbldgliaaW.PrintLast Go.Proofs.YtipfikmbldgliaaW.PrintMore Go.Proofs.Ytipfikmbldgliaa.Base
attribute [local go_sem] max2_int min2_int max_two min_two max_three min_three max_four min_four   -- for this text's walks alone
set_option linter.unusedVariables false
set_option linter.unusedSimpArgs false

theorem spec_l1In.ev (n a b : Int) : spec_l1In.f n a b = some (inB n a b) := by
  unfold spec_l1In.f inB
  by_cases h : a ≤ n
  · rw [if_pos h]; simp [h]
  · rw [if_neg h]; simp [h]
def okBk (b : S92) : Bool := inB b.f0 0 1000000 && inB b.f2 0 1000000 && (b.f1 || decide (b.f2 = 0))
def okPc (p : S103) : Bool := if p.f0 = true then decide (p.f1 = 0) else inB p.f1 1 1000000
def okAm (a : Int) : Bool := inB a 1 1000000
/-- How many marks lie in a row of parcels. -/
def mkN : List S103 → Nat
  | [] => 0
  | p :: r => (if p.f0 = true then 1 else 0) + mkN r
theorem mkN_le (l : List S103) : mkN l ≤ l.length := by
  induction l with
  | nil => exact Nat.le_refl _
  | cons p r ih => simp only [mkN, List.length_cons]; split <;> omega
theorem mkN_step (l : List S103) {i : Nat} (h : i < l.length) : mkN (l.drop i) = (if l[i].f0 = true then 1 else 0) + mkN (l.drop (i + 1)) := by
  rw [List.drop_eq_getElem_cons h]; rfl
/-- The end of a way's look: its ends' marks, how many marks ride on it. -/
def wayEnd (fm tm : Bool) (n : Nat) (pl sl : Nat) (wt : Bool) : Bool := decide (pl ≤ 20) && decide (n ≤ 1) && decide (n = 0 ∨ fm = true) && decide (sl ≤ 200) && (if tm = true then wt == (!fm || decide (n = 1)) else !wt && decide (sl = 0) && (!fm || decide (n = 1)))
def okWay (fm tm : Bool) (w : S95) : Bool := w.f2.all okPc && w.f4.all okAm && wayEnd fm tm (mkN w.f2) w.f2.length w.f4.length w.f3
/-- The pairs of a row from b on, m of them, the own one left out. -/
def rowP (a b : Nat) : Nat → List (Nat × Nat)
  | 0 => []
  | m + 1 => if a = b then rowP a (b + 1) m else (a, b) :: rowP a (b + 1) m
/-- The pairs of the rows from a on, m of them. -/
def allP (k a : Nat) : Nat → List (Nat × Nat)
  | 0 => []
  | m + 1 => rowP a 0 k ++ allP k (a + 1) m
theorem allP_len {k : Nat} (h1 : 2 ≤ k) (h2 : k ≤ 5) : (allP k 0 k).length = k * (k - 1) := by
  rcases (show k = 2 ∨ k = 3 ∨ k = 4 ∨ k = 5 by omega) with rfl | rfl | rfl | rfl <;> decide
theorem rowP_in {a b m : Nat} : ∀ p ∈ rowP a b m, p.1 = a ∧ b ≤ p.2 ∧ p.2 < b + m ∧ a ≠ p.2 := by
  induction m generalizing b with
  | zero => intro p hp; simp [rowP] at hp
  | succ m ih =>
    intro p hp
    unfold rowP at hp
    split at hp
    · have := ih p hp; exact ⟨this.1, by omega, by omega, this.2.2.2⟩
    · rcases List.mem_cons.1 hp with rfl | hp
      · exact ⟨rfl, Nat.le_refl _, by simp, by assumption⟩
      · have := ih p hp; exact ⟨this.1, by omega, by omega, this.2.2.2⟩
theorem allP_in {k a m : Nat} : ∀ p ∈ allP k a m, a ≤ p.1 ∧ p.1 < a + m ∧ p.2 < k ∧ p.1 ≠ p.2 := by
  induction m generalizing a with
  | zero => intro p hp; simp [allP] at hp
  | succ m ih =>
    intro p hp
    unfold allP at hp
    rcases List.mem_append.1 hp with hp | hp
    · have := rowP_in p hp; exact ⟨by omega, by omega, by omega, by omega⟩
    · have := ih p hp; exact ⟨by omega, by omega, by omega, this.2.2.2⟩
/-- Ways beside the pairs that they should have. -/
def allW (bs : List S92) : List S95 → List (Nat × Nat) → Bool
  | w :: r, p :: q => (decide (w.f0 = p.1) && decide (w.f1 = p.2) && okWay (rd_T92 bs p.1).f1 (rd_T92 bs p.2).f1 w) && allW bs r q
  | _, _ => true
def goodNet (bs : List S92) (ws : List S95) : Bool := inB bs.length 2 5 && decide (ws.length = bs.length * (bs.length - 1)) && bs.all okBk && allW bs ws (allP bs.length 0 bs.length)

theorem sin_c (x a b : Int) (w : World) : Calls Try.prog 54 #[.int .i64 x, .int .i64 a, .int .i64 b] w fun e w' => e = .returned (.bool (inB x a b)) ∧ Drawn0 w w' := spec_l1In.calls x a b _ w (spec_l1In.ev x a b)
theorem amt_c (x : Int) (w : World) : Calls Try.prog 73 #[.int .i64 x] w fun e w' => e = .returned (.bool (okAm x)) ∧ Drawn0 w w' := spec_l13Amount.calls x _ w (by unfold spec_l13Amount.f; rw [spec_l1In.ev]; rfl)
def badN (l0_0 : List S92) (l0_1 : List S95) : Bool := !inB (l0_0.length : Int) 2 5 || ((l0_1.length : Int) != wrap64 ((l0_0.length : Int) * wrap64 ((l0_0.length : Int) - 1)))
def badB (b : S92) : Bool := !inB b.f0 0 1000000 || (!inB b.f2 0 1000000 || (!b.f1 && (b.f2 != 0)))
def watchB (fm tm : Bool) (c : Nat) : Bool := tm && (!fm || decide (0 < (c : Int)))
def badG (fm tm : Bool) (c : Nat) (a b : Nat) (x : S95) (wt : Bool) : Bool := (x.f0 != (a : Int)) || ((x.f1 != (b : Int)) || (decide (20 < (x.f2.length : Int)) || (decide (200 < (x.f4.length : Int)) || (decide (1 < (c : Int)) || ((decide (0 < (c : Int)) && !fm) || ((x.f3 != wt) || (!tm && (decide (0 < (x.f4.length : Int)) || (fm && ((c : Int) == 0))))))))))
theorem badG_eq (fm tm : Bool) (c a b : Nat) (x : S95) : badG fm tm c a b x (watchB fm tm c) = !(decide (x.f0 = (a : Int)) && decide (x.f1 = (b : Int)) && wayEnd fm tm c x.f2.length x.f4.length x.f3) := by
  have q0 : (x.f0 != (a : Int)) = !decide (x.f0 = (a : Int)) := by rw [Bool.eq_iff_iff]; simp
  have q1 : (x.f1 != (b : Int)) = !decide (x.f1 = (b : Int)) := by rw [Bool.eq_iff_iff]; simp
  have q2 : decide (20 < (x.f2.length : Int)) = !decide (x.f2.length ≤ 20) := by rw [← decide_not]; exact decide_eq_decide.2 (by omega)
  have q3 : decide (200 < (x.f4.length : Int)) = !decide (x.f4.length ≤ 200) := by rw [← decide_not]; exact decide_eq_decide.2 (by omega)
  have q4 : decide (1 < (c : Int)) = !decide (c ≤ 1) := by rw [← decide_not]; exact decide_eq_decide.2 (by omega)
  have q5 : decide (0 < (x.f4.length : Int)) = !decide (x.f4.length = 0) := by rw [← decide_not]; exact decide_eq_decide.2 (by omega)
  unfold badG wayEnd watchB
  rw [q0, q1, q2, q3, q4, q5]
  generalize decide (x.f0 = (a : Int)) = d0
  generalize decide (x.f1 = (b : Int)) = d1
  generalize decide (x.f2.length ≤ 20) = d2
  generalize decide (x.f4.length ≤ 200) = d3
  generalize decide (x.f4.length = 0) = d5
  generalize x.f3 = d6
  clear q0 q1 q2 q3 q4 q5
  by_cases e4 : c ≤ 1
  · rcases (show c = 0 ∨ c = 1 by omega) with rfl | rfl <;> cases fm <;> cases tm <;> cases d6 <;> cases d5 <;> simp <;> (cases d0 <;> cases d1 <;> cases d2 <;> cases d3 <;> rfl)
  · rw [decide_eq_false e4]; cases d0 <;> cases d1 <;> cases d2 <;> simp
/-- What is left of the ways from way i on, from the pair (a, b) on. -/
def leftP (k a b : Nat) : List (Nat × Nat) := rowP a b (k - b) ++ allP k (a + 1) (k - (a + 1))
theorem leftP_skip {k a : Nat} (h : a < k) : leftP k a a = leftP k a (a + 1) := by
  unfold leftP; rw [show k - a = (k - (a + 1)) + 1 by omega, rowP, if_pos rfl]
theorem leftP_take {k a b : Nat} (h : b < k) (hn : a ≠ b) : leftP k a b = (a, b) :: leftP k a (b + 1) := by
  unfold leftP; rw [show k - b = (k - (b + 1)) + 1 by omega, rowP, if_neg hn]; rfl
theorem leftP_end {k a : Nat} : leftP k a k = allP k (a + 1) (k - (a + 1)) := by
  unfold leftP; rw [Nat.sub_self]; rfl
theorem allP_next {k a : Nat} (h : a < k) : allP k a (k - a) = leftP k a 0 := by
  unfold leftP; rw [show k - a = (k - (a + 1)) + 1 by omega, allP, Nat.sub_zero]
theorem wayP {bs : List S92} {ws : List S95} {i a b : Nat} {q : List (Nat × Nat)} (h : i < ws.length) : allW bs (ws.drop i) ((a, b) :: q) = ((decide ((rd_T95 ws (i : Int)).f0 = (a : Int)) && decide ((rd_T95 ws (i : Int)).f1 = (b : Int)) && okWay (rd_T92 bs (a : Int)).f1 (rd_T92 bs (b : Int)).f1 (rd_T95 ws (i : Int))) && allW bs (ws.drop (i + 1)) q) := by
  rw [List.drop_eq_getElem_cons h, show rd_T95 ws (i : Int) = ws[i] by simp [rd_T95, h]]; rfl
theorem rdT92 {l : List S92} {i : Nat} (h : i < l.length) : rd_T92 l (i : Int) = l[i] := by simp [rd_T92, h]
theorem rdT103 {l : List S103} {i : Nat} (h : i < l.length) : rd_T103 l (i : Int) = l[i] := by simp [rd_T103, h]
theorem badB_eq (b : S92) : badB b = !okBk b := by
  unfold badB okBk; cases inB b.f0 0 1000000 <;> cases inB b.f2 0 1000000 <;> cases b.f1 <;> simp <;> by_cases h : b.f2 = 0 <;> simp [h]
theorem badN_no {l0_0 : List S92} {l0_1 : List S95} (h : badN l0_0 l0_1 = false) : 2 ≤ l0_0.length ∧ l0_0.length ≤ 5 ∧ l0_1.length = l0_0.length * (l0_0.length - 1) := by
  unfold badN at h
  rw [Bool.or_eq_false_iff] at h
  have h1 : inB (l0_0.length : Int) 2 5 = true := by simpa using h.1
  have h2 := inB_iff.1 h1
  have h3 : (l0_1.length : Int) = wrap64 ((l0_0.length : Int) * wrap64 ((l0_0.length : Int) - 1)) := by simpa using h.2
  refine ⟨by omega, by omega, ?_⟩
  rcases (show l0_0.length = 2 ∨ l0_0.length = 3 ∨ l0_0.length = 4 ∨ l0_0.length = 5 by omega) with e | e | e | e <;> rw [e] at h3 ⊢ <;> unfold wrap64 at h3 <;> omega
def goodNetS (bs : List S92) (ws : List S95) : Bool := !badN bs ws && (bs.all okBk && allW bs ws (allP bs.length 0 bs.length))
def spec_GoodNet.f (k : Nat) (l0_0 : List (S92)) (l0_1 : List (S95)) : Option (Bool) := some (goodNetS l0_0 l0_1)
theorem spec_GoodNet.mono : ∀ a0 a1 k, LeO (spec_GoodNet.f k a0 a1) (spec_GoodNet.f (k + 1) a0 a1) := fun _ _ _ => LeO.refl _

set_option maxHeartbeats 100000000 in
set_option maxRecDepth 100000 in
theorem spec_GoodNet.calls (k : Nat) (A0_0 : Option Addr) (c0_0 : Nat) (l0_0 : List (S92)) (A0_1 : Option Addr) (c0_1 : Nat) (l0_1 : List (S95)) (r : Bool) (w : World) (hr0_0 : Kd.C k92 w A0_0 l0_0.length l0_0) (hc0_0 : l0_0.length ≤ c0_0) (hr0_1 : Kd.C k95 w A0_1 l0_1.length l0_1) (hc0_1 : l0_1.length ≤ c0_1) (h : spec_GoodNet.f k l0_0 l0_1 = some r) :
  Calls Try.prog 37 #[.agg #[.slice A0_0 l0_0.length c0_0, .slice A0_1 l0_1.length c0_1]] w fun e w' => e = .returned (.bool r) ∧ Below w.heap.size w w' := by
 have hg : goodNetS l0_0 l0_1 = r := Option.some.inj h
 clear h
 have HG := Aside0.mk hg
 clear hg
 have HL0 : Aside0 (l0_0.length ≤ 9223372036854775807) := ⟨hr0_0.2.1⟩
 have HL1 : Aside0 (l0_1.length ≤ 9223372036854775807) := ⟨hr0_1.2.1⟩
 have hu53 := Try.underlying53
 have hu92 := Try.underlying92
 have hu95 := Try.underlying95
 have hu103 := Try.underlying103
 have HR0_0 := Aside0.mk hr0_0
 have HC0_0 := Aside0.mk hc0_0
 clear hr0_0 hc0_0
 have HR0_1 := Aside0.mk hr0_1
 have HC0_1 := Aside0.mk hc0_1
 clear hr0_1 hc0_1
 have HB := Aside0.mk (Below.refl w.heap.size w)
 go_enter Try.func37, Try.ntmps37
 go_upto_region 2 with ((with_reducible refine gate_dst (N := 1) rfl ?_); (try (refine gate_guard (by rfl) ?_; dsimp only)); refine box_event rfl (N := 1) rfl (cs := #[(.slice A0_0 l0_0.length c0_0), (.slice A0_1 l0_1.length c0_1)]) (t := 53) gs_ ?_; intro gb hg w3 hbox hb; have BK_gb := Aside0.mk (hbox); have GE_gb := Aside0.mk ((by rw [hg]; exact bz_ : w.heap.size ≤ gb)); replace HB := Aside0.mk (below_step bl_ hb); clear hb hbox hg; have p_0 : w3.cell? ⟨gb, 0, none⟩ = some (.slice A0_0 l0_0.length c0_0) := bc_ BK_gb.out 0; have pf_0 := blk_frozen BK_gb.out 0; have p_1 : w3.cell? ⟨gb, 1, none⟩ = some (.slice A0_1 l0_1.length c0_1) := bc_ BK_gb.out 1; have pf_1 := blk_frozen BK_gb.out 1)
 (try simp only [Act.put, List.setIfInBounds_toArray, List.set_cons_zero, List.set_cons_succ])
 go_cut [32] (fun v32 wc => v32 = .bool (badN l0_0 l0_1) ∧ Aside0 (wc.heap[gb]? = some (.cells #[(.slice A0_0 l0_0.length c0_0), (.slice A0_1 l0_1.length c0_1)] 53 (0, 0))) ∧ Aside0 (Below w.heap.size w wc))
 case first =>
  as_aux_lemma =>
  cases h1 : inB (l0_0.length : Int) 2 5
  all_goals
   go_wp2_with (go_at_call 54; (with_reducible refine (sin_c _ _ _ _).mono ?_); rintro e w' ⟨rfl, ⟨nd, rfl⟩⟩)
   go_meet
   exact ⟨by first | rfl | (simp [badN, h1]; done), ⟨kb_ BK_gb.out⟩, ⟨bl_⟩⟩
 clear BK_gb HB p_0 pf_0 p_1 pf_1
 obtain ⟨rfl, BK_gb, HB⟩ := hcut
 cases hT : badN l0_0 l0_1
 rotate_left
 · have er : r = false := by rw [← HG.out]; simp [goodNetS, hT]
   subst er
   go_wp2
   go_ret
   exact ⟨rfl, bl_⟩
 have HN := Aside0.mk (badN_no hT)
 replace HG : Aside0 (((l0_0.drop 0).all okBk && allW l0_0 l0_1 (allP l0_0.length 0 l0_0.length)) = r) := ⟨by have q := HG.out; unfold goodNetS at q; rw [hT] at q; simpa using q⟩
 clear hT
 have p_0 : wc.cell? ⟨gb, 0, none⟩ = some (.slice A0_0 l0_0.length c0_0) := bc_ BK_gb.out 0
 have p_1 : wc.cell? ⟨gb, 1, none⟩ = some (.slice A0_1 l0_1.length c0_1) := bc_ BK_gb.out 1
 go_wp2
 go_loopg [36] l0_0.length (fun gg v36 w' => ∃ i : Nat, v36 = .int .i64 (i : Int) ∧ i ≤ l0_0.length ∧ l0_0.length - i ≤ gg ∧ Aside0 (((l0_0.drop i).all okBk && allW l0_0 l0_1 (allP l0_0.length 0 l0_0.length)) = r) ∧ Aside0 (w'.heap[gb]? = some (.cells #[(.slice A0_0 l0_0.length c0_0), (.slice A0_1 l0_1.length c0_1)] 53 (0, 0))) ∧ Aside0 (Below w.heap.size w w'))
 case atStart => exact ⟨0, rfl, Nat.zero_le _, by omega, HG, ⟨kb_ BK_gb.out⟩, ⟨bl_⟩⟩
 case round =>
  clear HG BK_gb HB p_0 p_1
  obtain ⟨i, rfl, hi, hgg, HG, BK_gb, HB⟩ := hrel
  by_cases hlt : i < l0_0.length
  · as_aux_lemma =>
    have hltz : (i : Int) < (l0_0.length : Int) := by omega
    have HO := Aside0.mk (rdT92 hlt)
    replace HG : Aside0 ((okBk (rd_T92 l0_0 (i : Int)) && ((l0_0.drop (i + 1)).all okBk && allW l0_0 l0_1 (allP l0_0.length 0 l0_0.length))) = r) := ⟨by have q := HG.out; rw [List.drop_eq_getElem_cons hlt, List.all_cons, ← HO.out, Bool.and_assoc] at q; exact q⟩
    clear HO
    obtain ⟨ad0, e1, hx0, hx1, hx2⟩ := at_T92 HR0_0.out (i : Int) (by omega) hltz
    cases e1
    replace hx0 := (HB.out.cell (World.block_lt_of_cell? w _ hx0)).trans hx0
    replace hx1 := (HB.out.cell (World.block_lt_of_cell? w _ hx1)).trans hx1
    replace hx2 := (HB.out.cell (World.block_lt_of_cell? w _ hx2)).trans hx2
    simp only [Int.toNat_natCast] at hx0 hx1 hx2
    generalize hq : rd_T92 l0_0 (i : Int) = x at HG hx0 hx1 hx2
    clear hq
    have p0 := eq_true (show (0 : Int) ≤ (i : Int) by omega)
    replace hltz := eq_true hltz
    go_upto_region 6 with (fail)
    (try simp only [Act.put, List.setIfInBounds_toArray, List.set_cons_zero, List.set_cons_succ])
    go_cut [5] (fun v5 wc => ∃ gc : Nat, v5 = .pointer (some ⟨gc, 0, none⟩) ∧ Aside0 (wc.heap[gb]? = some (.cells #[(.slice (some ad0) l0_0.length c0_0), (.slice A0_1 l0_1.length c0_1)] 53 (0, 0))) ∧ Aside0 (wc.heap[gc]? = some (.cells #[(.int .i64 x.f0), (.bool x.f1), (.int .i64 x.f2)] 92 (0, 0))) ∧ Aside0 (Below w.heap.size w wc))
    case first =>
     go_wp2_with ((with_reducible refine gate_dst (N := 5) rfl ?_); (try (refine gate_guard (by rfl) ?_; dsimp only)); refine box_event rfl (N := 5) rfl (cs := #[(.int .i64 0), (.bool false), (.int .i64 0)]) (t := 92) gs_ ?_; intro gc hg w22 hbox hb; have BK_gc := Aside0.mk (hbox); have GE_gc := Aside0.mk ((by rw [hg]; exact bz_ : w.heap.size ≤ gc)); replace HB := Aside0.mk (below_step bl_ hb); have NB_BK_gb_gc := nl_ hg BK_gb; have nb_BK_gb_gc := NB_BK_gb_gc.out; have nc_BK_gb_gc := nb_BK_gb_gc.symm; replace BK_gb := bb_ BK_gb hb; clear hb hbox hg; have q_0 : w22.cell? ⟨gc, 0, none⟩ = some (.int .i64 0) := bc_ BK_gc.out 0; have qf_0 := blk_frozen BK_gc.out 0; have q_1 : w22.cell? ⟨gc, 1, none⟩ = some (.bool false) := bc_ BK_gc.out 1; have qf_1 := blk_frozen BK_gc.out 1; have q_2 : w22.cell? ⟨gc, 2, none⟩ = some (.int .i64 0) := bc_ BK_gc.out 2; have qf_2 := blk_frozen BK_gc.out 2)
     go_meet
     exact ⟨gc, rfl, ⟨kz_⟩, ⟨by refine blk_put (cs := #[(.int .i64 x.f0), (.bool x.f1), (.int .i64 0)]) ?_ 2 _ rfl; refine blk_put (cs := #[(.int .i64 x.f0), (.bool false), (.int .i64 0)]) ?_ 1 _ rfl; refine blk_put (cs := #[(.int .i64 0), (.bool false), (.int .i64 0)]) ?_ 0 _ rfl; exact BK_gc.out⟩, ⟨bl_⟩⟩
    clear hx0 hx1 hx2 BK_gb HB
    obtain ⟨gc, rfl, BK_gb, BK_gc, HB⟩ := hcut
    have q_0 : wc.cell? ⟨gc, 0, none⟩ = some (.int .i64 x.f0) := bc_ BK_gc.out 0
    have q_1 : wc.cell? ⟨gc, 1, none⟩ = some (.bool x.f1) := bc_ BK_gc.out 1
    have q_2 : wc.cell? ⟨gc, 2, none⟩ = some (.int .i64 x.f2) := bc_ BK_gc.out 2
    go_upto_region 7 with (fail)
    (try simp only [Act.put, List.setIfInBounds_toArray, List.set_cons_zero, List.set_cons_succ])
    go_cut [59] (fun v59 wc => v59 = .bool (badB x) ∧ Aside0 (wc.heap[gb]? = some (.cells #[(.slice (some ad0) l0_0.length c0_0), (.slice A0_1 l0_1.length c0_1)] 53 (0, 0))) ∧ Aside0 (wc.heap[gc]? = some (.cells #[(.int .i64 x.f0), (.bool x.f1), (.int .i64 x.f2)] 92 (0, 0))) ∧ Aside0 (Below w.heap.size w wc))
    case first =>
     as_aux_lemma =>
     cases h1 : inB x.f0 0 1000000
     rotate_left
     cases h2 : inB x.f2 0 1000000
     rotate_left
     cases h3 : x.f1
     all_goals
      go_wp2_with (go_at_call 54; (with_reducible refine (sin_c _ _ _ _).mono ?_); rintro e w' ⟨rfl, ⟨nd, rfl⟩⟩)
      go_meet
      exact ⟨by first | rfl | (simp [badB, h1]; done) | (simp [badB, h1, h2]; done) | (simp [badB, h1, h2, h3]; done), ⟨kb_ BK_gb.out⟩, ⟨kb_ BK_gc.out⟩, ⟨bl_⟩⟩
    clear BK_gb BK_gc HB q_0 q_1 q_2
    obtain ⟨rfl, BK_gb, BK_gc, HB⟩ := hcut
    cases hA : badB x
    rotate_left
    · have er : r = false := by rw [← HG.out]; rw [badB_eq] at hA; simp at hA; simp [hA]
      subst er
      go_wp2
      go_ret
      exact ⟨rfl, bl_⟩
    replace HG : Aside0 (((l0_0.drop (i + 1)).all okBk && allW l0_0 l0_1 (allP l0_0.length 0 l0_0.length)) = r) := ⟨by have q := HG.out; rw [badB_eq] at hA; simp at hA; rw [hA] at q; simpa using q⟩
    clear hA
    go_wp2
    go_roundg (l0_0.length - (i + 1))
    case measure => omega
    case rel => exact ⟨i + 1, by rw [w64_succ hlt HL0.out], by omega, by omega, HG, ⟨kb_ BK_gb.out⟩, ⟨bl_⟩⟩
  have ei : i = l0_0.length := by omega
  subst ei
  clear hi hgg hlt
  replace HG : Aside0 ((allW l0_0 (l0_1.drop 0) (allP l0_0.length 0 (l0_0.length - 0))) = r) := ⟨by have q := HG.out; rw [List.drop_length] at q; simpa using q⟩
  have HI : Aside0 (0 + (allP l0_0.length 0 (l0_0.length - 0)).length = l0_1.length) := ⟨by have q := HN.out; rw [Nat.zero_add, Nat.sub_zero, allP_len q.1 q.2.1, q.2.2]⟩
  have p_0 : wr.cell? ⟨gb, 0, none⟩ = some (.slice A0_0 l0_0.length c0_0) := bc_ BK_gb.out 0
  have p_1 : wr.cell? ⟨gb, 1, none⟩ = some (.slice A0_1 l0_1.length c0_1) := bc_ BK_gb.out 1
  go_wp2
  go_loopg [6, 7] l0_0.length (fun gg v6 v7 w' => ∃ i a : Nat, v6 = .int .i64 (i : Int) ∧ v7 = .int .i64 (a : Int) ∧ a ≤ l0_0.length ∧ l0_0.length - a ≤ gg ∧ Aside0 (i + (allP l0_0.length a (l0_0.length - a)).length = l0_1.length) ∧ Aside0 ((allW l0_0 (l0_1.drop i) (allP l0_0.length a (l0_0.length - a))) = r) ∧ Aside0 (w'.heap[gb]? = some (.cells #[(.slice A0_0 l0_0.length c0_0), (.slice A0_1 l0_1.length c0_1)] 53 (0, 0))) ∧ Aside0 (Below w.heap.size w w'))
  case atStart => exact ⟨0, 0, rfl, rfl, Nat.zero_le _, by omega, HI, HG, ⟨kb_ BK_gb.out⟩, ⟨bl_⟩⟩
  case round =>
   clear HG HI BK_gb HB p_0 p_1
   obtain ⟨i, a, rfl, rfl, ha, hgg2, HI, HG, BK_gb, HB⟩ := hrel
   by_cases hal : a < l0_0.length
   rotate_left
   · have er : r = true := by rw [← HG.out, show l0_0.length - a = 0 by omega]; unfold allP allW; cases l0_1.drop i <;> rfl
     subst er
     go_wp2
     go_ret
     exact ⟨rfl, bl_⟩
   replace HG : Aside0 ((allW l0_0 (l0_1.drop i) (leftP l0_0.length a 0)) = r) := ⟨by rw [← allP_next hal]; exact HG.out⟩
   replace HI : Aside0 (i + (leftP l0_0.length a 0).length = l0_1.length) := ⟨by rw [← allP_next hal]; exact HI.out⟩
   have p_0 : wr.cell? ⟨gb, 0, none⟩ = some (.slice A0_0 l0_0.length c0_0) := bc_ BK_gb.out 0
   have p_1 : wr.cell? ⟨gb, 1, none⟩ = some (.slice A0_1 l0_1.length c0_1) := bc_ BK_gb.out 1
   go_wp2
   go_loopg [6, 8] l0_0.length (fun gg v6 v8 w' => ∃ i b : Nat, v6 = .int .i64 (i : Int) ∧ v8 = .int .i64 (b : Int) ∧ b ≤ l0_0.length ∧ l0_0.length - b ≤ gg ∧ Aside0 (i + (leftP l0_0.length a b).length = l0_1.length) ∧ Aside0 ((allW l0_0 (l0_1.drop i) (leftP l0_0.length a b)) = r) ∧ Aside0 (w'.heap[gb]? = some (.cells #[(.slice A0_0 l0_0.length c0_0), (.slice A0_1 l0_1.length c0_1)] 53 (0, 0))) ∧ Aside0 (Below w.heap.size w w'))
   case atStart => exact ⟨i, 0, rfl, rfl, Nat.zero_le _, by omega, HI, HG, ⟨kb_ BK_gb.out⟩, ⟨bl_⟩⟩
   case round =>
    clear HG HI BK_gb HB p_0 p_1
    obtain ⟨i, b, rfl, rfl, hb, hgg3, HI, HG, BK_gb, HB⟩ := hrel
    by_cases hbl : b < l0_0.length
    rotate_left
    · have eb : b = l0_0.length := by omega
      subst eb
      go_wp2
      go_roundg (l0_0.length - (a + 1))
      case measure => omega
      case rel => exact ⟨i, a + 1, rfl, by rw [w64_succ hal HL0.out], by omega, by omega, ⟨by rw [← leftP_end]; exact HI.out⟩, ⟨by rw [← leftP_end]; exact HG.out⟩, ⟨kb_ BK_gb.out⟩, ⟨bl_⟩⟩
    have p_0 : wr.cell? ⟨gb, 0, none⟩ = some (.slice A0_0 l0_0.length c0_0) := bc_ BK_gb.out 0
    have p_1 : wr.cell? ⟨gb, 1, none⟩ = some (.slice A0_1 l0_1.length c0_1) := bc_ BK_gb.out 1
    by_cases hab : a = b
    · subst hab
      go_wp2
      go_roundg (l0_0.length - (a + 1))
      case measure => omega
      case rel => exact ⟨i, a + 1, rfl, by rw [w64_succ hbl HL0.out], by omega, by omega, ⟨by rw [← leftP_skip hbl]; exact HI.out⟩, ⟨by rw [← leftP_skip hbl]; exact HG.out⟩, ⟨kb_ BK_gb.out⟩, ⟨bl_⟩⟩
    have habz : ¬ (a : Int) = (b : Int) := by omega
    have ab1 : ((a : Int) == (b : Int)) = false := beq_eq_false_iff_ne.mpr habz
    have ab2 : ((a : Int) != (b : Int)) = true := bne_iff_ne.mpr habz
    have ab3 : (a == b) = false := beq_eq_false_iff_ne.mpr hab
    replace HI : Aside0 (i + ((leftP l0_0.length a (b + 1)).length + 1) = l0_1.length) := ⟨by have q := HI.out; rw [leftP_take hbl hab, List.length_cons] at q; exact q⟩
    have hil : i < l0_1.length := by have q := HI.out; omega
    have hilz : (i : Int) < (l0_1.length : Int) := by omega
    replace HG := Aside0.mk ((by rw [leftP_take hbl hab, wayP hil] : allW l0_0 (l0_1.drop i) (leftP l0_0.length a b) = _).symm.trans HG.out)
    obtain ⟨ad1, A2, c2, A4, c4, e1, hx0, hx1, hx2, hx3, hx4, hl2, hi2, hl4, hi4⟩ := at_T95 HR0_1.out (i : Int) (by omega) hilz
    cases e1
    replace hx0 := (HB.out.cell (World.block_lt_of_cell? w _ hx0)).trans hx0
    replace hx1 := (HB.out.cell (World.block_lt_of_cell? w _ hx1)).trans hx1
    replace hx2 := (HB.out.cell (World.block_lt_of_cell? w _ hx2)).trans hx2
    replace hx3 := (HB.out.cell (World.block_lt_of_cell? w _ hx3)).trans hx3
    replace hx4 := (HB.out.cell (World.block_lt_of_cell? w _ hx4)).trans hx4
    simp only [Int.toNat_natCast] at hx0 hx1 hx2 hx3 hx4
    generalize hq : rd_T95 l0_1 (i : Int) = x at HG hx0 hx1 hx2 hx3 hx4 hl2 hi2 hl4 hi4
    clear hq
    have HR2 := Aside0.mk hi2
    have HC2 := Aside0.mk hl2
    have HR4 := Aside0.mk hi4
    have HC4 := Aside0.mk hl4
    clear hi2 hl2 hi4 hl4
    have HM2 : Aside0 (x.f2.length ≤ 9223372036854775807) := ⟨HR2.out.2.1⟩
    have HM4 : Aside0 (x.f4.length ≤ 9223372036854775807) := ⟨HR4.out.2.1⟩
    obtain ⟨fm, hfm⟩ : ∃ q : Bool, q = (rd_T92 l0_0 (a : Int)).f1 := ⟨_, rfl⟩
    obtain ⟨tm, htm⟩ : ∃ q : Bool, q = (rd_T92 l0_0 (b : Int)).f1 := ⟨_, rfl⟩
    rw [← hfm, ← htm] at HG
    have HFM := Aside0.mk hfm
    have HTM := Aside0.mk htm
    clear hfm htm
    replace HG : Aside0 (((x.f2.drop 0).all okPc && ((x.f4.drop 0).all okAm && ((decide (x.f0 = (a : Int)) && decide (x.f1 = (b : Int)) && wayEnd fm tm (0 + mkN (x.f2.drop 0)) x.f2.length x.f4.length x.f3) && allW l0_0 (l0_1.drop (i + 1)) (leftP l0_0.length a (b + 1))))) = r) := ⟨by rw [← HG.out]; unfold okWay; simp only [List.drop_zero, Nat.zero_add]; cases x.f2.all okPc <;> cases x.f4.all okAm <;> simp⟩
    have p0 := eq_true (show (0 : Int) ≤ (i : Int) by omega)
    have hilz2 := eq_true hilz
    go_upto_region 18 with (fail)
    (try simp only [Act.put, List.setIfInBounds_toArray, List.set_cons_zero, List.set_cons_succ])
    go_cut [9] (fun v9 wc => ∃ gw : Nat, v9 = .pointer (some ⟨gw, 0, none⟩) ∧ Aside0 (gb ≠ gw) ∧ Aside0 (wc.heap[gb]? = some (.cells #[(.slice A0_0 l0_0.length c0_0), (.slice (some ad1) l0_1.length c0_1)] 53 (0, 0))) ∧ Aside0 (wc.heap[gw]? = some (.cells #[(.int .i64 x.f0), (.int .i64 x.f1), (.slice A2 x.f2.length c2), (.bool x.f3), (.slice A4 x.f4.length c4)] 95 (0, 0))) ∧ Aside0 (Below w.heap.size w wc))
    case first =>
     as_aux_lemma =>
     go_wp2_with ((with_reducible refine gate_dst (N := 9) rfl ?_); (try (refine gate_guard (by rfl) ?_; dsimp only)); refine box_event rfl (N := 9) rfl (cs := #[(.int .i64 0), (.int .i64 0), (.slice none 0 0), (.bool false), (.slice none 0 0)]) (t := 95) gs_ ?_; intro gw hg w22 hbox hb; have BK_gw := Aside0.mk (hbox); have GE_gw := Aside0.mk ((by rw [hg]; exact bz_ : w.heap.size ≤ gw)); replace HB := Aside0.mk (below_step bl_ hb); have NB_BK_gb_gw := nl_ hg BK_gb; have nb_BK_gb_gw := NB_BK_gb_gw.out; have nc_BK_gb_gw := nb_BK_gb_gw.symm; replace BK_gb := bb_ BK_gb hb; clear hb hbox hg; have q_0 : w22.cell? ⟨gw, 0, none⟩ = some (.int .i64 0) := bc_ BK_gw.out 0; have qf_0 := blk_frozen BK_gw.out 0; have q_1 : w22.cell? ⟨gw, 1, none⟩ = some (.int .i64 0) := bc_ BK_gw.out 1; have qf_1 := blk_frozen BK_gw.out 1; have q_2 : w22.cell? ⟨gw, 2, none⟩ = some (.slice none 0 0) := bc_ BK_gw.out 2; have qf_2 := blk_frozen BK_gw.out 2; have q_3 : w22.cell? ⟨gw, 3, none⟩ = some (.bool false) := bc_ BK_gw.out 3; have qf_3 := blk_frozen BK_gw.out 3; have q_4 : w22.cell? ⟨gw, 4, none⟩ = some (.slice none 0 0) := bc_ BK_gw.out 4; have qf_4 := blk_frozen BK_gw.out 4)
     go_meet
     exact ⟨gw, rfl, NB_BK_gb_gw, ⟨kz_⟩, ⟨by refine blk_put (cs := #[(.int .i64 x.f0), (.int .i64 x.f1), (.slice A2 x.f2.length c2), (.bool x.f3), (.slice none 0 0)]) ?_ 4 _ rfl; refine blk_put (cs := #[(.int .i64 x.f0), (.int .i64 x.f1), (.slice A2 x.f2.length c2), (.bool false), (.slice none 0 0)]) ?_ 3 _ rfl; refine blk_put (cs := #[(.int .i64 x.f0), (.int .i64 x.f1), (.slice none 0 0), (.bool false), (.slice none 0 0)]) ?_ 2 _ rfl; refine blk_put (cs := #[(.int .i64 x.f0), (.int .i64 0), (.slice none 0 0), (.bool false), (.slice none 0 0)]) ?_ 1 _ rfl; refine blk_put (cs := #[(.int .i64 0), (.int .i64 0), (.slice none 0 0), (.bool false), (.slice none 0 0)]) ?_ 0 _ rfl; exact BK_gw.out⟩, ⟨bl_⟩⟩
    clear hx0 hx1 hx2 hx3 hx4 BK_gb HB p_0 p_1
    obtain ⟨gw, rfl, NB, BK_gb, BK_gw, HB⟩ := hcut
    have nb := NB.out
    have nc := nb.symm
    have q_0 : wc.cell? ⟨gw, 0, none⟩ = some (.int .i64 x.f0) := bc_ BK_gw.out 0
    have q_1 : wc.cell? ⟨gw, 1, none⟩ = some (.int .i64 x.f1) := bc_ BK_gw.out 1
    have q_2 : wc.cell? ⟨gw, 2, none⟩ = some (.slice A2 x.f2.length c2) := bc_ BK_gw.out 2
    have q_3 : wc.cell? ⟨gw, 3, none⟩ = some (.bool x.f3) := bc_ BK_gw.out 3
    have q_4 : wc.cell? ⟨gw, 4, none⟩ = some (.slice A4 x.f4.length c4) := bc_ BK_gw.out 4
    have wi : wrap64 ((i : Int) + 1) = ((i + 1 : Nat) : Int) := w64_succ hil HL1.out
    have WI := Aside0.mk wi
    clear wi
    go_wp2
    go_loopg [10, 84] x.f2.length (fun gg v10 v84 w' => ∃ c j : Nat, v10 = .int .i64 (c : Int) ∧ v84 = .int .i64 (j : Int) ∧ c ≤ j ∧ j ≤ x.f2.length ∧ x.f2.length - j ≤ gg ∧ Aside0 (((x.f2.drop j).all okPc && ((x.f4.drop 0).all okAm && ((decide (x.f0 = (a : Int)) && decide (x.f1 = (b : Int)) && wayEnd fm tm (c + mkN (x.f2.drop j)) x.f2.length x.f4.length x.f3) && allW l0_0 (l0_1.drop (i + 1)) (leftP l0_0.length a (b + 1))))) = r) ∧ Aside0 (w'.heap[gb]? = some (.cells #[(.slice A0_0 l0_0.length c0_0), (.slice (some ad1) l0_1.length c0_1)] 53 (0, 0))) ∧ Aside0 (w'.heap[gw]? = some (.cells #[(.int .i64 x.f0), (.int .i64 x.f1), (.slice A2 x.f2.length c2), (.bool x.f3), (.slice A4 x.f4.length c4)] 95 (0, 0))) ∧ Aside0 (Below w.heap.size w w'))
    case atStart => exact ⟨0, 0, rfl, rfl, Nat.le_refl _, Nat.zero_le _, by omega, HG, ⟨kb_ BK_gb.out⟩, ⟨kb_ BK_gw.out⟩, ⟨bl_⟩⟩
    case round =>
     clear HG BK_gb BK_gw HB q_0 q_1 q_2 q_3 q_4
     obtain ⟨c, j, rfl, rfl, hcj, hj, hgg4, HG, BK_gb, BK_gw, HB⟩ := hrel
     by_cases hjl : j < x.f2.length
     · as_aux_lemma =>
       have hjz : (j : Int) < (x.f2.length : Int) := by omega
       have HO := Aside0.mk (rdT103 hjl)
       replace HG : Aside0 ((okPc (rd_T103 x.f2 (j : Int)) && ((x.f2.drop (j + 1)).all okPc && ((x.f4.drop 0).all okAm && ((decide (x.f0 = (a : Int)) && decide (x.f1 = (b : Int)) && wayEnd fm tm (c + ((if (rd_T103 x.f2 (j : Int)).f0 = true then 1 else 0) + mkN (x.f2.drop (j + 1)))) x.f2.length x.f4.length x.f3) && allW l0_0 (l0_1.drop (i + 1)) (leftP l0_0.length a (b + 1)))))) = r) := ⟨by have q := HG.out; rw [mkN_step x.f2 hjl, all_take_succ x.f2 okPc hjl, ← HO.out, Bool.and_assoc] at q; exact q⟩
       clear HO
       obtain ⟨ad2, e2, hx0, hx1⟩ := at_T103 HR2.out (j : Int) (by omega) hjz
       cases e2
       replace hx0 := (HB.out.cell (World.block_lt_of_cell? w _ hx0)).trans hx0
       replace hx1 := (HB.out.cell (World.block_lt_of_cell? w _ hx1)).trans hx1
       simp only [Int.toNat_natCast] at hx0 hx1
       generalize hq : rd_T103 x.f2 (j : Int) = p at HG hx0 hx1
       clear hq
       have p1 := eq_true (show (0 : Int) ≤ (j : Int) by omega)
       have hjz2 := eq_true hjz
       go_upto_region 23 with (fail)
       (try simp only [Act.put, List.setIfInBounds_toArray, List.set_cons_zero, List.set_cons_succ])
       go_cut [12] (fun v12 wc => ∃ gp : Nat, v12 = .pointer (some ⟨gp, 0, none⟩) ∧ Aside0 (wc.heap[gb]? = some (.cells #[(.slice A0_0 l0_0.length c0_0), (.slice (some ad1) l0_1.length c0_1)] 53 (0, 0))) ∧ Aside0 (wc.heap[gw]? = some (.cells #[(.int .i64 x.f0), (.int .i64 x.f1), (.slice (some ad2) x.f2.length c2), (.bool x.f3), (.slice A4 x.f4.length c4)] 95 (0, 0))) ∧ Aside0 (wc.heap[gp]? = some (.cells #[(.bool p.f0), (.int .i64 p.f1)] 103 (0, 0))) ∧ Aside0 (Below w.heap.size w wc))
       case first =>
        go_wp2_with ((with_reducible refine gate_dst (N := 12) rfl ?_); (try (refine gate_guard (by rfl) ?_; dsimp only)); refine box_event rfl (N := 12) rfl (cs := #[(.bool false), (.int .i64 0)]) (t := 103) gs_ ?_; intro gp hg w22 hbox hb; have BK_gp := Aside0.mk (hbox); have GE_gp := Aside0.mk ((by rw [hg]; exact bz_ : w.heap.size ≤ gp)); replace HB := Aside0.mk (below_step bl_ hb); have NB_BK_gb_gp := nl_ hg BK_gb; have nb_BK_gb_gp := NB_BK_gb_gp.out; have nc_BK_gb_gp := nb_BK_gb_gp.symm; replace BK_gb := bb_ BK_gb hb; have NB_BK_gw_gp := nl_ hg BK_gw; have nb_BK_gw_gp := NB_BK_gw_gp.out; have nc_BK_gw_gp := nb_BK_gw_gp.symm; replace BK_gw := bb_ BK_gw hb; clear hb hbox hg; have y_0 : w22.cell? ⟨gp, 0, none⟩ = some (.bool false) := bc_ BK_gp.out 0; have yf_0 := blk_frozen BK_gp.out 0; have y_1 : w22.cell? ⟨gp, 1, none⟩ = some (.int .i64 0) := bc_ BK_gp.out 1; have yf_1 := blk_frozen BK_gp.out 1)
        go_meet
        exact ⟨gp, rfl, ⟨kz_⟩, ⟨kz_⟩, ⟨by refine blk_put (cs := #[(.bool p.f0), (.int .i64 0)]) ?_ 1 _ rfl; refine blk_put (cs := #[(.bool false), (.int .i64 0)]) ?_ 0 _ rfl; exact BK_gp.out⟩, ⟨bl_⟩⟩
       clear hx0 hx1 BK_gb BK_gw HB
       obtain ⟨gp, rfl, BK_gb, BK_gw, BK_gp, HB⟩ := hcut
       have y_0 : wc.cell? ⟨gp, 0, none⟩ = some (.bool p.f0) := bc_ BK_gp.out 0
       have y_1 : wc.cell? ⟨gp, 1, none⟩ = some (.int .i64 p.f1) := bc_ BK_gp.out 1
       go_upto_region 24 with (fail)
       (try simp only [Act.put, List.setIfInBounds_toArray, List.set_cons_zero, List.set_cons_succ])
       go_cut [105] (fun v105 wc => v105 = .bool (!okPc p) ∧ Aside0 (wc.heap[gb]? = some (.cells #[(.slice A0_0 l0_0.length c0_0), (.slice (some ad1) l0_1.length c0_1)] 53 (0, 0))) ∧ Aside0 (wc.heap[gw]? = some (.cells #[(.int .i64 x.f0), (.int .i64 x.f1), (.slice (some ad2) x.f2.length c2), (.bool x.f3), (.slice A4 x.f4.length c4)] 95 (0, 0))) ∧ Aside0 (wc.heap[gp]? = some (.cells #[(.bool p.f0), (.int .i64 p.f1)] 103 (0, 0))) ∧ Aside0 (Below w.heap.size w wc))
       case first =>
        as_aux_lemma =>
        cases h1 : p.f0
        · go_wp2_with (go_at_call 73; (with_reducible refine (amt_c _ _).mono ?_); rintro e w' ⟨rfl, ⟨nd, rfl⟩⟩)
          go_meet
          exact ⟨by simp [okPc, okAm, h1], ⟨kb_ BK_gb.out⟩, ⟨kb_ BK_gw.out⟩, ⟨kb_ BK_gp.out⟩, ⟨bl_⟩⟩
        by_cases h2 : p.f1 = 0
        all_goals
         have h2a : (p.f1 == 0) = decide (p.f1 = 0) := by rw [Bool.eq_iff_iff]; simp
         have h2b : (p.f1 != 0) = !decide (p.f1 = 0) := by simp [bne, h2a]
         simp only [h2, decide_true, decide_false, Bool.not_true, Bool.not_false] at h2a h2b
         go_wp2
         go_meet
         exact ⟨by simp [okPc, h1, h2], ⟨kb_ BK_gb.out⟩, ⟨kb_ BK_gw.out⟩, ⟨kb_ BK_gp.out⟩, ⟨bl_⟩⟩
       clear BK_gb BK_gw BK_gp HB y_0 y_1
       obtain ⟨rfl, BK_gb, BK_gw, BK_gp, HB⟩ := hcut
       cases hA : okPc p
       · have er : r = false := by rw [← HG.out, hA]; rfl
         subst er
         go_wp2
         go_ret
         exact ⟨rfl, bl_⟩
       replace HG : Aside0 (((x.f2.drop (j + 1)).all okPc && ((x.f4.drop 0).all okAm && ((decide (x.f0 = (a : Int)) && decide (x.f1 = (b : Int)) && wayEnd fm tm (c + ((if p.f0 = true then 1 else 0) + mkN (x.f2.drop (j + 1)))) x.f2.length x.f4.length x.f3) && allW l0_0 (l0_1.drop (i + 1)) (leftP l0_0.length a (b + 1))))) = r) := ⟨by have q := HG.out; rw [hA] at q; simpa using q⟩
       clear hA
       have y_0 : wc.cell? ⟨gp, 0, none⟩ = some (.bool p.f0) := bc_ BK_gp.out 0
       have y_1 : wc.cell? ⟨gp, 1, none⟩ = some (.int .i64 p.f1) := bc_ BK_gp.out 1
       cases h1 : p.f0
       · rw [h1, if_neg (by simp), Nat.zero_add] at HG
         go_wp2
         go_roundg (x.f2.length - (j + 1))
         case measure => omega
         case rel => exact ⟨c, j + 1, rfl, by rw [w64_succ hjl HM2.out], by omega, by omega, by omega, HG, ⟨kb_ BK_gb.out⟩, ⟨kb_ BK_gw.out⟩, ⟨bl_⟩⟩
       · rw [h1, if_pos rfl, ← Nat.add_assoc] at HG
         go_wp2
         go_roundg (x.f2.length - (j + 1))
         case measure => omega
         case rel => exact ⟨c + 1, j + 1, by rw [w64_succ (n := x.f2.length) (by omega) HM2.out], by rw [w64_succ hjl HM2.out], by omega, by omega, by omega, HG, ⟨kb_ BK_gb.out⟩, ⟨kb_ BK_gw.out⟩, ⟨bl_⟩⟩
     have ej : j = x.f2.length := by omega
     subst ej
     replace HG : Aside0 (((x.f4.drop 0).all okAm && ((decide (x.f0 = (a : Int)) && decide (x.f1 = (b : Int)) && wayEnd fm tm c x.f2.length x.f4.length x.f3) && allW l0_0 (l0_1.drop (i + 1)) (leftP l0_0.length a (b + 1)))) = r) := ⟨by have q := HG.out; rw [List.drop_length] at q; simpa [mkN] using q⟩
     clear hj hgg4 hjl
     have q_0 : wr.cell? ⟨gw, 0, none⟩ = some (.int .i64 x.f0) := bc_ BK_gw.out 0
     have q_1 : wr.cell? ⟨gw, 1, none⟩ = some (.int .i64 x.f1) := bc_ BK_gw.out 1
     have q_2 : wr.cell? ⟨gw, 2, none⟩ = some (.slice A2 x.f2.length c2) := bc_ BK_gw.out 2
     have q_3 : wr.cell? ⟨gw, 3, none⟩ = some (.bool x.f3) := bc_ BK_gw.out 3
     have q_4 : wr.cell? ⟨gw, 4, none⟩ = some (.slice A4 x.f4.length c4) := bc_ BK_gw.out 4
     go_wp2
     go_loopg [114] x.f4.length (fun gg v114 w' => ∃ j : Nat, v114 = .int .i64 (j : Int) ∧ j ≤ x.f4.length ∧ x.f4.length - j ≤ gg ∧ Aside0 (((x.f4.drop j).all okAm && ((decide (x.f0 = (a : Int)) && decide (x.f1 = (b : Int)) && wayEnd fm tm c x.f2.length x.f4.length x.f3) && allW l0_0 (l0_1.drop (i + 1)) (leftP l0_0.length a (b + 1)))) = r) ∧ Aside0 (w'.heap[gb]? = some (.cells #[(.slice A0_0 l0_0.length c0_0), (.slice (some ad1) l0_1.length c0_1)] 53 (0, 0))) ∧ Aside0 (w'.heap[gw]? = some (.cells #[(.int .i64 x.f0), (.int .i64 x.f1), (.slice A2 x.f2.length c2), (.bool x.f3), (.slice A4 x.f4.length c4)] 95 (0, 0))) ∧ Aside0 (Below w.heap.size w w'))
     case atStart => exact ⟨0, rfl, Nat.zero_le _, by omega, HG, ⟨kb_ BK_gb.out⟩, ⟨kb_ BK_gw.out⟩, ⟨bl_⟩⟩
     case round =>
      clear HG BK_gb BK_gw HB q_0 q_1 q_2 q_3 q_4
      obtain ⟨j, rfl, hj, hgg5, HG, BK_gb, BK_gw, HB⟩ := hrel
      by_cases hjl : j < x.f4.length
      · as_aux_lemma =>
        have hjz : (j : Int) < (x.f4.length : Int) := by omega
        replace HG : Aside0 ((okAm (rd x.f4 (j : Int)) && ((x.f4.drop (j + 1)).all okAm && ((decide (x.f0 = (a : Int)) && decide (x.f1 = (b : Int)) && wayEnd fm tm c x.f2.length x.f4.length x.f3) && allW l0_0 (l0_1.drop (i + 1)) (leftP l0_0.length a (b + 1))))) = r) := ⟨by have q := HG.out; rw [all_take_succ x.f4 okAm hjl, ← rd_get hjl, Bool.and_assoc] at q; exact q⟩
        obtain ⟨ad3, e3, hx0⟩ := Kd.at_int HR4.out (j : Int) (by omega) hjz
        cases e3
        replace hx0 := (HB.out.cell (World.block_lt_of_cell? w _ hx0)).trans hx0
        simp only [Int.toNat_natCast] at hx0
        generalize hq : rd x.f4 (j : Int) = y at HG hx0
        clear hq
        have p1 := eq_true (show (0 : Int) ≤ (j : Int) by omega)
        have hjz2 := eq_true hjz
        cases hA : okAm y
        · have er : r = false := by rw [← HG.out, hA]; rfl
          subst er
          go_wp2_with (go_at_call 73; (with_reducible refine (amt_c _ _).mono ?_); rintro e w' ⟨rfl, ⟨nd, rfl⟩⟩)
          go_ret
          exact ⟨rfl, bl_⟩
        replace HG : Aside0 (((x.f4.drop (j + 1)).all okAm && ((decide (x.f0 = (a : Int)) && decide (x.f1 = (b : Int)) && wayEnd fm tm c x.f2.length x.f4.length x.f3) && allW l0_0 (l0_1.drop (i + 1)) (leftP l0_0.length a (b + 1)))) = r) := ⟨by have q := HG.out; rw [hA] at q; simpa using q⟩
        go_wp2_with (go_at_call 73; (with_reducible refine (amt_c _ _).mono ?_); rintro e w' ⟨rfl, ⟨nd, rfl⟩⟩)
        go_roundg (x.f4.length - (j + 1))
        case measure => omega
        case rel => exact ⟨j + 1, by rw [w64_succ hjl HM4.out], by omega, by omega, HG, ⟨kb_ BK_gb.out⟩, ⟨kb_ BK_gw.out⟩, ⟨bl_⟩⟩
      have ej : j = x.f4.length := by omega
      subst ej
      replace HG : Aside0 (((decide (x.f0 = (a : Int)) && decide (x.f1 = (b : Int)) && wayEnd fm tm c x.f2.length x.f4.length x.f3) && allW l0_0 (l0_1.drop (i + 1)) (leftP l0_0.length a (b + 1))) = r) := ⟨by have q := HG.out; rw [List.drop_length] at q; simpa using q⟩
      clear hj hgg5 hjl
      obtain ⟨ad0, e0, ha0, ha1, ha2⟩ := at_T92 HR0_0.out (a : Int) (by omega) (by omega)
      cases e0
      obtain ⟨ad9, e9, hb0, hb1, hb2⟩ := at_T92 HR0_0.out (b : Int) (by omega) (by omega)
      cases e9
      rw [← HFM.out] at ha1
      rw [← HTM.out] at hb1
      replace ha1 := (HB.out.cell (World.block_lt_of_cell? w _ ha1)).trans ha1
      replace hb1 := (HB.out.cell (World.block_lt_of_cell? w _ hb1)).trans hb1
      simp only [Int.toNat_natCast] at ha1 hb1
      clear ha0 ha2 hb0 hb2
      have p_0 : wr.cell? ⟨gb, 0, none⟩ = some (.slice (some ad0) l0_0.length c0_0) := bc_ BK_gb.out 0
      have p_1 : wr.cell? ⟨gb, 1, none⟩ = some (.slice (some ad1) l0_1.length c0_1) := bc_ BK_gb.out 1
      have q_0 : wr.cell? ⟨gw, 0, none⟩ = some (.int .i64 x.f0) := bc_ BK_gw.out 0
      have q_1 : wr.cell? ⟨gw, 1, none⟩ = some (.int .i64 x.f1) := bc_ BK_gw.out 1
      have q_2 : wr.cell? ⟨gw, 2, none⟩ = some (.slice A2 x.f2.length c2) := bc_ BK_gw.out 2
      have q_3 : wr.cell? ⟨gw, 3, none⟩ = some (.bool x.f3) := bc_ BK_gw.out 3
      have q_4 : wr.cell? ⟨gw, 4, none⟩ = some (.slice A4 x.f4.length c4) := bc_ BK_gw.out 4
      have pa := eq_true (show (0 : Int) ≤ (a : Int) by omega)
      have pb := eq_true (show (0 : Int) ≤ (b : Int) by omega)
      have qa := eq_true (show (a : Int) < (l0_0.length : Int) by omega)
      have qb := eq_true (show (b : Int) < (l0_0.length : Int) by omega)
      go_upto_region 36 with (fail)
      (try simp only [Act.put, List.setIfInBounds_toArray, List.set_cons_zero, List.set_cons_succ])
      go_cut [16] (fun v16 wc => v16 = .bool (watchB fm tm c) ∧ Aside0 (wr = wc))
      case first =>
       as_aux_lemma =>
       cases tm
       · go_wp2
         go_meet
         exact ⟨by simp [watchB], ⟨rfl⟩⟩
       cases fm
       all_goals
        go_wp2
        go_meet
        exact ⟨by simp [watchB], ⟨rfl⟩⟩
      obtain ⟨rfl, hw⟩ := hcut
      replace hw := hw.out
      subst hw
      obtain ⟨wt, hwt⟩ : ∃ q : Bool, watchB fm tm c = q := ⟨_, rfl⟩
      rw [hwt]
      have HWT := Aside0.mk hwt
      clear hwt
      go_upto_region 37 with (fail)
      (try simp only [Act.put, List.setIfInBounds_toArray, List.set_cons_zero, List.set_cons_succ])
      go_cut [208] (fun v208 wc => v208 = .bool (badG fm tm c a b x wt) ∧ Aside0 (wr = wc))
      case first =>
       as_aux_lemma =>
       simp only [List.append_eq, List.cons_append, List.nil_append]
       cases h1 : (x.f0 != (a : Int))
       rotate_left
       · have h1a : (x.f0 == (a : Int)) = false := by rw [Bool.eq_iff_iff]; simp [bne] at h1 ⊢; exact h1
         go_wp2
         go_meet
         exact ⟨by first | rfl | (simp [badG, h1]; done), ⟨rfl⟩⟩
       have h1a : (x.f0 == (a : Int)) = true := by rw [Bool.eq_iff_iff]; simp [bne] at h1 ⊢; exact h1
       cases h2 : (x.f1 != (b : Int))
       rotate_left
       · have h2a : (x.f1 == (b : Int)) = false := by rw [Bool.eq_iff_iff]; simp [bne] at h2 ⊢; exact h2
         go_wp2
         go_meet
         exact ⟨by first | rfl | (simp [badG, h1]; done) | (simp [badG, h1, h1a]; done) | (simp [badG, h1, h1a, h2]; done), ⟨rfl⟩⟩
       have h2a : (x.f1 == (b : Int)) = true := by rw [Bool.eq_iff_iff]; simp [bne] at h2 ⊢; exact h2
       cases h3 : decide (20 < (x.f2.length : Int))
       rotate_left
       · have h3a : decide (20 < x.f2.length) = true := by rw [← h3]; exact decide_eq_decide.2 (by omega)
         go_wp2
         go_meet
         exact ⟨by first | rfl | (simp [badG, h1]; done) | (simp [badG, h1, h1a]; done) | (simp [badG, h1, h1a, h2]; done) | (simp [badG, h1, h1a, h2, h2a]; done) | (simp [badG, h1, h1a, h2, h2a, h3]; done), ⟨rfl⟩⟩
       have h3a : decide (20 < x.f2.length) = false := by rw [← h3]; exact decide_eq_decide.2 (by omega)
       cases h4 : decide (200 < (x.f4.length : Int))
       rotate_left
       · have h4a : decide (200 < x.f4.length) = true := by rw [← h4]; exact decide_eq_decide.2 (by omega)
         go_wp2
         go_meet
         exact ⟨by first | rfl | (simp [badG, h1]; done) | (simp [badG, h1, h1a]; done) | (simp [badG, h1, h1a, h2]; done) | (simp [badG, h1, h1a, h2, h2a]; done) | (simp [badG, h1, h1a, h2, h2a, h3]; done) | (simp [badG, h1, h1a, h2, h2a, h3, h3a]; done) | (simp [badG, h1, h1a, h2, h2a, h3, h3a, h4]; done), ⟨rfl⟩⟩
       have h4a : decide (200 < x.f4.length) = false := by rw [← h4]; exact decide_eq_decide.2 (by omega)
       cases h5 : decide (1 < (c : Int))
       rotate_left
       · have h5a : decide (1 < c) = true := by rw [← h5]; exact decide_eq_decide.2 (by omega)
         go_wp2
         go_meet
         exact ⟨by first | rfl | (simp [badG, h1]; done) | (simp [badG, h1, h1a]; done) | (simp [badG, h1, h1a, h2]; done) | (simp [badG, h1, h1a, h2, h2a]; done) | (simp [badG, h1, h1a, h2, h2a, h3]; done) | (simp [badG, h1, h1a, h2, h2a, h3, h3a]; done) | (simp [badG, h1, h1a, h2, h2a, h3, h3a, h4]; done) | (simp [badG, h1, h1a, h2, h2a, h3, h3a, h4, h4a]; done) | (simp [badG, h1, h1a, h2, h2a, h3, h3a, h4, h4a, h5]; done), ⟨rfl⟩⟩
       have h5a : decide (1 < c) = false := by rw [← h5]; exact decide_eq_decide.2 (by omega)
       cases h6 : decide (0 < (c : Int))
       · have h6a : decide (0 < c) = false := by rw [← h6]; exact decide_eq_decide.2 (by omega)
         have h6b : ((c : Int) == 0) = true := by rw [Bool.eq_iff_iff]; simp at h6 ⊢; omega
         cases h7 : (x.f3 != wt)
         rotate_left
         · have h7a : (x.f3 == wt) = false := by simpa [bne] using h7
           go_wp2
           go_meet
           exact ⟨by first | rfl | (simp [badG, h1]; done) | (simp [badG, h1, h1a]; done) | (simp [badG, h1, h1a, h2]; done) | (simp [badG, h1, h1a, h2, h2a]; done) | (simp [badG, h1, h1a, h2, h2a, h3]; done) | (simp [badG, h1, h1a, h2, h2a, h3, h3a]; done) | (simp [badG, h1, h1a, h2, h2a, h3, h3a, h4]; done) | (simp [badG, h1, h1a, h2, h2a, h3, h3a, h4, h4a]; done) | (simp [badG, h1, h1a, h2, h2a, h3, h3a, h4, h4a, h5]; done) | (simp [badG, h1, h1a, h2, h2a, h3, h3a, h4, h4a, h5, h5a]; done) | (simp [badG, h1, h1a, h2, h2a, h3, h3a, h4, h4a, h5, h5a, h6]; done) | (simp [badG, h1, h1a, h2, h2a, h3, h3a, h4, h4a, h5, h5a, h6, h6a]; done) | (simp [badG, h1, h1a, h2, h2a, h3, h3a, h4, h4a, h5, h5a, h6, h6a, h6b]; done) | (simp [badG, h1, h1a, h2, h2a, h3, h3a, h4, h4a, h5, h5a, h6, h6a, h6b, h7]; done) | (simp [badG, h1, h1a, h2, h2a, h3, h3a, h4, h4a, h5, h5a, h6, h6a, h6b, h7, h7a]; done), ⟨rfl⟩⟩
         have h7a : (x.f3 == wt) = true := by simpa [bne] using h7
         cases tm
         rotate_left
         · skip
           go_wp2
           go_meet
           exact ⟨by first | rfl | (simp [badG, h1]; done) | (simp [badG, h1, h1a]; done) | (simp [badG, h1, h1a, h2]; done) | (simp [badG, h1, h1a, h2, h2a]; done) | (simp [badG, h1, h1a, h2, h2a, h3]; done) | (simp [badG, h1, h1a, h2, h2a, h3, h3a]; done) | (simp [badG, h1, h1a, h2, h2a, h3, h3a, h4]; done) | (simp [badG, h1, h1a, h2, h2a, h3, h3a, h4, h4a]; done) | (simp [badG, h1, h1a, h2, h2a, h3, h3a, h4, h4a, h5]; done) | (simp [badG, h1, h1a, h2, h2a, h3, h3a, h4, h4a, h5, h5a]; done) | (simp [badG, h1, h1a, h2, h2a, h3, h3a, h4, h4a, h5, h5a, h6]; done) | (simp [badG, h1, h1a, h2, h2a, h3, h3a, h4, h4a, h5, h5a, h6, h6a]; done) | (simp [badG, h1, h1a, h2, h2a, h3, h3a, h4, h4a, h5, h5a, h6, h6a, h6b]; done) | (simp [badG, h1, h1a, h2, h2a, h3, h3a, h4, h4a, h5, h5a, h6, h6a, h6b, h7]; done) | (simp [badG, h1, h1a, h2, h2a, h3, h3a, h4, h4a, h5, h5a, h6, h6a, h6b, h7, h7a]; done), ⟨rfl⟩⟩
         cases h8 : decide (0 < (x.f4.length : Int))
         rotate_left
         · have h8a : decide (0 < x.f4.length) = true := by rw [← h8]; exact decide_eq_decide.2 (by omega)
           go_wp2
           go_meet
           exact ⟨by first | rfl | (simp [badG, h1]; done) | (simp [badG, h1, h1a]; done) | (simp [badG, h1, h1a, h2]; done) | (simp [badG, h1, h1a, h2, h2a]; done) | (simp [badG, h1, h1a, h2, h2a, h3]; done) | (simp [badG, h1, h1a, h2, h2a, h3, h3a]; done) | (simp [badG, h1, h1a, h2, h2a, h3, h3a, h4]; done) | (simp [badG, h1, h1a, h2, h2a, h3, h3a, h4, h4a]; done) | (simp [badG, h1, h1a, h2, h2a, h3, h3a, h4, h4a, h5]; done) | (simp [badG, h1, h1a, h2, h2a, h3, h3a, h4, h4a, h5, h5a]; done) | (simp [badG, h1, h1a, h2, h2a, h3, h3a, h4, h4a, h5, h5a, h6]; done) | (simp [badG, h1, h1a, h2, h2a, h3, h3a, h4, h4a, h5, h5a, h6, h6a]; done) | (simp [badG, h1, h1a, h2, h2a, h3, h3a, h4, h4a, h5, h5a, h6, h6a, h6b]; done) | (simp [badG, h1, h1a, h2, h2a, h3, h3a, h4, h4a, h5, h5a, h6, h6a, h6b, h7]; done) | (simp [badG, h1, h1a, h2, h2a, h3, h3a, h4, h4a, h5, h5a, h6, h6a, h6b, h7, h7a]; done) | (simp [badG, h1, h1a, h2, h2a, h3, h3a, h4, h4a, h5, h5a, h6, h6a, h6b, h7, h7a, h8]; done) | (simp [badG, h1, h1a, h2, h2a, h3, h3a, h4, h4a, h5, h5a, h6, h6a, h6b, h7, h7a, h8, h8a]; done), ⟨rfl⟩⟩
         have h8a : decide (0 < x.f4.length) = false := by rw [← h8]; exact decide_eq_decide.2 (by omega)
         cases fm
         all_goals
          go_wp2
          go_meet
          exact ⟨by first | rfl | (simp [badG, h1]; done) | (simp [badG, h1, h1a]; done) | (simp [badG, h1, h1a, h2]; done) | (simp [badG, h1, h1a, h2, h2a]; done) | (simp [badG, h1, h1a, h2, h2a, h3]; done) | (simp [badG, h1, h1a, h2, h2a, h3, h3a]; done) | (simp [badG, h1, h1a, h2, h2a, h3, h3a, h4]; done) | (simp [badG, h1, h1a, h2, h2a, h3, h3a, h4, h4a]; done) | (simp [badG, h1, h1a, h2, h2a, h3, h3a, h4, h4a, h5]; done) | (simp [badG, h1, h1a, h2, h2a, h3, h3a, h4, h4a, h5, h5a]; done) | (simp [badG, h1, h1a, h2, h2a, h3, h3a, h4, h4a, h5, h5a, h6]; done) | (simp [badG, h1, h1a, h2, h2a, h3, h3a, h4, h4a, h5, h5a, h6, h6a]; done) | (simp [badG, h1, h1a, h2, h2a, h3, h3a, h4, h4a, h5, h5a, h6, h6a, h6b]; done) | (simp [badG, h1, h1a, h2, h2a, h3, h3a, h4, h4a, h5, h5a, h6, h6a, h6b, h7]; done) | (simp [badG, h1, h1a, h2, h2a, h3, h3a, h4, h4a, h5, h5a, h6, h6a, h6b, h7, h7a]; done) | (simp [badG, h1, h1a, h2, h2a, h3, h3a, h4, h4a, h5, h5a, h6, h6a, h6b, h7, h7a, h8]; done) | (simp [badG, h1, h1a, h2, h2a, h3, h3a, h4, h4a, h5, h5a, h6, h6a, h6b, h7, h7a, h8, h8a]; done), ⟨rfl⟩⟩
       · have h6a : decide (0 < c) = true := by rw [← h6]; exact decide_eq_decide.2 (by omega)
         have h6b : ((c : Int) == 0) = false := by rw [Bool.eq_iff_iff]; simp at h6 ⊢; omega
         cases fm
         · skip
           go_wp2
           go_meet
           exact ⟨by first | rfl | (simp [badG, h1]; done) | (simp [badG, h1, h1a]; done) | (simp [badG, h1, h1a, h2]; done) | (simp [badG, h1, h1a, h2, h2a]; done) | (simp [badG, h1, h1a, h2, h2a, h3]; done) | (simp [badG, h1, h1a, h2, h2a, h3, h3a]; done) | (simp [badG, h1, h1a, h2, h2a, h3, h3a, h4]; done) | (simp [badG, h1, h1a, h2, h2a, h3, h3a, h4, h4a]; done) | (simp [badG, h1, h1a, h2, h2a, h3, h3a, h4, h4a, h5]; done) | (simp [badG, h1, h1a, h2, h2a, h3, h3a, h4, h4a, h5, h5a]; done) | (simp [badG, h1, h1a, h2, h2a, h3, h3a, h4, h4a, h5, h5a, h6]; done) | (simp [badG, h1, h1a, h2, h2a, h3, h3a, h4, h4a, h5, h5a, h6, h6a]; done) | (simp [badG, h1, h1a, h2, h2a, h3, h3a, h4, h4a, h5, h5a, h6, h6a, h6b]; done), ⟨rfl⟩⟩
         · skip
           cases h7 : (x.f3 != wt)
           rotate_left
           · have h7a : (x.f3 == wt) = false := by simpa [bne] using h7
             go_wp2
             go_meet
             exact ⟨by first | rfl | (simp [badG, h1]; done) | (simp [badG, h1, h1a]; done) | (simp [badG, h1, h1a, h2]; done) | (simp [badG, h1, h1a, h2, h2a]; done) | (simp [badG, h1, h1a, h2, h2a, h3]; done) | (simp [badG, h1, h1a, h2, h2a, h3, h3a]; done) | (simp [badG, h1, h1a, h2, h2a, h3, h3a, h4]; done) | (simp [badG, h1, h1a, h2, h2a, h3, h3a, h4, h4a]; done) | (simp [badG, h1, h1a, h2, h2a, h3, h3a, h4, h4a, h5]; done) | (simp [badG, h1, h1a, h2, h2a, h3, h3a, h4, h4a, h5, h5a]; done) | (simp [badG, h1, h1a, h2, h2a, h3, h3a, h4, h4a, h5, h5a, h6]; done) | (simp [badG, h1, h1a, h2, h2a, h3, h3a, h4, h4a, h5, h5a, h6, h6a]; done) | (simp [badG, h1, h1a, h2, h2a, h3, h3a, h4, h4a, h5, h5a, h6, h6a, h6b]; done) | (simp [badG, h1, h1a, h2, h2a, h3, h3a, h4, h4a, h5, h5a, h6, h6a, h6b, h7]; done) | (simp [badG, h1, h1a, h2, h2a, h3, h3a, h4, h4a, h5, h5a, h6, h6a, h6b, h7, h7a]; done), ⟨rfl⟩⟩
           have h7a : (x.f3 == wt) = true := by simpa [bne] using h7
           cases tm
           rotate_left
           · skip
             go_wp2
             go_meet
             exact ⟨by first | rfl | (simp [badG, h1]; done) | (simp [badG, h1, h1a]; done) | (simp [badG, h1, h1a, h2]; done) | (simp [badG, h1, h1a, h2, h2a]; done) | (simp [badG, h1, h1a, h2, h2a, h3]; done) | (simp [badG, h1, h1a, h2, h2a, h3, h3a]; done) | (simp [badG, h1, h1a, h2, h2a, h3, h3a, h4]; done) | (simp [badG, h1, h1a, h2, h2a, h3, h3a, h4, h4a]; done) | (simp [badG, h1, h1a, h2, h2a, h3, h3a, h4, h4a, h5]; done) | (simp [badG, h1, h1a, h2, h2a, h3, h3a, h4, h4a, h5, h5a]; done) | (simp [badG, h1, h1a, h2, h2a, h3, h3a, h4, h4a, h5, h5a, h6]; done) | (simp [badG, h1, h1a, h2, h2a, h3, h3a, h4, h4a, h5, h5a, h6, h6a]; done) | (simp [badG, h1, h1a, h2, h2a, h3, h3a, h4, h4a, h5, h5a, h6, h6a, h6b]; done) | (simp [badG, h1, h1a, h2, h2a, h3, h3a, h4, h4a, h5, h5a, h6, h6a, h6b, h7]; done) | (simp [badG, h1, h1a, h2, h2a, h3, h3a, h4, h4a, h5, h5a, h6, h6a, h6b, h7, h7a]; done), ⟨rfl⟩⟩
           cases h8 : decide (0 < (x.f4.length : Int))
           rotate_left
           · have h8a : decide (0 < x.f4.length) = true := by rw [← h8]; exact decide_eq_decide.2 (by omega)
             go_wp2
             go_meet
             exact ⟨by first | rfl | (simp [badG, h1]; done) | (simp [badG, h1, h1a]; done) | (simp [badG, h1, h1a, h2]; done) | (simp [badG, h1, h1a, h2, h2a]; done) | (simp [badG, h1, h1a, h2, h2a, h3]; done) | (simp [badG, h1, h1a, h2, h2a, h3, h3a]; done) | (simp [badG, h1, h1a, h2, h2a, h3, h3a, h4]; done) | (simp [badG, h1, h1a, h2, h2a, h3, h3a, h4, h4a]; done) | (simp [badG, h1, h1a, h2, h2a, h3, h3a, h4, h4a, h5]; done) | (simp [badG, h1, h1a, h2, h2a, h3, h3a, h4, h4a, h5, h5a]; done) | (simp [badG, h1, h1a, h2, h2a, h3, h3a, h4, h4a, h5, h5a, h6]; done) | (simp [badG, h1, h1a, h2, h2a, h3, h3a, h4, h4a, h5, h5a, h6, h6a]; done) | (simp [badG, h1, h1a, h2, h2a, h3, h3a, h4, h4a, h5, h5a, h6, h6a, h6b]; done) | (simp [badG, h1, h1a, h2, h2a, h3, h3a, h4, h4a, h5, h5a, h6, h6a, h6b, h7]; done) | (simp [badG, h1, h1a, h2, h2a, h3, h3a, h4, h4a, h5, h5a, h6, h6a, h6b, h7, h7a]; done) | (simp [badG, h1, h1a, h2, h2a, h3, h3a, h4, h4a, h5, h5a, h6, h6a, h6b, h7, h7a, h8]; done) | (simp [badG, h1, h1a, h2, h2a, h3, h3a, h4, h4a, h5, h5a, h6, h6a, h6b, h7, h7a, h8, h8a]; done), ⟨rfl⟩⟩
           have h8a : decide (0 < x.f4.length) = false := by rw [← h8]; exact decide_eq_decide.2 (by omega)
           go_wp2
           go_meet
           exact ⟨by first | rfl | (simp [badG, h1]; done) | (simp [badG, h1, h1a]; done) | (simp [badG, h1, h1a, h2]; done) | (simp [badG, h1, h1a, h2, h2a]; done) | (simp [badG, h1, h1a, h2, h2a, h3]; done) | (simp [badG, h1, h1a, h2, h2a, h3, h3a]; done) | (simp [badG, h1, h1a, h2, h2a, h3, h3a, h4]; done) | (simp [badG, h1, h1a, h2, h2a, h3, h3a, h4, h4a]; done) | (simp [badG, h1, h1a, h2, h2a, h3, h3a, h4, h4a, h5]; done) | (simp [badG, h1, h1a, h2, h2a, h3, h3a, h4, h4a, h5, h5a]; done) | (simp [badG, h1, h1a, h2, h2a, h3, h3a, h4, h4a, h5, h5a, h6]; done) | (simp [badG, h1, h1a, h2, h2a, h3, h3a, h4, h4a, h5, h5a, h6, h6a]; done) | (simp [badG, h1, h1a, h2, h2a, h3, h3a, h4, h4a, h5, h5a, h6, h6a, h6b]; done) | (simp [badG, h1, h1a, h2, h2a, h3, h3a, h4, h4a, h5, h5a, h6, h6a, h6b, h7]; done) | (simp [badG, h1, h1a, h2, h2a, h3, h3a, h4, h4a, h5, h5a, h6, h6a, h6b, h7, h7a]; done) | (simp [badG, h1, h1a, h2, h2a, h3, h3a, h4, h4a, h5, h5a, h6, h6a, h6b, h7, h7a, h8]; done) | (simp [badG, h1, h1a, h2, h2a, h3, h3a, h4, h4a, h5, h5a, h6, h6a, h6b, h7, h7a, h8, h8a]; done), ⟨rfl⟩⟩
      obtain ⟨rfl, hw⟩ := hcut
      replace hw := hw.out
      subst hw
      cases hA : badG fm tm c a b x wt
      rotate_left
      · have er : r = false := by rw [← HWT.out, badG_eq] at hA; rw [← HG.out, show (decide (x.f0 = (a : Int)) && decide (x.f1 = (b : Int)) && wayEnd fm tm c x.f2.length x.f4.length x.f3) = false from by simp only [Bool.not_eq_true'] at hA; exact hA]; rfl
        subst er
        go_wp2
        go_ret
        exact ⟨rfl, bl_⟩
      replace HG : Aside0 (allW l0_0 (l0_1.drop (i + 1)) (leftP l0_0.length a (b + 1)) = r) := ⟨by rw [← HWT.out, badG_eq] at hA; have q := HG.out; rw [show (decide (x.f0 = (a : Int)) && decide (x.f1 = (b : Int)) && wayEnd fm tm c x.f2.length x.f4.length x.f3) = true from by simp only [Bool.not_eq_false'] at hA; exact hA] at q; exact q⟩
      clear hA
      go_wp2
      go_roundg (l0_0.length - (b + 1))
      case measure => omega
      case rel => exact ⟨i + 1, b + 1, by rw [WI.out], by rw [w64_succ hbl HL0.out], by omega, by omega, ⟨by have q := HI.out; omega⟩, HG, ⟨kb_ BK_gb.out⟩, ⟨bl_⟩⟩
end Go.Proofs.Ytipfikmbldgliaa.PNX
