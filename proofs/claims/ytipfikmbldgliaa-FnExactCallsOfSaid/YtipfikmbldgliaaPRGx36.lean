/- What this text proves (a hand-built part): the machine call of spec.GoodRegister returns what the plain function says.
   Conditions: as each theorem says. -/
import Derived.Test.YtipfikmbldgliaaPRGx20
import Derived.Test.YtipfikmbldgliaaPRGx21
namespace Go.Proofs.Ytipfikmbldgliaa.PRG
open Go.RowKit Go.Proofs.YtipfikmbldgliaaW.PrintWords Go.Proofs.YtipfikmbldgliaaW.PrintLast Go.Proofs.YtipfikmbldgliaaW.PrintMore Go.Proofs.Ytipfikmbldgliaa.Base Go.Proofs.Ytipfikmbldgliaa.MapSet
attribute [local go_sem] max2_int min2_int max_two min_two max_three min_three max_four min_four   -- for this text's walks alone
set_option linter.unusedVariables false
set_option linter.unusedSimpArgs false

def badS (clk : Int) (l1 : List S40) (l2 : List S83) : Bool := !inB clk 0 1000 || (!inB (l1.length : Int) 1 12 || decide (7 < (l2.length : Int)))
def badD (clk n : Int) (o : S83) : Bool := !inB o.f0 0 9 || (!okVal o.f2 || ((!o.f1 && (o.f2.toList != ([] : List UInt8))) || (!inB o.f3 1 3 || (!okCp o.f5.f0 o.f5.f1 o.f5.f2 || (!inB o.f6 0 (wrap64 (clk - 1)) || (decide (n < wrap64 (2 * (o.f4.length : Int))) || (((o.f3 == 3) && decide (0 < (o.f4.length : Int))) || (((o.f3 == 3) && !inB o.f7 (wrap64 (o.f6 + 1)) (wrap64 (clk - 1))) || (!(o.f3 == 3) && (o.f7 != 0))))))))))
def clash (o x : S83) : Bool := ((x.f0 == o.f0) && (!(o.f3 == 3) && (x.f3 != 3))) || ((x.f6 == o.f6) || (((o.f3 == 3) && (o.f7 == x.f6)) || ((x.f3 == 3) && ((x.f7 == o.f6) || ((o.f3 == 3) && (x.f7 == o.f7))))))
def opFine (clk n : Int) (l : List S83) (i : Nat) : Bool := !badD clk n (rd_T83 l (i : Int)) && (risB (rd_T83 l (i : Int)).f4 (wrap64 (n - 1)) && allFrom (fun k => !clash (rd_T83 l (i : Int)) (rd_T83 l (k : Int))) i 0)
def goodRegS (clk : Int) (l1 : List S40) (l2 : List S83) : Bool := !badS clk l1 l2 && (l1.all (fun c => okCp c.f0 c.f1 c.f2) && allFrom (opFine clk (l1.length : Int) l2) l2.length 0)
def spec_GoodRegister.f (k : Nat) (a0_0 : Int) (l0_1 : List (S40)) (l0_2 : List (S83)) : Option (Bool) := if (l0_1.all szCp && l0_2.all szOp) = true then some (goodRegS a0_0 l0_1 l0_2) else none
theorem spec_GoodRegister.mono : ∀ a0 a1 a2 k, LeO (spec_GoodRegister.f k a0 a1 a2) (spec_GoodRegister.f (k + 1) a0 a1 a2) := fun _ _ _ _ => LeO.refl _
theorem rdT40 {l : List S40} {i : Nat} (h : i < l.length) : rd_T40 l (i : Int) = l[i] := by simp [rd_T40, h]

theorem rise_no {l : List Int} {m : Int} {j : Nat} (h : inB (rd l (j : Int)) 0 m = true) (h0 : ¬ j = 0) : (!rise l m j) = decide (rd l (j : Int) ≤ rd l ((j : Int) - 1)) := by
  unfold rise; rw [h, decide_eq_false h0, Bool.true_and, Bool.false_or, ← decide_not]; exact decide_eq_decide.2 (by omega)
theorem bL : (!true) = false ∧ (!false) = true ∧ (∀ b, (true && b) = b) ∧ (∀ b, (b && true) = b) ∧ (∀ b, (false && b) = false) ∧ (∀ b, (b && false) = false) ∧ (∀ b, (b || false) = b) ∧ (∀ b, (false || b) = b) ∧ (∀ b, (b || true) = true) ∧ (∀ b, (true || b) = true) := by simp
set_option maxHeartbeats 100000000 in
set_option maxRecDepth 100000 in
theorem spec_GoodRegister.calls (k : Nat) (a0_0 : Int) (A0_1 : Option Addr) (c0_1 : Nat) (l0_1 : List (S40)) (A0_2 : Option Addr) (c0_2 : Nat) (l0_2 : List (S83)) (r : Bool) (w : World) (hr0_1 : Kd.C k40 w A0_1 l0_1.length l0_1) (hc0_1 : l0_1.length ≤ c0_1) (hr0_2 : Kd.C k83 w A0_2 l0_2.length l0_2) (hc0_2 : l0_2.length ≤ c0_2) (h : spec_GoodRegister.f k a0_0 l0_1 l0_2 = some r) :
  Calls Try.prog 17 #[.agg #[.int .i64 a0_0, .slice A0_1 l0_1.length c0_1, .slice A0_2 l0_2.length c0_2]] w fun e w' => e = .returned (.bool r) ∧ Below w.heap.size w w' := by
 obtain ⟨hs, hg⟩ : (l0_1.all szCp && l0_2.all szOp) = true ∧ goodRegS a0_0 l0_1 l0_2 = r := by
  unfold spec_GoodRegister.f at h
  by_cases hs : (l0_1.all szCp && l0_2.all szOp) = true
  · rw [if_pos hs] at h; exact ⟨hs, Option.some.inj h⟩
  · rw [if_neg hs] at h; cases h
 clear h
 have HS1 : Aside0 (∀ x ∈ l0_1, szCp x = true) := ⟨by rw [Bool.and_eq_true] at hs; exact List.all_eq_true.1 hs.1⟩
 have HS2 : Aside0 (∀ x ∈ l0_2, szOp x = true) := ⟨by rw [Bool.and_eq_true] at hs; exact List.all_eq_true.1 hs.2⟩
 have HG := Aside0.mk hg
 clear hs hg
 have HL1 : Aside0 (l0_1.length ≤ 9223372036854775807) := ⟨hr0_1.2.1⟩
 have HL : Aside0 (l0_2.length ≤ 9223372036854775807) := ⟨hr0_2.2.1⟩
 have hu25 := Try.underlying25
 have hu83 := Try.underlying83
 have hu40 := Try.underlying40
 have HR0_1 := Aside0.mk hr0_1
 have HC0_1 := Aside0.mk hc0_1
 clear hr0_1 hc0_1
 have HR0_2 := Aside0.mk hr0_2
 have HC0_2 := Aside0.mk hc0_2
 clear hr0_2 hc0_2
 have HB := Aside0.mk (Below.refl w.heap.size w)
 go_enter Try.func17, Try.ntmps17
 go_upto_region 1 with ((with_reducible refine gate_dst (N := 1) rfl ?_); (try (refine gate_guard (by rfl) ?_; dsimp only)); refine box_event rfl (N := 1) rfl (cs := #[(.int .i64 a0_0), (.slice A0_1 l0_1.length c0_1), (.slice A0_2 l0_2.length c0_2)]) (t := 25) gs_ ?_; intro gb hg w3 hbox hb; have BK_gb := Aside0.mk (hbox); have GE_gb := Aside0.mk ((by rw [hg]; exact bz_ : w.heap.size ≤ gb)); replace HB := Aside0.mk (below_step bl_ hb); clear hb hbox hg; have p_0 : w3.cell? ⟨gb, 0, none⟩ = some (.int .i64 a0_0) := bc_ BK_gb.out 0; have pf_0 := blk_frozen BK_gb.out 0; have p_1 : w3.cell? ⟨gb, 1, none⟩ = some (.slice A0_1 l0_1.length c0_1) := bc_ BK_gb.out 1; have pf_1 := blk_frozen BK_gb.out 1; have p_2 : w3.cell? ⟨gb, 2, none⟩ = some (.slice A0_2 l0_2.length c0_2) := bc_ BK_gb.out 2; have pf_2 := blk_frozen BK_gb.out 2)
 (try simp only [Act.put, List.setIfInBounds_toArray, List.set_cons_zero, List.set_cons_succ])
 go_cut [28] (fun v28 wc => v28 = .bool (badS a0_0 l0_1 l0_2) ∧ Aside0 (wc.heap[gb]? = some (.cells #[(.int .i64 a0_0), (.slice A0_1 l0_1.length c0_1), (.slice A0_2 l0_2.length c0_2)] 25 (0, 0))) ∧ Aside0 (Below w.heap.size w wc))
 case first =>
  as_aux_lemma =>
  cases h1 : inB a0_0 0 1000
  rotate_left
  cases h2 : inB (l0_1.length : Int) 1 12
  rotate_left
  all_goals
   go_wp2_with (first | (go_at_call 54; (with_reducible refine (sin_c _ _ _ _).mono ?_); rintro e w' ⟨rfl, ⟨nd, rfl⟩⟩) | (go_at_call 44; (with_reducible refine (nodes_c _ _).mono ?_); rintro e w' ⟨rfl, ⟨nd, rfl⟩⟩))
   go_meet
   exact ⟨by first | rfl | (simp [badS, h1]; done) | (simp [badS, h1, h2]; done), ⟨kb_ BK_gb.out⟩, ⟨bl_⟩⟩
 clear BK_gb HB p_0 pf_0 p_1 pf_1 p_2 pf_2
 obtain ⟨rfl, BK_gb, HB⟩ := hcut
 cases hT : badS a0_0 l0_1 l0_2
 rotate_left
 · have er : r = false := by rw [← HG.out]; simp [goodRegS, hT]
   subst er
   go_wp2
   go_ret
   exact ⟨rfl, bl_⟩
 have H7 : Aside0 (l0_2.length ≤ 7) := ⟨by unfold badS at hT; simp at hT; have := hT.2.2; omega⟩
 have HN : Aside0 (inB (l0_1.length : Int) 1 12 = true) := ⟨by unfold badS at hT; simp at hT; exact hT.2.1⟩
 replace HG : Aside0 (((l0_1.drop 0).all (fun c => okCp c.f0 c.f1 c.f2) && allFrom (opFine a0_0 (l0_1.length : Int) l0_2) l0_2.length 0) = r) := ⟨by have q := HG.out; unfold goodRegS at q; rw [hT] at q; simpa using q⟩
 clear hT
 have p_0 : wc.cell? ⟨gb, 0, none⟩ = some (.int .i64 a0_0) := bc_ BK_gb.out 0
 have p_1 : wc.cell? ⟨gb, 1, none⟩ = some (.slice A0_1 l0_1.length c0_1) := bc_ BK_gb.out 1
 have p_2 : wc.cell? ⟨gb, 2, none⟩ = some (.slice A0_2 l0_2.length c0_2) := bc_ BK_gb.out 2
 go_wp2
 go_loopg [32] l0_1.length (fun gg v32 w' => ∃ i : Nat, v32 = .int .i64 (i : Int) ∧ i ≤ l0_1.length ∧ l0_1.length - i ≤ gg ∧ Aside0 (((l0_1.drop i).all (fun c => okCp c.f0 c.f1 c.f2) && allFrom (opFine a0_0 (l0_1.length : Int) l0_2) l0_2.length 0) = r) ∧ Aside0 (w'.heap[gb]? = some (.cells #[(.int .i64 a0_0), (.slice A0_1 l0_1.length c0_1), (.slice A0_2 l0_2.length c0_2)] 25 (0, 0))) ∧ Aside0 (Below w.heap.size w w'))
 case atStart => exact ⟨0, rfl, Nat.zero_le _, by omega, HG, ⟨kb_ BK_gb.out⟩, ⟨bl_⟩⟩
 case round =>
  clear HG BK_gb HB p_0 p_1 p_2
  obtain ⟨i, rfl, hi, hgg, HG, BK_gb, HB⟩ := hrel
  by_cases hlt : i < l0_1.length
  · as_aux_lemma =>
    have hltz : (i : Int) < (l0_1.length : Int) := by omega
    replace HG := Aside0.mk (show (okCp l0_1[i].f0 l0_1[i].f1 l0_1[i].f2 && (l0_1.drop (i + 1)).all (fun c => okCp c.f0 c.f1 c.f2) && allFrom (opFine a0_0 (l0_1.length : Int) l0_2) l0_2.length 0) = r by have q := HG.out; rw [List.drop_eq_getElem_cons hlt, List.all_cons] at q; exact q)
    have HO := Aside0.mk (rdT40 hlt)
    have HV := Aside0.mk (HS1.out _ (List.getElem_mem hlt))
    obtain ⟨ad1, e1, hx0, hx1, hx2⟩ := at_T40 HR0_1.out (i : Int) (by omega) hltz
    cases e1
    replace hx0 := (HB.out.cell (World.block_lt_of_cell? w _ hx0)).trans hx0
    replace hx1 := (HB.out.cell (World.block_lt_of_cell? w _ hx1)).trans hx1
    replace hx2 := (HB.out.cell (World.block_lt_of_cell? w _ hx2)).trans hx2
    simp only [Int.toNat_natCast] at hx0 hx1 hx2
    generalize hq : l0_1[i] = c at HG HO HV
    clear hq
    rw [HO.out] at hx0 hx1 hx2
    clear HO
    have HV2 : Aside0 (c.f2.size ≤ 9223372036854775807) := ⟨by have q := HV.out; simpa [szCp] using q⟩
    have p0 := eq_true (show (0 : Int) ≤ (i : Int) by omega)
    replace hltz := eq_true hltz
    go_upto_region 5 with (fail)
    (try simp only [Act.put, List.setIfInBounds_toArray, List.set_cons_zero, List.set_cons_succ])
    go_cut [4] (fun v4 wc => ∃ gc : Nat, v4 = .pointer (some ⟨gc, 0, none⟩) ∧ Aside0 (wc.heap[gb]? = some (.cells #[(.int .i64 a0_0), (.slice (some ad1) l0_1.length c0_1), (.slice A0_2 l0_2.length c0_2)] 25 (0, 0))) ∧ Aside0 (wc.heap[gc]? = some (.cells #[(.int .i64 c.f0), (.int .i64 c.f1), (.string c.f2)] 40 (0, 0))) ∧ Aside0 (Below w.heap.size w wc))
    case first =>
     go_wp2_with ((with_reducible refine gate_dst (N := 4) rfl ?_); (try (refine gate_guard (by rfl) ?_; dsimp only)); refine box_event rfl (N := 4) rfl (cs := #[(.int .i64 0), (.int .i64 0), (.string (⟨#[]⟩ : ByteArray))]) (t := 40) gs_ ?_; intro gc hg w22 hbox hb; have BK_gc := Aside0.mk (hbox); have GE_gc := Aside0.mk ((by rw [hg]; exact bz_ : w.heap.size ≤ gc)); replace HB := Aside0.mk (below_step bl_ hb); have NB_BK_gb_gc := nl_ hg BK_gb; have nb_BK_gb_gc := NB_BK_gb_gc.out; have nc_BK_gb_gc := nb_BK_gb_gc.symm; replace BK_gb := bb_ BK_gb hb; clear hb hbox hg; have q_0 : w22.cell? ⟨gc, 0, none⟩ = some (.int .i64 0) := bc_ BK_gc.out 0; have qf_0 := blk_frozen BK_gc.out 0; have q_1 : w22.cell? ⟨gc, 1, none⟩ = some (.int .i64 0) := bc_ BK_gc.out 1; have qf_1 := blk_frozen BK_gc.out 1; have q_2 : w22.cell? ⟨gc, 2, none⟩ = some (.string (⟨#[]⟩ : ByteArray)) := bc_ BK_gc.out 2; have qf_2 := blk_frozen BK_gc.out 2)
     go_meet
     exact ⟨gc, rfl, ⟨kz_⟩, ⟨by refine blk_put (cs := #[(.int .i64 c.f0), (.int .i64 c.f1), (.string (⟨#[]⟩ : ByteArray))]) ?_ 2 _ rfl; refine blk_put (cs := #[(.int .i64 c.f0), (.int .i64 0), (.string (⟨#[]⟩ : ByteArray))]) ?_ 1 _ rfl; refine blk_put (cs := #[(.int .i64 0), (.int .i64 0), (.string (⟨#[]⟩ : ByteArray))]) ?_ 0 _ rfl; exact BK_gc.out⟩, ⟨bl_⟩⟩
    clear hx0 hx1 hx2 BK_gb HB
    obtain ⟨gc, rfl, BK_gb, BK_gc, HB⟩ := hcut
    have q_0 : wc.cell? ⟨gc, 0, none⟩ = some (.int .i64 c.f0) := bc_ BK_gc.out 0
    have q_1 : wc.cell? ⟨gc, 1, none⟩ = some (.int .i64 c.f1) := bc_ BK_gc.out 1
    have q_2 : wc.cell? ⟨gc, 2, none⟩ = some (.string c.f2) := bc_ BK_gc.out 2
    cases h1 : okCp c.f0 c.f1 c.f2
    · have er : r = false := by rw [← HG.out, h1]; rfl
      subst er
      go_wp2_with (go_at_call 55; (with_reducible refine (scp_c _ _ _ HV2.out _).mono ?_); rintro e w4 ⟨rfl, hb⟩; replace HB := Aside0.mk (below_step bl_ hb); replace BK_gb := bb_ BK_gb hb; clear hb)
      go_ret
      exact ⟨rfl, bl_⟩
    replace HG : Aside0 (((l0_1.drop (i + 1)).all (fun c => okCp c.f0 c.f1 c.f2) && allFrom (opFine a0_0 (l0_1.length : Int) l0_2) l0_2.length 0) = r) := ⟨by have q := HG.out; rw [h1] at q; simpa using q⟩
    go_wp2_with (go_at_call 55; (with_reducible refine (scp_c _ _ _ HV2.out _).mono ?_); rintro e w4 ⟨rfl, hb⟩; replace HB := Aside0.mk (below_step bl_ hb); replace BK_gb := bb_ BK_gb hb; clear hb)
    go_roundg (l0_1.length - (i + 1))
    case measure => omega
    case rel => exact ⟨i + 1, by rw [w64_succ hlt HL1.out], by omega, by omega, HG, ⟨kb_ BK_gb.out⟩, ⟨bl_⟩⟩
  have ei : i = l0_1.length := by omega
  subst ei
  replace HG : Aside0 (allFrom (opFine a0_0 (l0_1.length : Int) l0_2) l0_2.length 0 = r) := ⟨by have q := HG.out; rw [List.drop_length] at q; simpa using q⟩
  have p_0 : wr.cell? ⟨gb, 0, none⟩ = some (.int .i64 a0_0) := bc_ BK_gb.out 0
  have p_1 : wr.cell? ⟨gb, 1, none⟩ = some (.slice A0_1 l0_1.length c0_1) := bc_ BK_gb.out 1
  have p_2 : wr.cell? ⟨gb, 2, none⟩ = some (.slice A0_2 l0_2.length c0_2) := bc_ BK_gb.out 2
  go_wp2
  clear hi hgg hlt
  go_loopg [43] l0_2.length (fun gg v43 w' => ∃ i : Nat, v43 = .int .i64 (i : Int) ∧ i ≤ l0_2.length ∧ l0_2.length - i ≤ gg ∧ Aside0 (allFrom (opFine a0_0 (l0_1.length : Int) l0_2) l0_2.length i = r) ∧ Aside0 (w'.heap[gb]? = some (.cells #[(.int .i64 a0_0), (.slice A0_1 l0_1.length c0_1), (.slice A0_2 l0_2.length c0_2)] 25 (0, 0))) ∧ Aside0 (Below w.heap.size w w'))
  case atStart => exact ⟨0, rfl, Nat.zero_le _, by omega, HG, ⟨kb_ BK_gb.out⟩, ⟨bl_⟩⟩
  case round =>
   clear HG BK_gb HB p_0 p_1 p_2
   obtain ⟨i, rfl, hi, hgg2, HG, BK_gb, HB⟩ := hrel
   by_cases hlt : i < l0_2.length
   rotate_left
   · have ei : i = l0_2.length := by omega
     subst ei
     have er : r = true := by rw [← HG.out, allFrom_end]
     subst er
     go_wp2
     go_ret
     exact ⟨rfl, bl_⟩
   have hltz : (i : Int) < (l0_2.length : Int) := by omega
   have HV : Aside0 (szOp (rd_T83 l0_2 (i : Int)) = true) := ⟨by rw [rdT83 hlt]; exact HS2.out _ (List.getElem_mem hlt)⟩
   replace HG : Aside0 ((!badD a0_0 (l0_1.length : Int) (rd_T83 l0_2 (i : Int)) && (risB (rd_T83 l0_2 (i : Int)).f4 (wrap64 ((l0_1.length : Int) - 1)) && (allFrom (fun k => !clash (rd_T83 l0_2 (i : Int)) (rd_T83 l0_2 (k : Int))) i 0 && allFrom (opFine a0_0 (l0_1.length : Int) l0_2) l0_2.length (i + 1)))) = r) := ⟨by have q := HG.out; rw [allFrom_step hlt] at q; unfold opFine at q; rw [Bool.and_assoc, Bool.and_assoc] at q; exact q⟩
   obtain ⟨ad2, A4, c4, e2, hx0, hx1, hx2, hx3, hx4, hx5, hx6, hx7, hx8, hx9, hl4, hi4⟩ := at_T83 HR0_2.out (i : Int) (by omega) hltz
   cases e2
   replace hx0 := (HB.out.cell (World.block_lt_of_cell? w _ hx0)).trans hx0
   replace hx1 := (HB.out.cell (World.block_lt_of_cell? w _ hx1)).trans hx1
   replace hx2 := (HB.out.cell (World.block_lt_of_cell? w _ hx2)).trans hx2
   replace hx3 := (HB.out.cell (World.block_lt_of_cell? w _ hx3)).trans hx3
   replace hx4 := (HB.out.cell (World.block_lt_of_cell? w _ hx4)).trans hx4
   replace hx5 := (HB.out.cell (World.block_lt_of_cell? w _ hx5)).trans hx5
   replace hx6 := (HB.out.cell (World.block_lt_of_cell? w _ hx6)).trans hx6
   replace hx7 := (HB.out.cell (World.block_lt_of_cell? w _ hx7)).trans hx7
   replace hx8 := (HB.out.cell (World.block_lt_of_cell? w _ hx8)).trans hx8
   replace hx9 := (HB.out.cell (World.block_lt_of_cell? w _ hx9)).trans hx9
   simp only [Int.toNat_natCast] at hx0 hx1 hx2 hx3 hx4 hx5 hx6 hx7 hx8 hx9
   generalize hq : rd_T83 l0_2 (i : Int) = o at HG HV hx0 hx1 hx2 hx3 hx4 hx5 hx6 hx7 hx8 hx9 hl4 hi4
   clear hq
   have HR4 := Aside0.mk hi4
   have HC4 := Aside0.mk hl4
   clear hi4 hl4
   have HV2 : Aside0 (o.f2.size ≤ 9223372036854775807) := ⟨by have q := HV.out; simp [szOp] at q; exact q.1⟩
   have HV5 : Aside0 (o.f5.f2.size ≤ 9223372036854775807) := ⟨by have q := HV.out; simp [szOp, szCp] at q; exact q.2⟩
   have p0 := eq_true (show (0 : Int) ≤ (i : Int) by omega)
   replace hltz := eq_true hltz
   go_upto_region 11 with (fail)
   (try simp only [Act.put, List.setIfInBounds_toArray, List.set_cons_zero, List.set_cons_succ])
   go_cut [5, 6] (fun v5 v6 wc => ∃ go : Nat, v5 = .int .i64 (i : Int) ∧ v6 = .pointer (some ⟨go, 0, none⟩) ∧ Aside0 (gb ≠ go) ∧ Aside0 (wc.heap[gb]? = some (.cells #[(.int .i64 a0_0), (.slice A0_1 l0_1.length c0_1), (.slice (some ad2) l0_2.length c0_2)] 25 (0, 0))) ∧ Aside0 (wc.heap[go]? = some (.cells #[(.int .i64 o.f0), (.bool o.f1), (.string o.f2), (.int .i64 o.f3), (.slice A4 o.f4.length c4), (.int .i64 o.f5.f0), (.int .i64 o.f5.f1), (.string o.f5.f2), (.int .i64 o.f6), (.int .i64 o.f7)] 83 (0, 0))) ∧ Aside0 (Below w.heap.size w wc))
   case first =>
    go_wp2_with ((with_reducible refine gate_dst (N := 6) rfl ?_); (try (refine gate_guard (by rfl) ?_; dsimp only)); refine box_event rfl (N := 6) rfl (cs := #[(.int .i64 0), (.bool false), (.string (⟨#[]⟩ : ByteArray)), (.int .i64 0), (.slice none 0 0), (.int .i64 0), (.int .i64 0), (.string (⟨#[]⟩ : ByteArray)), (.int .i64 0), (.int .i64 0)]) (t := 83) gs_ ?_; intro go hg w22 hbox hb; have BK_go := Aside0.mk (hbox); have GE_go := Aside0.mk ((by rw [hg]; exact bz_ : w.heap.size ≤ go)); replace HB := Aside0.mk (below_step bl_ hb); have NB_BK_gb_go := nl_ hg BK_gb; have nb_BK_gb_go := NB_BK_gb_go.out; have nc_BK_gb_go := nb_BK_gb_go.symm; replace BK_gb := bb_ BK_gb hb; clear hb hbox hg; have q_0 : w22.cell? ⟨go, 0, none⟩ = some (.int .i64 0) := bc_ BK_go.out 0; have qf_0 := blk_frozen BK_go.out 0; have q_1 : w22.cell? ⟨go, 1, none⟩ = some (.bool false) := bc_ BK_go.out 1; have qf_1 := blk_frozen BK_go.out 1; have q_2 : w22.cell? ⟨go, 2, none⟩ = some (.string (⟨#[]⟩ : ByteArray)) := bc_ BK_go.out 2; have qf_2 := blk_frozen BK_go.out 2; have q_3 : w22.cell? ⟨go, 3, none⟩ = some (.int .i64 0) := bc_ BK_go.out 3; have qf_3 := blk_frozen BK_go.out 3; have q_4 : w22.cell? ⟨go, 4, none⟩ = some (.slice none 0 0) := bc_ BK_go.out 4; have qf_4 := blk_frozen BK_go.out 4; have q_5 : w22.cell? ⟨go, 5, none⟩ = some (.int .i64 0) := bc_ BK_go.out 5; have qf_5 := blk_frozen BK_go.out 5; have q_6 : w22.cell? ⟨go, 6, none⟩ = some (.int .i64 0) := bc_ BK_go.out 6; have qf_6 := blk_frozen BK_go.out 6; have q_7 : w22.cell? ⟨go, 7, none⟩ = some (.string (⟨#[]⟩ : ByteArray)) := bc_ BK_go.out 7; have qf_7 := blk_frozen BK_go.out 7; have q_8 : w22.cell? ⟨go, 8, none⟩ = some (.int .i64 0) := bc_ BK_go.out 8; have qf_8 := blk_frozen BK_go.out 8; have q_9 : w22.cell? ⟨go, 9, none⟩ = some (.int .i64 0) := bc_ BK_go.out 9; have qf_9 := blk_frozen BK_go.out 9)
    go_meet
    exact ⟨go, rfl, rfl, NB_BK_gb_go, ⟨kz_⟩, ⟨by refine blk_put (cs := #[(.int .i64 o.f0), (.bool o.f1), (.string o.f2), (.int .i64 o.f3), (.slice A4 o.f4.length c4), (.int .i64 o.f5.f0), (.int .i64 o.f5.f1), (.string o.f5.f2), (.int .i64 o.f6), (.int .i64 0)]) ?_ 9 _ rfl; refine blk_put (cs := #[(.int .i64 o.f0), (.bool o.f1), (.string o.f2), (.int .i64 o.f3), (.slice A4 o.f4.length c4), (.int .i64 o.f5.f0), (.int .i64 o.f5.f1), (.string o.f5.f2), (.int .i64 0), (.int .i64 0)]) ?_ 8 _ rfl; refine blk_put (cs := #[(.int .i64 o.f0), (.bool o.f1), (.string o.f2), (.int .i64 o.f3), (.slice A4 o.f4.length c4), (.int .i64 o.f5.f0), (.int .i64 o.f5.f1), (.string (⟨#[]⟩ : ByteArray)), (.int .i64 0), (.int .i64 0)]) ?_ 7 _ rfl; refine blk_put (cs := #[(.int .i64 o.f0), (.bool o.f1), (.string o.f2), (.int .i64 o.f3), (.slice A4 o.f4.length c4), (.int .i64 o.f5.f0), (.int .i64 0), (.string (⟨#[]⟩ : ByteArray)), (.int .i64 0), (.int .i64 0)]) ?_ 6 _ rfl; refine blk_put (cs := #[(.int .i64 o.f0), (.bool o.f1), (.string o.f2), (.int .i64 o.f3), (.slice A4 o.f4.length c4), (.int .i64 0), (.int .i64 0), (.string (⟨#[]⟩ : ByteArray)), (.int .i64 0), (.int .i64 0)]) ?_ 5 _ rfl; refine blk_put (cs := #[(.int .i64 o.f0), (.bool o.f1), (.string o.f2), (.int .i64 o.f3), (.slice none 0 0), (.int .i64 0), (.int .i64 0), (.string (⟨#[]⟩ : ByteArray)), (.int .i64 0), (.int .i64 0)]) ?_ 4 _ rfl; refine blk_put (cs := #[(.int .i64 o.f0), (.bool o.f1), (.string o.f2), (.int .i64 0), (.slice none 0 0), (.int .i64 0), (.int .i64 0), (.string (⟨#[]⟩ : ByteArray)), (.int .i64 0), (.int .i64 0)]) ?_ 3 _ rfl; refine blk_put (cs := #[(.int .i64 o.f0), (.bool o.f1), (.string (⟨#[]⟩ : ByteArray)), (.int .i64 0), (.slice none 0 0), (.int .i64 0), (.int .i64 0), (.string (⟨#[]⟩ : ByteArray)), (.int .i64 0), (.int .i64 0)]) ?_ 2 _ rfl; refine blk_put (cs := #[(.int .i64 o.f0), (.bool false), (.string (⟨#[]⟩ : ByteArray)), (.int .i64 0), (.slice none 0 0), (.int .i64 0), (.int .i64 0), (.string (⟨#[]⟩ : ByteArray)), (.int .i64 0), (.int .i64 0)]) ?_ 1 _ rfl; refine blk_put (cs := #[(.int .i64 0), (.bool false), (.string (⟨#[]⟩ : ByteArray)), (.int .i64 0), (.slice none 0 0), (.int .i64 0), (.int .i64 0), (.string (⟨#[]⟩ : ByteArray)), (.int .i64 0), (.int .i64 0)]) ?_ 0 _ rfl; exact BK_go.out⟩, ⟨bl_⟩⟩
   clear hx0 hx1 hx2 hx3 hx4 hx5 hx6 hx7 hx8 hx9 BK_gb HB
   obtain ⟨go, rfl, rfl, NB, BK_gb, BK_go, HB⟩ := hcut
   have nb := NB.out
   have nc := nb.symm
   have p_0 : wc.cell? ⟨gb, 0, none⟩ = some (.int .i64 a0_0) := bc_ BK_gb.out 0
   have p_1 : wc.cell? ⟨gb, 1, none⟩ = some (.slice A0_1 l0_1.length c0_1) := bc_ BK_gb.out 1
   have p_2 : wc.cell? ⟨gb, 2, none⟩ = some (.slice (some ad2) l0_2.length c0_2) := bc_ BK_gb.out 2
   have q_0 : wc.cell? ⟨go, 0, none⟩ = some (.int .i64 o.f0) := bc_ BK_go.out 0
   have q_1 : wc.cell? ⟨go, 1, none⟩ = some (.bool o.f1) := bc_ BK_go.out 1
   have q_2 : wc.cell? ⟨go, 2, none⟩ = some (.string o.f2) := bc_ BK_go.out 2
   have q_3 : wc.cell? ⟨go, 3, none⟩ = some (.int .i64 o.f3) := bc_ BK_go.out 3
   have q_4 : wc.cell? ⟨go, 4, none⟩ = some (.slice A4 o.f4.length c4) := bc_ BK_go.out 4
   have q_5 : wc.cell? ⟨go, 5, none⟩ = some (.int .i64 o.f5.f0) := bc_ BK_go.out 5
   have q_6 : wc.cell? ⟨go, 6, none⟩ = some (.int .i64 o.f5.f1) := bc_ BK_go.out 6
   have q_7 : wc.cell? ⟨go, 7, none⟩ = some (.string o.f5.f2) := bc_ BK_go.out 7
   have q_8 : wc.cell? ⟨go, 8, none⟩ = some (.int .i64 o.f6) := bc_ BK_go.out 8
   have q_9 : wc.cell? ⟨go, 9, none⟩ = some (.int .i64 o.f7) := bc_ BK_go.out 9
   go_upto_region 13 with (fail)
   (try simp only [Act.put, List.setIfInBounds_toArray, List.set_cons_zero, List.set_cons_succ])
   obtain ⟨dn, hdn⟩ : ∃ z : Bool, z = (o.f3 == 3) := ⟨_, rfl⟩
   rw [← hdn]
   have HDN := Aside0.mk hdn
   clear hdn
   go_cut [134] (fun v134 wc => v134 = .bool (badD a0_0 (l0_1.length : Int) o) ∧ Aside0 (wc.heap[gb]? = some (.cells #[(.int .i64 a0_0), (.slice A0_1 l0_1.length c0_1), (.slice (some ad2) l0_2.length c0_2)] 25 (0, 0))) ∧ Aside0 (wc.heap[go]? = some (.cells #[(.int .i64 o.f0), (.bool o.f1), (.string o.f2), (.int .i64 o.f3), (.slice A4 o.f4.length c4), (.int .i64 o.f5.f0), (.int .i64 o.f5.f1), (.string o.f5.f2), (.int .i64 o.f6), (.int .i64 o.f7)] 83 (0, 0))) ∧ Aside0 (Below w.heap.size w wc))
   case first =>
    as_aux_lemma =>
    simp only [List.append_eq, List.cons_append, List.nil_append]
    cases h1 : inB o.f0 0 9
    rotate_left
    cases h2 : okVal o.f2
    rotate_left
    cases h3 : o.f1
    · cases h4 : (o.f2.toList != ([] : List UInt8))
      · have h4e : (o.f2.toList == ([] : List UInt8)) = true := by simpa [bne] using h4
        cases h5 : inB o.f3 1 3
        rotate_left
        cases h8 : okCp o.f5.f0 o.f5.f1 o.f5.f2
        rotate_left
        cases h9 : inB o.f6 0 (wrap64 (a0_0 - 1))
        rotate_left
        cases h7 : decide ((l0_1.length : Int) < wrap64 (2 * (o.f4.length : Int)))
        cases dn
        · have hD := HDN.out.symm
          cases h12 : (o.f7 != 0)
          · have h12e : (o.f7 == 0) = true := by simpa [bne] using h12
            go_wp2_with (first
             | (go_at_call 54; (with_reducible refine (sin_c _ _ _ _).mono ?_); rintro e w' ⟨rfl, ⟨nd, rfl⟩⟩)
             | (go_at_call 56; (with_reducible refine (sval_c _ HV2.out _).mono ?_); rintro e w' ⟨rfl, ⟨nd, rfl⟩⟩)
             | (go_at_call 55; (with_reducible refine (scp_c _ _ _ HV5.out _).mono ?_); rintro e w4 ⟨rfl, hb⟩; replace HB := Aside0.mk (below_step bl_ hb); replace BK_gb := bb_ BK_gb hb; replace BK_go := bb_ BK_go hb; clear hb; clear p_0 p_1 p_2 q_0 q_1 q_2 q_3 q_4 q_5 q_6 q_7 q_8 q_9; have p_0 : w4.cell? ⟨gb, 0, none⟩ = some (.int .i64 a0_0) := bc_ BK_gb.out 0; have p_1 : w4.cell? ⟨gb, 1, none⟩ = some (.slice A0_1 l0_1.length c0_1) := bc_ BK_gb.out 1; have p_2 : w4.cell? ⟨gb, 2, none⟩ = some (.slice (some ad2) l0_2.length c0_2) := bc_ BK_gb.out 2; have q_0 : w4.cell? ⟨go, 0, none⟩ = some (.int .i64 o.f0) := bc_ BK_go.out 0; have q_1 : w4.cell? ⟨go, 1, none⟩ = some (.bool o.f1) := bc_ BK_go.out 1; have q_2 : w4.cell? ⟨go, 2, none⟩ = some (.string o.f2) := bc_ BK_go.out 2; have q_3 : w4.cell? ⟨go, 3, none⟩ = some (.int .i64 o.f3) := bc_ BK_go.out 3; have q_4 : w4.cell? ⟨go, 4, none⟩ = some (.slice A4 o.f4.length c4) := bc_ BK_go.out 4; have q_5 : w4.cell? ⟨go, 5, none⟩ = some (.int .i64 o.f5.f0) := bc_ BK_go.out 5; have q_6 : w4.cell? ⟨go, 6, none⟩ = some (.int .i64 o.f5.f1) := bc_ BK_go.out 6; have q_7 : w4.cell? ⟨go, 7, none⟩ = some (.string o.f5.f2) := bc_ BK_go.out 7; have q_8 : w4.cell? ⟨go, 8, none⟩ = some (.int .i64 o.f6) := bc_ BK_go.out 8; have q_9 : w4.cell? ⟨go, 9, none⟩ = some (.int .i64 o.f7) := bc_ BK_go.out 9))
            go_meet
            exact ⟨by first | rfl | (simp only [badD, h1, h2, h3, h4, h5, h8, h9, h7, hD, h12, bL]; done), ⟨kb_ BK_gb.out⟩, ⟨kb_ BK_go.out⟩, ⟨bl_⟩⟩
          · have h12e : (o.f7 == 0) = false := by simpa [bne] using h12
            go_wp2_with (first
             | (go_at_call 54; (with_reducible refine (sin_c _ _ _ _).mono ?_); rintro e w' ⟨rfl, ⟨nd, rfl⟩⟩)
             | (go_at_call 56; (with_reducible refine (sval_c _ HV2.out _).mono ?_); rintro e w' ⟨rfl, ⟨nd, rfl⟩⟩)
             | (go_at_call 55; (with_reducible refine (scp_c _ _ _ HV5.out _).mono ?_); rintro e w4 ⟨rfl, hb⟩; replace HB := Aside0.mk (below_step bl_ hb); replace BK_gb := bb_ BK_gb hb; replace BK_go := bb_ BK_go hb; clear hb; clear p_0 p_1 p_2 q_0 q_1 q_2 q_3 q_4 q_5 q_6 q_7 q_8 q_9; have p_0 : w4.cell? ⟨gb, 0, none⟩ = some (.int .i64 a0_0) := bc_ BK_gb.out 0; have p_1 : w4.cell? ⟨gb, 1, none⟩ = some (.slice A0_1 l0_1.length c0_1) := bc_ BK_gb.out 1; have p_2 : w4.cell? ⟨gb, 2, none⟩ = some (.slice (some ad2) l0_2.length c0_2) := bc_ BK_gb.out 2; have q_0 : w4.cell? ⟨go, 0, none⟩ = some (.int .i64 o.f0) := bc_ BK_go.out 0; have q_1 : w4.cell? ⟨go, 1, none⟩ = some (.bool o.f1) := bc_ BK_go.out 1; have q_2 : w4.cell? ⟨go, 2, none⟩ = some (.string o.f2) := bc_ BK_go.out 2; have q_3 : w4.cell? ⟨go, 3, none⟩ = some (.int .i64 o.f3) := bc_ BK_go.out 3; have q_4 : w4.cell? ⟨go, 4, none⟩ = some (.slice A4 o.f4.length c4) := bc_ BK_go.out 4; have q_5 : w4.cell? ⟨go, 5, none⟩ = some (.int .i64 o.f5.f0) := bc_ BK_go.out 5; have q_6 : w4.cell? ⟨go, 6, none⟩ = some (.int .i64 o.f5.f1) := bc_ BK_go.out 6; have q_7 : w4.cell? ⟨go, 7, none⟩ = some (.string o.f5.f2) := bc_ BK_go.out 7; have q_8 : w4.cell? ⟨go, 8, none⟩ = some (.int .i64 o.f6) := bc_ BK_go.out 8; have q_9 : w4.cell? ⟨go, 9, none⟩ = some (.int .i64 o.f7) := bc_ BK_go.out 9))
            go_meet
            exact ⟨by first | rfl | (simp only [badD, h1, h2, h3, h4, h5, h8, h9, h7, hD, h12, bL]; done), ⟨kb_ BK_gb.out⟩, ⟨kb_ BK_go.out⟩, ⟨bl_⟩⟩
        · have hD := HDN.out.symm
          cases h10 : decide (0 < (o.f4.length : Int))
          · have h10b : decide (0 < o.f4.length) = false := by have q := of_decide_eq_false h10; exact decide_eq_false (by omega)
            cases h11 : inB o.f7 (wrap64 (o.f6 + 1)) (wrap64 (a0_0 - 1))
            all_goals as_aux_lemma =>
             go_wp2_with (first
              | (go_at_call 54; (with_reducible refine (sin_c _ _ _ _).mono ?_); rintro e w' ⟨rfl, ⟨nd, rfl⟩⟩)
              | (go_at_call 56; (with_reducible refine (sval_c _ HV2.out _).mono ?_); rintro e w' ⟨rfl, ⟨nd, rfl⟩⟩)
              | (go_at_call 55; (with_reducible refine (scp_c _ _ _ HV5.out _).mono ?_); rintro e w4 ⟨rfl, hb⟩; replace HB := Aside0.mk (below_step bl_ hb); replace BK_gb := bb_ BK_gb hb; replace BK_go := bb_ BK_go hb; clear hb; clear p_0 p_1 p_2 q_0 q_1 q_2 q_3 q_4 q_5 q_6 q_7 q_8 q_9; have p_0 : w4.cell? ⟨gb, 0, none⟩ = some (.int .i64 a0_0) := bc_ BK_gb.out 0; have p_1 : w4.cell? ⟨gb, 1, none⟩ = some (.slice A0_1 l0_1.length c0_1) := bc_ BK_gb.out 1; have p_2 : w4.cell? ⟨gb, 2, none⟩ = some (.slice (some ad2) l0_2.length c0_2) := bc_ BK_gb.out 2; have q_0 : w4.cell? ⟨go, 0, none⟩ = some (.int .i64 o.f0) := bc_ BK_go.out 0; have q_1 : w4.cell? ⟨go, 1, none⟩ = some (.bool o.f1) := bc_ BK_go.out 1; have q_2 : w4.cell? ⟨go, 2, none⟩ = some (.string o.f2) := bc_ BK_go.out 2; have q_3 : w4.cell? ⟨go, 3, none⟩ = some (.int .i64 o.f3) := bc_ BK_go.out 3; have q_4 : w4.cell? ⟨go, 4, none⟩ = some (.slice A4 o.f4.length c4) := bc_ BK_go.out 4; have q_5 : w4.cell? ⟨go, 5, none⟩ = some (.int .i64 o.f5.f0) := bc_ BK_go.out 5; have q_6 : w4.cell? ⟨go, 6, none⟩ = some (.int .i64 o.f5.f1) := bc_ BK_go.out 6; have q_7 : w4.cell? ⟨go, 7, none⟩ = some (.string o.f5.f2) := bc_ BK_go.out 7; have q_8 : w4.cell? ⟨go, 8, none⟩ = some (.int .i64 o.f6) := bc_ BK_go.out 8; have q_9 : w4.cell? ⟨go, 9, none⟩ = some (.int .i64 o.f7) := bc_ BK_go.out 9))
             go_meet
             exact ⟨by first | rfl | (simp only [badD, h1, h2, h3, h4, h5, h8, h9, h7, hD, h10, h11, bL]; done), ⟨kb_ BK_gb.out⟩, ⟨kb_ BK_go.out⟩, ⟨bl_⟩⟩
          · have h10b : decide (0 < o.f4.length) = true := by have q := of_decide_eq_true h10; exact decide_eq_true (by omega)
            go_wp2_with (first
             | (go_at_call 54; (with_reducible refine (sin_c _ _ _ _).mono ?_); rintro e w' ⟨rfl, ⟨nd, rfl⟩⟩)
             | (go_at_call 56; (with_reducible refine (sval_c _ HV2.out _).mono ?_); rintro e w' ⟨rfl, ⟨nd, rfl⟩⟩)
             | (go_at_call 55; (with_reducible refine (scp_c _ _ _ HV5.out _).mono ?_); rintro e w4 ⟨rfl, hb⟩; replace HB := Aside0.mk (below_step bl_ hb); replace BK_gb := bb_ BK_gb hb; replace BK_go := bb_ BK_go hb; clear hb; clear p_0 p_1 p_2 q_0 q_1 q_2 q_3 q_4 q_5 q_6 q_7 q_8 q_9; have p_0 : w4.cell? ⟨gb, 0, none⟩ = some (.int .i64 a0_0) := bc_ BK_gb.out 0; have p_1 : w4.cell? ⟨gb, 1, none⟩ = some (.slice A0_1 l0_1.length c0_1) := bc_ BK_gb.out 1; have p_2 : w4.cell? ⟨gb, 2, none⟩ = some (.slice (some ad2) l0_2.length c0_2) := bc_ BK_gb.out 2; have q_0 : w4.cell? ⟨go, 0, none⟩ = some (.int .i64 o.f0) := bc_ BK_go.out 0; have q_1 : w4.cell? ⟨go, 1, none⟩ = some (.bool o.f1) := bc_ BK_go.out 1; have q_2 : w4.cell? ⟨go, 2, none⟩ = some (.string o.f2) := bc_ BK_go.out 2; have q_3 : w4.cell? ⟨go, 3, none⟩ = some (.int .i64 o.f3) := bc_ BK_go.out 3; have q_4 : w4.cell? ⟨go, 4, none⟩ = some (.slice A4 o.f4.length c4) := bc_ BK_go.out 4; have q_5 : w4.cell? ⟨go, 5, none⟩ = some (.int .i64 o.f5.f0) := bc_ BK_go.out 5; have q_6 : w4.cell? ⟨go, 6, none⟩ = some (.int .i64 o.f5.f1) := bc_ BK_go.out 6; have q_7 : w4.cell? ⟨go, 7, none⟩ = some (.string o.f5.f2) := bc_ BK_go.out 7; have q_8 : w4.cell? ⟨go, 8, none⟩ = some (.int .i64 o.f6) := bc_ BK_go.out 8; have q_9 : w4.cell? ⟨go, 9, none⟩ = some (.int .i64 o.f7) := bc_ BK_go.out 9))
            go_meet
            exact ⟨by first | rfl | (simp only [badD, h1, h2, h3, h4, h5, h8, h9, h7, hD, h10, bL]; done), ⟨kb_ BK_gb.out⟩, ⟨kb_ BK_go.out⟩, ⟨bl_⟩⟩
        all_goals as_aux_lemma =>
         go_wp2_with (first
          | (go_at_call 54; (with_reducible refine (sin_c _ _ _ _).mono ?_); rintro e w' ⟨rfl, ⟨nd, rfl⟩⟩)
          | (go_at_call 56; (with_reducible refine (sval_c _ HV2.out _).mono ?_); rintro e w' ⟨rfl, ⟨nd, rfl⟩⟩)
          | (go_at_call 55; (with_reducible refine (scp_c _ _ _ HV5.out _).mono ?_); rintro e w4 ⟨rfl, hb⟩; replace HB := Aside0.mk (below_step bl_ hb); replace BK_gb := bb_ BK_gb hb; replace BK_go := bb_ BK_go hb; clear hb; clear p_0 p_1 p_2 q_0 q_1 q_2 q_3 q_4 q_5 q_6 q_7 q_8 q_9; have p_0 : w4.cell? ⟨gb, 0, none⟩ = some (.int .i64 a0_0) := bc_ BK_gb.out 0; have p_1 : w4.cell? ⟨gb, 1, none⟩ = some (.slice A0_1 l0_1.length c0_1) := bc_ BK_gb.out 1; have p_2 : w4.cell? ⟨gb, 2, none⟩ = some (.slice (some ad2) l0_2.length c0_2) := bc_ BK_gb.out 2; have q_0 : w4.cell? ⟨go, 0, none⟩ = some (.int .i64 o.f0) := bc_ BK_go.out 0; have q_1 : w4.cell? ⟨go, 1, none⟩ = some (.bool o.f1) := bc_ BK_go.out 1; have q_2 : w4.cell? ⟨go, 2, none⟩ = some (.string o.f2) := bc_ BK_go.out 2; have q_3 : w4.cell? ⟨go, 3, none⟩ = some (.int .i64 o.f3) := bc_ BK_go.out 3; have q_4 : w4.cell? ⟨go, 4, none⟩ = some (.slice A4 o.f4.length c4) := bc_ BK_go.out 4; have q_5 : w4.cell? ⟨go, 5, none⟩ = some (.int .i64 o.f5.f0) := bc_ BK_go.out 5; have q_6 : w4.cell? ⟨go, 6, none⟩ = some (.int .i64 o.f5.f1) := bc_ BK_go.out 6; have q_7 : w4.cell? ⟨go, 7, none⟩ = some (.string o.f5.f2) := bc_ BK_go.out 7; have q_8 : w4.cell? ⟨go, 8, none⟩ = some (.int .i64 o.f6) := bc_ BK_go.out 8; have q_9 : w4.cell? ⟨go, 9, none⟩ = some (.int .i64 o.f7) := bc_ BK_go.out 9))
         go_meet
         exact ⟨by first | rfl | (simp only [badD, h1, h2, h3, h4, h5, h8, h9, h7, bL]; done) | (simp only [badD, h1, h2, h3, h4, h5, h8, h9, bL]; done) | (simp only [badD, h1, h2, h3, h4, h5, h8, bL]; done) | (simp only [badD, h1, h2, h3, h4, h5, bL]; done), ⟨kb_ BK_gb.out⟩, ⟨kb_ BK_go.out⟩, ⟨bl_⟩⟩
      · have h4e : (o.f2.toList == ([] : List UInt8)) = false := by simpa [bne] using h4
        go_wp2_with (first
         | (go_at_call 54; (with_reducible refine (sin_c _ _ _ _).mono ?_); rintro e w' ⟨rfl, ⟨nd, rfl⟩⟩)
         | (go_at_call 56; (with_reducible refine (sval_c _ HV2.out _).mono ?_); rintro e w' ⟨rfl, ⟨nd, rfl⟩⟩)
         | (go_at_call 55; (with_reducible refine (scp_c _ _ _ HV5.out _).mono ?_); rintro e w4 ⟨rfl, hb⟩; replace HB := Aside0.mk (below_step bl_ hb); replace BK_gb := bb_ BK_gb hb; replace BK_go := bb_ BK_go hb; clear hb; clear p_0 p_1 p_2 q_0 q_1 q_2 q_3 q_4 q_5 q_6 q_7 q_8 q_9; have p_0 : w4.cell? ⟨gb, 0, none⟩ = some (.int .i64 a0_0) := bc_ BK_gb.out 0; have p_1 : w4.cell? ⟨gb, 1, none⟩ = some (.slice A0_1 l0_1.length c0_1) := bc_ BK_gb.out 1; have p_2 : w4.cell? ⟨gb, 2, none⟩ = some (.slice (some ad2) l0_2.length c0_2) := bc_ BK_gb.out 2; have q_0 : w4.cell? ⟨go, 0, none⟩ = some (.int .i64 o.f0) := bc_ BK_go.out 0; have q_1 : w4.cell? ⟨go, 1, none⟩ = some (.bool o.f1) := bc_ BK_go.out 1; have q_2 : w4.cell? ⟨go, 2, none⟩ = some (.string o.f2) := bc_ BK_go.out 2; have q_3 : w4.cell? ⟨go, 3, none⟩ = some (.int .i64 o.f3) := bc_ BK_go.out 3; have q_4 : w4.cell? ⟨go, 4, none⟩ = some (.slice A4 o.f4.length c4) := bc_ BK_go.out 4; have q_5 : w4.cell? ⟨go, 5, none⟩ = some (.int .i64 o.f5.f0) := bc_ BK_go.out 5; have q_6 : w4.cell? ⟨go, 6, none⟩ = some (.int .i64 o.f5.f1) := bc_ BK_go.out 6; have q_7 : w4.cell? ⟨go, 7, none⟩ = some (.string o.f5.f2) := bc_ BK_go.out 7; have q_8 : w4.cell? ⟨go, 8, none⟩ = some (.int .i64 o.f6) := bc_ BK_go.out 8; have q_9 : w4.cell? ⟨go, 9, none⟩ = some (.int .i64 o.f7) := bc_ BK_go.out 9))
        go_meet
        exact ⟨by first | rfl | (simp only [badD, h1, h2, h3, h4, bL]; done), ⟨kb_ BK_gb.out⟩, ⟨kb_ BK_go.out⟩, ⟨bl_⟩⟩
    · skip
      cases h5 : inB o.f3 1 3
      rotate_left
      cases h8 : okCp o.f5.f0 o.f5.f1 o.f5.f2
      rotate_left
      cases h9 : inB o.f6 0 (wrap64 (a0_0 - 1))
      rotate_left
      cases h7 : decide ((l0_1.length : Int) < wrap64 (2 * (o.f4.length : Int)))
      cases dn
      · have hD := HDN.out.symm
        cases h12 : (o.f7 != 0)
        · have h12e : (o.f7 == 0) = true := by simpa [bne] using h12
          go_wp2_with (first
           | (go_at_call 54; (with_reducible refine (sin_c _ _ _ _).mono ?_); rintro e w' ⟨rfl, ⟨nd, rfl⟩⟩)
           | (go_at_call 56; (with_reducible refine (sval_c _ HV2.out _).mono ?_); rintro e w' ⟨rfl, ⟨nd, rfl⟩⟩)
           | (go_at_call 55; (with_reducible refine (scp_c _ _ _ HV5.out _).mono ?_); rintro e w4 ⟨rfl, hb⟩; replace HB := Aside0.mk (below_step bl_ hb); replace BK_gb := bb_ BK_gb hb; replace BK_go := bb_ BK_go hb; clear hb; clear p_0 p_1 p_2 q_0 q_1 q_2 q_3 q_4 q_5 q_6 q_7 q_8 q_9; have p_0 : w4.cell? ⟨gb, 0, none⟩ = some (.int .i64 a0_0) := bc_ BK_gb.out 0; have p_1 : w4.cell? ⟨gb, 1, none⟩ = some (.slice A0_1 l0_1.length c0_1) := bc_ BK_gb.out 1; have p_2 : w4.cell? ⟨gb, 2, none⟩ = some (.slice (some ad2) l0_2.length c0_2) := bc_ BK_gb.out 2; have q_0 : w4.cell? ⟨go, 0, none⟩ = some (.int .i64 o.f0) := bc_ BK_go.out 0; have q_1 : w4.cell? ⟨go, 1, none⟩ = some (.bool o.f1) := bc_ BK_go.out 1; have q_2 : w4.cell? ⟨go, 2, none⟩ = some (.string o.f2) := bc_ BK_go.out 2; have q_3 : w4.cell? ⟨go, 3, none⟩ = some (.int .i64 o.f3) := bc_ BK_go.out 3; have q_4 : w4.cell? ⟨go, 4, none⟩ = some (.slice A4 o.f4.length c4) := bc_ BK_go.out 4; have q_5 : w4.cell? ⟨go, 5, none⟩ = some (.int .i64 o.f5.f0) := bc_ BK_go.out 5; have q_6 : w4.cell? ⟨go, 6, none⟩ = some (.int .i64 o.f5.f1) := bc_ BK_go.out 6; have q_7 : w4.cell? ⟨go, 7, none⟩ = some (.string o.f5.f2) := bc_ BK_go.out 7; have q_8 : w4.cell? ⟨go, 8, none⟩ = some (.int .i64 o.f6) := bc_ BK_go.out 8; have q_9 : w4.cell? ⟨go, 9, none⟩ = some (.int .i64 o.f7) := bc_ BK_go.out 9))
          go_meet
          exact ⟨by first | rfl | (simp only [badD, h1, h2, h3, h5, h8, h9, h7, hD, h12, bL]; done), ⟨kb_ BK_gb.out⟩, ⟨kb_ BK_go.out⟩, ⟨bl_⟩⟩
        · have h12e : (o.f7 == 0) = false := by simpa [bne] using h12
          go_wp2_with (first
           | (go_at_call 54; (with_reducible refine (sin_c _ _ _ _).mono ?_); rintro e w' ⟨rfl, ⟨nd, rfl⟩⟩)
           | (go_at_call 56; (with_reducible refine (sval_c _ HV2.out _).mono ?_); rintro e w' ⟨rfl, ⟨nd, rfl⟩⟩)
           | (go_at_call 55; (with_reducible refine (scp_c _ _ _ HV5.out _).mono ?_); rintro e w4 ⟨rfl, hb⟩; replace HB := Aside0.mk (below_step bl_ hb); replace BK_gb := bb_ BK_gb hb; replace BK_go := bb_ BK_go hb; clear hb; clear p_0 p_1 p_2 q_0 q_1 q_2 q_3 q_4 q_5 q_6 q_7 q_8 q_9; have p_0 : w4.cell? ⟨gb, 0, none⟩ = some (.int .i64 a0_0) := bc_ BK_gb.out 0; have p_1 : w4.cell? ⟨gb, 1, none⟩ = some (.slice A0_1 l0_1.length c0_1) := bc_ BK_gb.out 1; have p_2 : w4.cell? ⟨gb, 2, none⟩ = some (.slice (some ad2) l0_2.length c0_2) := bc_ BK_gb.out 2; have q_0 : w4.cell? ⟨go, 0, none⟩ = some (.int .i64 o.f0) := bc_ BK_go.out 0; have q_1 : w4.cell? ⟨go, 1, none⟩ = some (.bool o.f1) := bc_ BK_go.out 1; have q_2 : w4.cell? ⟨go, 2, none⟩ = some (.string o.f2) := bc_ BK_go.out 2; have q_3 : w4.cell? ⟨go, 3, none⟩ = some (.int .i64 o.f3) := bc_ BK_go.out 3; have q_4 : w4.cell? ⟨go, 4, none⟩ = some (.slice A4 o.f4.length c4) := bc_ BK_go.out 4; have q_5 : w4.cell? ⟨go, 5, none⟩ = some (.int .i64 o.f5.f0) := bc_ BK_go.out 5; have q_6 : w4.cell? ⟨go, 6, none⟩ = some (.int .i64 o.f5.f1) := bc_ BK_go.out 6; have q_7 : w4.cell? ⟨go, 7, none⟩ = some (.string o.f5.f2) := bc_ BK_go.out 7; have q_8 : w4.cell? ⟨go, 8, none⟩ = some (.int .i64 o.f6) := bc_ BK_go.out 8; have q_9 : w4.cell? ⟨go, 9, none⟩ = some (.int .i64 o.f7) := bc_ BK_go.out 9))
          go_meet
          exact ⟨by first | rfl | (simp only [badD, h1, h2, h3, h5, h8, h9, h7, hD, h12, bL]; done), ⟨kb_ BK_gb.out⟩, ⟨kb_ BK_go.out⟩, ⟨bl_⟩⟩
      · have hD := HDN.out.symm
        cases h10 : decide (0 < (o.f4.length : Int))
        · have h10b : decide (0 < o.f4.length) = false := by have q := of_decide_eq_false h10; exact decide_eq_false (by omega)
          cases h11 : inB o.f7 (wrap64 (o.f6 + 1)) (wrap64 (a0_0 - 1))
          all_goals as_aux_lemma =>
           go_wp2_with (first
            | (go_at_call 54; (with_reducible refine (sin_c _ _ _ _).mono ?_); rintro e w' ⟨rfl, ⟨nd, rfl⟩⟩)
            | (go_at_call 56; (with_reducible refine (sval_c _ HV2.out _).mono ?_); rintro e w' ⟨rfl, ⟨nd, rfl⟩⟩)
            | (go_at_call 55; (with_reducible refine (scp_c _ _ _ HV5.out _).mono ?_); rintro e w4 ⟨rfl, hb⟩; replace HB := Aside0.mk (below_step bl_ hb); replace BK_gb := bb_ BK_gb hb; replace BK_go := bb_ BK_go hb; clear hb; clear p_0 p_1 p_2 q_0 q_1 q_2 q_3 q_4 q_5 q_6 q_7 q_8 q_9; have p_0 : w4.cell? ⟨gb, 0, none⟩ = some (.int .i64 a0_0) := bc_ BK_gb.out 0; have p_1 : w4.cell? ⟨gb, 1, none⟩ = some (.slice A0_1 l0_1.length c0_1) := bc_ BK_gb.out 1; have p_2 : w4.cell? ⟨gb, 2, none⟩ = some (.slice (some ad2) l0_2.length c0_2) := bc_ BK_gb.out 2; have q_0 : w4.cell? ⟨go, 0, none⟩ = some (.int .i64 o.f0) := bc_ BK_go.out 0; have q_1 : w4.cell? ⟨go, 1, none⟩ = some (.bool o.f1) := bc_ BK_go.out 1; have q_2 : w4.cell? ⟨go, 2, none⟩ = some (.string o.f2) := bc_ BK_go.out 2; have q_3 : w4.cell? ⟨go, 3, none⟩ = some (.int .i64 o.f3) := bc_ BK_go.out 3; have q_4 : w4.cell? ⟨go, 4, none⟩ = some (.slice A4 o.f4.length c4) := bc_ BK_go.out 4; have q_5 : w4.cell? ⟨go, 5, none⟩ = some (.int .i64 o.f5.f0) := bc_ BK_go.out 5; have q_6 : w4.cell? ⟨go, 6, none⟩ = some (.int .i64 o.f5.f1) := bc_ BK_go.out 6; have q_7 : w4.cell? ⟨go, 7, none⟩ = some (.string o.f5.f2) := bc_ BK_go.out 7; have q_8 : w4.cell? ⟨go, 8, none⟩ = some (.int .i64 o.f6) := bc_ BK_go.out 8; have q_9 : w4.cell? ⟨go, 9, none⟩ = some (.int .i64 o.f7) := bc_ BK_go.out 9))
           go_meet
           exact ⟨by first | rfl | (simp only [badD, h1, h2, h3, h5, h8, h9, h7, hD, h10, h11, bL]; done), ⟨kb_ BK_gb.out⟩, ⟨kb_ BK_go.out⟩, ⟨bl_⟩⟩
        · have h10b : decide (0 < o.f4.length) = true := by have q := of_decide_eq_true h10; exact decide_eq_true (by omega)
          go_wp2_with (first
           | (go_at_call 54; (with_reducible refine (sin_c _ _ _ _).mono ?_); rintro e w' ⟨rfl, ⟨nd, rfl⟩⟩)
           | (go_at_call 56; (with_reducible refine (sval_c _ HV2.out _).mono ?_); rintro e w' ⟨rfl, ⟨nd, rfl⟩⟩)
           | (go_at_call 55; (with_reducible refine (scp_c _ _ _ HV5.out _).mono ?_); rintro e w4 ⟨rfl, hb⟩; replace HB := Aside0.mk (below_step bl_ hb); replace BK_gb := bb_ BK_gb hb; replace BK_go := bb_ BK_go hb; clear hb; clear p_0 p_1 p_2 q_0 q_1 q_2 q_3 q_4 q_5 q_6 q_7 q_8 q_9; have p_0 : w4.cell? ⟨gb, 0, none⟩ = some (.int .i64 a0_0) := bc_ BK_gb.out 0; have p_1 : w4.cell? ⟨gb, 1, none⟩ = some (.slice A0_1 l0_1.length c0_1) := bc_ BK_gb.out 1; have p_2 : w4.cell? ⟨gb, 2, none⟩ = some (.slice (some ad2) l0_2.length c0_2) := bc_ BK_gb.out 2; have q_0 : w4.cell? ⟨go, 0, none⟩ = some (.int .i64 o.f0) := bc_ BK_go.out 0; have q_1 : w4.cell? ⟨go, 1, none⟩ = some (.bool o.f1) := bc_ BK_go.out 1; have q_2 : w4.cell? ⟨go, 2, none⟩ = some (.string o.f2) := bc_ BK_go.out 2; have q_3 : w4.cell? ⟨go, 3, none⟩ = some (.int .i64 o.f3) := bc_ BK_go.out 3; have q_4 : w4.cell? ⟨go, 4, none⟩ = some (.slice A4 o.f4.length c4) := bc_ BK_go.out 4; have q_5 : w4.cell? ⟨go, 5, none⟩ = some (.int .i64 o.f5.f0) := bc_ BK_go.out 5; have q_6 : w4.cell? ⟨go, 6, none⟩ = some (.int .i64 o.f5.f1) := bc_ BK_go.out 6; have q_7 : w4.cell? ⟨go, 7, none⟩ = some (.string o.f5.f2) := bc_ BK_go.out 7; have q_8 : w4.cell? ⟨go, 8, none⟩ = some (.int .i64 o.f6) := bc_ BK_go.out 8; have q_9 : w4.cell? ⟨go, 9, none⟩ = some (.int .i64 o.f7) := bc_ BK_go.out 9))
          go_meet
          exact ⟨by first | rfl | (simp only [badD, h1, h2, h3, h5, h8, h9, h7, hD, h10, bL]; done), ⟨kb_ BK_gb.out⟩, ⟨kb_ BK_go.out⟩, ⟨bl_⟩⟩
      all_goals as_aux_lemma =>
       go_wp2_with (first
        | (go_at_call 54; (with_reducible refine (sin_c _ _ _ _).mono ?_); rintro e w' ⟨rfl, ⟨nd, rfl⟩⟩)
        | (go_at_call 56; (with_reducible refine (sval_c _ HV2.out _).mono ?_); rintro e w' ⟨rfl, ⟨nd, rfl⟩⟩)
        | (go_at_call 55; (with_reducible refine (scp_c _ _ _ HV5.out _).mono ?_); rintro e w4 ⟨rfl, hb⟩; replace HB := Aside0.mk (below_step bl_ hb); replace BK_gb := bb_ BK_gb hb; replace BK_go := bb_ BK_go hb; clear hb; clear p_0 p_1 p_2 q_0 q_1 q_2 q_3 q_4 q_5 q_6 q_7 q_8 q_9; have p_0 : w4.cell? ⟨gb, 0, none⟩ = some (.int .i64 a0_0) := bc_ BK_gb.out 0; have p_1 : w4.cell? ⟨gb, 1, none⟩ = some (.slice A0_1 l0_1.length c0_1) := bc_ BK_gb.out 1; have p_2 : w4.cell? ⟨gb, 2, none⟩ = some (.slice (some ad2) l0_2.length c0_2) := bc_ BK_gb.out 2; have q_0 : w4.cell? ⟨go, 0, none⟩ = some (.int .i64 o.f0) := bc_ BK_go.out 0; have q_1 : w4.cell? ⟨go, 1, none⟩ = some (.bool o.f1) := bc_ BK_go.out 1; have q_2 : w4.cell? ⟨go, 2, none⟩ = some (.string o.f2) := bc_ BK_go.out 2; have q_3 : w4.cell? ⟨go, 3, none⟩ = some (.int .i64 o.f3) := bc_ BK_go.out 3; have q_4 : w4.cell? ⟨go, 4, none⟩ = some (.slice A4 o.f4.length c4) := bc_ BK_go.out 4; have q_5 : w4.cell? ⟨go, 5, none⟩ = some (.int .i64 o.f5.f0) := bc_ BK_go.out 5; have q_6 : w4.cell? ⟨go, 6, none⟩ = some (.int .i64 o.f5.f1) := bc_ BK_go.out 6; have q_7 : w4.cell? ⟨go, 7, none⟩ = some (.string o.f5.f2) := bc_ BK_go.out 7; have q_8 : w4.cell? ⟨go, 8, none⟩ = some (.int .i64 o.f6) := bc_ BK_go.out 8; have q_9 : w4.cell? ⟨go, 9, none⟩ = some (.int .i64 o.f7) := bc_ BK_go.out 9))
       go_meet
       exact ⟨by first | rfl | (simp only [badD, h1, h2, h3, h5, h8, h9, h7, bL]; done) | (simp only [badD, h1, h2, h3, h5, h8, h9, bL]; done) | (simp only [badD, h1, h2, h3, h5, h8, bL]; done) | (simp only [badD, h1, h2, h3, h5, bL]; done), ⟨kb_ BK_gb.out⟩, ⟨kb_ BK_go.out⟩, ⟨bl_⟩⟩
    all_goals as_aux_lemma =>
     go_wp2_with (first
      | (go_at_call 54; (with_reducible refine (sin_c _ _ _ _).mono ?_); rintro e w' ⟨rfl, ⟨nd, rfl⟩⟩)
      | (go_at_call 56; (with_reducible refine (sval_c _ HV2.out _).mono ?_); rintro e w' ⟨rfl, ⟨nd, rfl⟩⟩)
      | (go_at_call 55; (with_reducible refine (scp_c _ _ _ HV5.out _).mono ?_); rintro e w4 ⟨rfl, hb⟩; replace HB := Aside0.mk (below_step bl_ hb); replace BK_gb := bb_ BK_gb hb; replace BK_go := bb_ BK_go hb; clear hb; clear p_0 p_1 p_2 q_0 q_1 q_2 q_3 q_4 q_5 q_6 q_7 q_8 q_9; have p_0 : w4.cell? ⟨gb, 0, none⟩ = some (.int .i64 a0_0) := bc_ BK_gb.out 0; have p_1 : w4.cell? ⟨gb, 1, none⟩ = some (.slice A0_1 l0_1.length c0_1) := bc_ BK_gb.out 1; have p_2 : w4.cell? ⟨gb, 2, none⟩ = some (.slice (some ad2) l0_2.length c0_2) := bc_ BK_gb.out 2; have q_0 : w4.cell? ⟨go, 0, none⟩ = some (.int .i64 o.f0) := bc_ BK_go.out 0; have q_1 : w4.cell? ⟨go, 1, none⟩ = some (.bool o.f1) := bc_ BK_go.out 1; have q_2 : w4.cell? ⟨go, 2, none⟩ = some (.string o.f2) := bc_ BK_go.out 2; have q_3 : w4.cell? ⟨go, 3, none⟩ = some (.int .i64 o.f3) := bc_ BK_go.out 3; have q_4 : w4.cell? ⟨go, 4, none⟩ = some (.slice A4 o.f4.length c4) := bc_ BK_go.out 4; have q_5 : w4.cell? ⟨go, 5, none⟩ = some (.int .i64 o.f5.f0) := bc_ BK_go.out 5; have q_6 : w4.cell? ⟨go, 6, none⟩ = some (.int .i64 o.f5.f1) := bc_ BK_go.out 6; have q_7 : w4.cell? ⟨go, 7, none⟩ = some (.string o.f5.f2) := bc_ BK_go.out 7; have q_8 : w4.cell? ⟨go, 8, none⟩ = some (.int .i64 o.f6) := bc_ BK_go.out 8; have q_9 : w4.cell? ⟨go, 9, none⟩ = some (.int .i64 o.f7) := bc_ BK_go.out 9))
     go_meet
     exact ⟨by first | rfl | (simp only [badD, h1, h2, bL]; done) | (simp only [badD, h1, bL]; done), ⟨kb_ BK_gb.out⟩, ⟨kb_ BK_go.out⟩, ⟨bl_⟩⟩
   clear BK_gb BK_go HB p_0 p_1 p_2 q_0 q_1 q_2 q_3 q_4 q_5 q_6 q_7 q_8 q_9
   obtain ⟨rfl, BK_gb, BK_go, HB⟩ := hcut
   cases hA : badD a0_0 (l0_1.length : Int) o
   rotate_left
   · have er : r = false := by rw [← HG.out, hA]; rfl
     subst er
     go_wp2
     go_ret
     exact ⟨rfl, bl_⟩
   replace HG : Aside0 ((allFrom (rise o.f4 (wrap64 ((l0_1.length : Int) - 1))) o.f4.length 0 && (allFrom (fun k => !clash o (rd_T83 l0_2 (k : Int))) i 0 && allFrom (opFine a0_0 (l0_1.length : Int) l0_2) l0_2.length (i + 1))) = r) := ⟨by have q := HG.out; rw [hA] at q; unfold risB at q; simpa using q⟩
   clear hA
   have HL4 : Aside0 (o.f4.length ≤ 9223372036854775807) := ⟨HR4.out.2.1⟩
   have p_0 : wc.cell? ⟨gb, 0, none⟩ = some (.int .i64 a0_0) := bc_ BK_gb.out 0
   have p_1 : wc.cell? ⟨gb, 1, none⟩ = some (.slice A0_1 l0_1.length c0_1) := bc_ BK_gb.out 1
   have p_2 : wc.cell? ⟨gb, 2, none⟩ = some (.slice (some ad2) l0_2.length c0_2) := bc_ BK_gb.out 2
   have q_0 : wc.cell? ⟨go, 0, none⟩ = some (.int .i64 o.f0) := bc_ BK_go.out 0
   have q_1 : wc.cell? ⟨go, 1, none⟩ = some (.bool o.f1) := bc_ BK_go.out 1
   have q_2 : wc.cell? ⟨go, 2, none⟩ = some (.string o.f2) := bc_ BK_go.out 2
   have q_3 : wc.cell? ⟨go, 3, none⟩ = some (.int .i64 o.f3) := bc_ BK_go.out 3
   have q_4 : wc.cell? ⟨go, 4, none⟩ = some (.slice A4 o.f4.length c4) := bc_ BK_go.out 4
   have q_5 : wc.cell? ⟨go, 5, none⟩ = some (.int .i64 o.f5.f0) := bc_ BK_go.out 5
   have q_6 : wc.cell? ⟨go, 6, none⟩ = some (.int .i64 o.f5.f1) := bc_ BK_go.out 6
   have q_7 : wc.cell? ⟨go, 7, none⟩ = some (.string o.f5.f2) := bc_ BK_go.out 7
   have q_8 : wc.cell? ⟨go, 8, none⟩ = some (.int .i64 o.f6) := bc_ BK_go.out 8
   have q_9 : wc.cell? ⟨go, 9, none⟩ = some (.int .i64 o.f7) := bc_ BK_go.out 9
   go_wp2
   go_loopg [138] o.f4.length (fun gg v138 w' => ∃ j : Nat, v138 = .int .i64 (j : Int) ∧ j ≤ o.f4.length ∧ o.f4.length - j ≤ gg ∧ Aside0 ((allFrom (rise o.f4 (wrap64 ((l0_1.length : Int) - 1))) o.f4.length j && (allFrom (fun k => !clash o (rd_T83 l0_2 (k : Int))) i 0 && allFrom (opFine a0_0 (l0_1.length : Int) l0_2) l0_2.length (i + 1))) = r) ∧ Aside0 (w'.heap[gb]? = some (.cells #[(.int .i64 a0_0), (.slice A0_1 l0_1.length c0_1), (.slice (some ad2) l0_2.length c0_2)] 25 (0, 0))) ∧ Aside0 (w'.heap[go]? = some (.cells #[(.int .i64 o.f0), (.bool o.f1), (.string o.f2), (.int .i64 o.f3), (.slice A4 o.f4.length c4), (.int .i64 o.f5.f0), (.int .i64 o.f5.f1), (.string o.f5.f2), (.int .i64 o.f6), (.int .i64 o.f7)] 83 (0, 0))) ∧ Aside0 (Below w.heap.size w w'))
   case atStart => exact ⟨0, rfl, Nat.zero_le _, by omega, HG, ⟨kb_ BK_gb.out⟩, ⟨kb_ BK_go.out⟩, ⟨bl_⟩⟩
   case round =>
    clear HG BK_gb BK_go HB p_0 p_1 p_2 q_0 q_1 q_2 q_3 q_4 q_5 q_6 q_7 q_8 q_9
    obtain ⟨j, rfl, hj, hgg3, HG, BK_gb, BK_go, HB⟩ := hrel
    by_cases hjl : j < o.f4.length
    · as_aux_lemma =>
      have hjz : (j : Int) < (o.f4.length : Int) := by omega
      replace HG : Aside0 ((rise o.f4 (wrap64 ((l0_1.length : Int) - 1)) j && (allFrom (rise o.f4 (wrap64 ((l0_1.length : Int) - 1))) o.f4.length (j + 1) && (allFrom (fun k => !clash o (rd_T83 l0_2 (k : Int))) i 0 && allFrom (opFine a0_0 (l0_1.length : Int) l0_2) l0_2.length (i + 1)))) = r) := ⟨by have q := HG.out; rw [allFrom_step hjl, Bool.and_assoc] at q; exact q⟩
      obtain ⟨ad4, e4, hx0⟩ := Kd.at_int HR4.out (j : Int) (by omega) hjz
      cases e4
      replace hx0 := (HB.out.cell (World.block_lt_of_cell? w _ hx0)).trans hx0
      simp only [Int.toNat_natCast] at hx0
      have p_0 : wr.cell? ⟨gb, 0, none⟩ = some (.int .i64 a0_0) := bc_ BK_gb.out 0
      have p_1 : wr.cell? ⟨gb, 1, none⟩ = some (.slice A0_1 l0_1.length c0_1) := bc_ BK_gb.out 1
      have p_2 : wr.cell? ⟨gb, 2, none⟩ = some (.slice (some ad2) l0_2.length c0_2) := bc_ BK_gb.out 2
      have q_0 : wr.cell? ⟨go, 0, none⟩ = some (.int .i64 o.f0) := bc_ BK_go.out 0
      have q_1 : wr.cell? ⟨go, 1, none⟩ = some (.bool o.f1) := bc_ BK_go.out 1
      have q_2 : wr.cell? ⟨go, 2, none⟩ = some (.string o.f2) := bc_ BK_go.out 2
      have q_3 : wr.cell? ⟨go, 3, none⟩ = some (.int .i64 o.f3) := bc_ BK_go.out 3
      have q_4 : wr.cell? ⟨go, 4, none⟩ = some (.slice (some ad4) o.f4.length c4) := bc_ BK_go.out 4
      have q_5 : wr.cell? ⟨go, 5, none⟩ = some (.int .i64 o.f5.f0) := bc_ BK_go.out 5
      have q_6 : wr.cell? ⟨go, 6, none⟩ = some (.int .i64 o.f5.f1) := bc_ BK_go.out 6
      have q_7 : wr.cell? ⟨go, 7, none⟩ = some (.string o.f5.f2) := bc_ BK_go.out 7
      have q_8 : wr.cell? ⟨go, 8, none⟩ = some (.int .i64 o.f6) := bc_ BK_go.out 8
      have q_9 : wr.cell? ⟨go, 9, none⟩ = some (.int .i64 o.f7) := bc_ BK_go.out 9
      have p1 := eq_true (show (0 : Int) ≤ (j : Int) by omega)
      have hjz2 := eq_true hjz
      go_upto_region 18 with (fail)
      (try simp only [Act.put, List.setIfInBounds_toArray, List.set_cons_zero, List.set_cons_succ])
      go_cut [163] (fun v163 wc => v163 = .bool (!rise o.f4 (wrap64 ((l0_1.length : Int) - 1)) j) ∧ Aside0 (wc.heap[gb]? = some (.cells #[(.int .i64 a0_0), (.slice A0_1 l0_1.length c0_1), (.slice (some ad2) l0_2.length c0_2)] 25 (0, 0))) ∧ Aside0 (wc.heap[go]? = some (.cells #[(.int .i64 o.f0), (.bool o.f1), (.string o.f2), (.int .i64 o.f3), (.slice (some ad4) o.f4.length c4), (.int .i64 o.f5.f0), (.int .i64 o.f5.f1), (.string o.f5.f2), (.int .i64 o.f6), (.int .i64 o.f7)] 83 (0, 0))) ∧ Aside0 (Below w.heap.size w wc))
      case first =>
       as_aux_lemma =>
       cases h1 : inB (rd o.f4 (j : Int)) 0 (wrap64 ((l0_1.length : Int) - 1))
       · go_wp2_with (go_at_call 54; (with_reducible refine (sin_c _ _ _ _).mono ?_); rintro e w' ⟨rfl, ⟨nd, rfl⟩⟩)
         go_meet
         exact ⟨by unfold rise; rw [h1]; rfl, ⟨kb_ BK_gb.out⟩, ⟨kb_ BK_go.out⟩, ⟨bl_⟩⟩
       by_cases hj0 : j = 0
       · subst hj0
         go_wp2_with (go_at_call 54; (with_reducible refine (sin_c _ _ _ _).mono ?_); rintro e w' ⟨rfl, ⟨nd, rfl⟩⟩)
         go_meet
         exact ⟨by unfold rise; rw [h1]; rfl, ⟨kb_ BK_gb.out⟩, ⟨kb_ BK_go.out⟩, ⟨bl_⟩⟩
       have dj : decide (0 < (j : Int)) = true := decide_eq_true (by omega)
       have dj2 : decide (0 < j) = true := decide_eq_true (by omega)
       obtain ⟨ji, hji⟩ : ∃ z : Int, wrap64 ((j : Int) - 1) = z := ⟨_, rfl⟩
       have HJ : Aside0 (ji = (j : Int) - 1) := ⟨by rw [← hji]; exact w64 (by omega) (by have := HL4.out; omega)⟩
       have hjiw : IntKind.i64.wrap ((j : Int) - 1) = ji := (i64_w _).trans hji
       have k0 : 0 ≤ ji := by have := HJ.out; omega
       have k1 : ji < (o.f4.length : Int) := by have := HJ.out; omega
       obtain ⟨ad5, e5, hx1⟩ := Kd.at_int HR4.out ji k0 k1
       cases e5
       replace hx1 := (HB.out.cell (World.block_lt_of_cell? w _ hx1)).trans hx1
       have k0d : decide (0 ≤ ji) = true := decide_eq_true k0
       have k1d : decide (ji < (o.f4.length : Int)) = true := decide_eq_true k1
       replace k0 := eq_true k0
       replace k1 := eq_true k1
       go_wp2_with (go_at_call 54; (with_reducible refine (sin_c _ _ _ _).mono ?_); rintro e w' ⟨rfl, ⟨nd, rfl⟩⟩)
       go_meet
       exact ⟨by rw [rise_no h1 hj0, ← HJ.out], ⟨kb_ BK_gb.out⟩, ⟨kb_ BK_go.out⟩, ⟨bl_⟩⟩
      clear BK_gb BK_go HB p_0 p_1 p_2 q_0 q_1 q_2 q_3 q_4 q_5 q_6 q_7 q_8 q_9 hx0
      obtain ⟨rfl, BK_gb, BK_go, HB⟩ := hcut
      cases hA : rise o.f4 (wrap64 ((l0_1.length : Int) - 1)) j
      · have er : r = false := by rw [← HG.out, hA]; rfl
        subst er
        go_wp2
        go_ret
        exact ⟨rfl, bl_⟩
      replace HG : Aside0 ((allFrom (rise o.f4 (wrap64 ((l0_1.length : Int) - 1))) o.f4.length (j + 1) && (allFrom (fun k => !clash o (rd_T83 l0_2 (k : Int))) i 0 && allFrom (opFine a0_0 (l0_1.length : Int) l0_2) l0_2.length (i + 1))) = r) := ⟨by have q := HG.out; rw [hA] at q; simpa using q⟩
      go_wp2
      go_roundg (o.f4.length - (j + 1))
      case measure => omega
      case rel => exact ⟨j + 1, by rw [w64_succ hjl HL4.out], by omega, by omega, HG, ⟨kb_ BK_gb.out⟩, ⟨kb_ BK_go.out⟩, ⟨bl_⟩⟩
    have ej : j = o.f4.length := by omega
    subst ej
    replace HG : Aside0 ((allFrom (fun k => !clash o (rd_T83 l0_2 (k : Int))) i 0 && allFrom (opFine a0_0 (l0_1.length : Int) l0_2) l0_2.length (i + 1)) = r) := ⟨by have q := HG.out; rw [allFrom_end] at q; simpa using q⟩
    clear hj hgg3 hjl
    obtain ⟨i0, hi0, _, _, _⟩ := info_parts info83
    have hcut2 := cut_to (P := Try.prog) 23 83 .i64 Try.underlying23 hi0 (some ad2) l0_2.length c0_2 (i : Int) (by omega) (by omega) HC0_2.out
    simp only [Int.toNat_natCast] at hcut2
    have p_0 : wr.cell? ⟨gb, 0, none⟩ = some (.int .i64 a0_0) := bc_ BK_gb.out 0
    have p_1 : wr.cell? ⟨gb, 1, none⟩ = some (.slice A0_1 l0_1.length c0_1) := bc_ BK_gb.out 1
    have p_2 : wr.cell? ⟨gb, 2, none⟩ = some (.slice (some ad2) l0_2.length c0_2) := bc_ BK_gb.out 2
    have q_0 : wr.cell? ⟨go, 0, none⟩ = some (.int .i64 o.f0) := bc_ BK_go.out 0
    have q_1 : wr.cell? ⟨go, 1, none⟩ = some (.bool o.f1) := bc_ BK_go.out 1
    have q_2 : wr.cell? ⟨go, 2, none⟩ = some (.string o.f2) := bc_ BK_go.out 2
    have q_3 : wr.cell? ⟨go, 3, none⟩ = some (.int .i64 o.f3) := bc_ BK_go.out 3
    have q_4 : wr.cell? ⟨go, 4, none⟩ = some (.slice A4 o.f4.length c4) := bc_ BK_go.out 4
    have q_5 : wr.cell? ⟨go, 5, none⟩ = some (.int .i64 o.f5.f0) := bc_ BK_go.out 5
    have q_6 : wr.cell? ⟨go, 6, none⟩ = some (.int .i64 o.f5.f1) := bc_ BK_go.out 6
    have q_7 : wr.cell? ⟨go, 7, none⟩ = some (.string o.f5.f2) := bc_ BK_go.out 7
    have q_8 : wr.cell? ⟨go, 8, none⟩ = some (.int .i64 o.f6) := bc_ BK_go.out 8
    have q_9 : wr.cell? ⟨go, 9, none⟩ = some (.int .i64 o.f7) := bc_ BK_go.out 9
    go_wp2
    go_loopg [170] i (fun gg v170 w' => ∃ k : Nat, v170 = .int .i64 (k : Int) ∧ k ≤ i ∧ i - k ≤ gg ∧ Aside0 ((allFrom (fun k => !clash o (rd_T83 l0_2 (k : Int))) i k && allFrom (opFine a0_0 (l0_1.length : Int) l0_2) l0_2.length (i + 1)) = r) ∧ Aside0 (w'.heap[gb]? = some (.cells #[(.int .i64 a0_0), (.slice A0_1 l0_1.length c0_1), (.slice (some ad2) l0_2.length c0_2)] 25 (0, 0))) ∧ Aside0 (w'.heap[go]? = some (.cells #[(.int .i64 o.f0), (.bool o.f1), (.string o.f2), (.int .i64 o.f3), (.slice A4 o.f4.length c4), (.int .i64 o.f5.f0), (.int .i64 o.f5.f1), (.string o.f5.f2), (.int .i64 o.f6), (.int .i64 o.f7)] 83 (0, 0))) ∧ Aside0 (Below w.heap.size w w'))
    case atStart => exact ⟨0, rfl, Nat.zero_le _, by omega, HG, ⟨kb_ BK_gb.out⟩, ⟨kb_ BK_go.out⟩, ⟨bl_⟩⟩
    case round =>
     clear HG BK_gb BK_go HB hcut2 p_0 p_1 p_2 q_0 q_1 q_2 q_3 q_4 q_5 q_6 q_7 q_8 q_9
     obtain ⟨k, rfl, hk, hgg4, HG, BK_gb, BK_go, HB⟩ := hrel
     by_cases hkl : k < i
     rotate_left
     · as_aux_lemma =>
       have ek : k = i := by omega
       subst ek
       replace HG : Aside0 (allFrom (opFine a0_0 (l0_1.length : Int) l0_2) l0_2.length (k + 1) = r) := ⟨by have q := HG.out; rw [allFrom_end] at q; simpa using q⟩
       go_wp2
       go_roundg (l0_2.length - (k + 1))
       case measure => omega
       case rel => exact ⟨k + 1, by rw [w64_succ hlt HL.out], by omega, by omega, HG, ⟨kb_ BK_gb.out⟩, ⟨bl_⟩⟩
     have hkz : (k : Int) < (l0_2.length : Int) := by omega
     have hki : (k : Int) < (i : Int) := by omega
     replace HG : Aside0 ((!clash o (rd_T83 l0_2 (k : Int)) && (allFrom (fun k => !clash o (rd_T83 l0_2 (k : Int))) i (k + 1) && allFrom (opFine a0_0 (l0_1.length : Int) l0_2) l0_2.length (i + 1))) = r) := ⟨by have q := HG.out; rw [allFrom_step hkl, Bool.and_assoc] at q; exact q⟩
     obtain ⟨ad3, B4, d4, e3, hx0, hx1, hx2, hx3, hx4, hx5, hx6, hx7, hx8, hx9, ml4, mi4⟩ := at_T83 HR0_2.out (k : Int) (by omega) hkz
     cases e3
     replace hx0 := (HB.out.cell (World.block_lt_of_cell? w _ hx0)).trans hx0
     replace hx1 := (HB.out.cell (World.block_lt_of_cell? w _ hx1)).trans hx1
     replace hx2 := (HB.out.cell (World.block_lt_of_cell? w _ hx2)).trans hx2
     replace hx3 := (HB.out.cell (World.block_lt_of_cell? w _ hx3)).trans hx3
     replace hx4 := (HB.out.cell (World.block_lt_of_cell? w _ hx4)).trans hx4
     replace hx5 := (HB.out.cell (World.block_lt_of_cell? w _ hx5)).trans hx5
     replace hx6 := (HB.out.cell (World.block_lt_of_cell? w _ hx6)).trans hx6
     replace hx7 := (HB.out.cell (World.block_lt_of_cell? w _ hx7)).trans hx7
     replace hx8 := (HB.out.cell (World.block_lt_of_cell? w _ hx8)).trans hx8
     replace hx9 := (HB.out.cell (World.block_lt_of_cell? w _ hx9)).trans hx9
     simp only [Int.toNat_natCast] at hx0 hx1 hx2 hx3 hx4 hx5 hx6 hx7 hx8 hx9
     generalize hq : rd_T83 l0_2 (k : Int) = x at HG hx0 hx1 hx2 hx3 hx4 hx5 hx6 hx7 hx8 hx9 ml4 mi4
     clear hq ml4 mi4
     have p1 := eq_true (show (0 : Int) ≤ (k : Int) by omega)
     replace hkz := eq_true hkz
     replace hki := eq_true hki
     go_upto_region 23 with (fail)
     (try simp only [Act.put, List.setIfInBounds_toArray, List.set_cons_zero, List.set_cons_succ])
     go_cut [11] (fun v11 wc => ∃ gx : Nat, v11 = .pointer (some ⟨gx, 0, none⟩) ∧ Aside0 (wc.heap[gb]? = some (.cells #[(.int .i64 a0_0), (.slice A0_1 l0_1.length c0_1), (.slice (some ad2) l0_2.length c0_2)] 25 (0, 0))) ∧ Aside0 (wc.heap[go]? = some (.cells #[(.int .i64 o.f0), (.bool o.f1), (.string o.f2), (.int .i64 o.f3), (.slice A4 o.f4.length c4), (.int .i64 o.f5.f0), (.int .i64 o.f5.f1), (.string o.f5.f2), (.int .i64 o.f6), (.int .i64 o.f7)] 83 (0, 0))) ∧ Aside0 (wc.heap[gx]? = some (.cells #[(.int .i64 x.f0), (.bool x.f1), (.string x.f2), (.int .i64 x.f3), (.slice B4 x.f4.length d4), (.int .i64 x.f5.f0), (.int .i64 x.f5.f1), (.string x.f5.f2), (.int .i64 x.f6), (.int .i64 x.f7)] 83 (0, 0))) ∧ Aside0 (Below w.heap.size w wc))
     case first =>
      go_wp2_with ((with_reducible refine gate_dst (N := 11) rfl ?_); (try (refine gate_guard (by rfl) ?_; dsimp only)); refine box_event rfl (N := 11) rfl (cs := #[(.int .i64 0), (.bool false), (.string (⟨#[]⟩ : ByteArray)), (.int .i64 0), (.slice none 0 0), (.int .i64 0), (.int .i64 0), (.string (⟨#[]⟩ : ByteArray)), (.int .i64 0), (.int .i64 0)]) (t := 83) gs_ ?_; intro gx hg w22 hbox hb; have BK_gx := Aside0.mk (hbox); have GE_gx := Aside0.mk ((by rw [hg]; exact bz_ : w.heap.size ≤ gx)); replace HB := Aside0.mk (below_step bl_ hb); have NB_BK_gb_gx := nl_ hg BK_gb; have nb_BK_gb_gx := NB_BK_gb_gx.out; have nc_BK_gb_gx := nb_BK_gb_gx.symm; replace BK_gb := bb_ BK_gb hb; have NB_BK_go_gx := nl_ hg BK_go; have nb_BK_go_gx := NB_BK_go_gx.out; have nc_BK_go_gx := nb_BK_go_gx.symm; replace BK_go := bb_ BK_go hb; clear hb hbox hg; have y_0 : w22.cell? ⟨gx, 0, none⟩ = some (.int .i64 0) := bc_ BK_gx.out 0; have yf_0 := blk_frozen BK_gx.out 0; have y_1 : w22.cell? ⟨gx, 1, none⟩ = some (.bool false) := bc_ BK_gx.out 1; have yf_1 := blk_frozen BK_gx.out 1; have y_2 : w22.cell? ⟨gx, 2, none⟩ = some (.string (⟨#[]⟩ : ByteArray)) := bc_ BK_gx.out 2; have yf_2 := blk_frozen BK_gx.out 2; have y_3 : w22.cell? ⟨gx, 3, none⟩ = some (.int .i64 0) := bc_ BK_gx.out 3; have yf_3 := blk_frozen BK_gx.out 3; have y_4 : w22.cell? ⟨gx, 4, none⟩ = some (.slice none 0 0) := bc_ BK_gx.out 4; have yf_4 := blk_frozen BK_gx.out 4; have y_5 : w22.cell? ⟨gx, 5, none⟩ = some (.int .i64 0) := bc_ BK_gx.out 5; have yf_5 := blk_frozen BK_gx.out 5; have y_6 : w22.cell? ⟨gx, 6, none⟩ = some (.int .i64 0) := bc_ BK_gx.out 6; have yf_6 := blk_frozen BK_gx.out 6; have y_7 : w22.cell? ⟨gx, 7, none⟩ = some (.string (⟨#[]⟩ : ByteArray)) := bc_ BK_gx.out 7; have yf_7 := blk_frozen BK_gx.out 7; have y_8 : w22.cell? ⟨gx, 8, none⟩ = some (.int .i64 0) := bc_ BK_gx.out 8; have yf_8 := blk_frozen BK_gx.out 8; have y_9 : w22.cell? ⟨gx, 9, none⟩ = some (.int .i64 0) := bc_ BK_gx.out 9; have yf_9 := blk_frozen BK_gx.out 9)
      go_meet
      exact ⟨gx, rfl, ⟨kz_⟩, ⟨kz_⟩, ⟨by refine blk_put (cs := #[(.int .i64 x.f0), (.bool x.f1), (.string x.f2), (.int .i64 x.f3), (.slice B4 x.f4.length d4), (.int .i64 x.f5.f0), (.int .i64 x.f5.f1), (.string x.f5.f2), (.int .i64 x.f6), (.int .i64 0)]) ?_ 9 _ rfl; refine blk_put (cs := #[(.int .i64 x.f0), (.bool x.f1), (.string x.f2), (.int .i64 x.f3), (.slice B4 x.f4.length d4), (.int .i64 x.f5.f0), (.int .i64 x.f5.f1), (.string x.f5.f2), (.int .i64 0), (.int .i64 0)]) ?_ 8 _ rfl; refine blk_put (cs := #[(.int .i64 x.f0), (.bool x.f1), (.string x.f2), (.int .i64 x.f3), (.slice B4 x.f4.length d4), (.int .i64 x.f5.f0), (.int .i64 x.f5.f1), (.string (⟨#[]⟩ : ByteArray)), (.int .i64 0), (.int .i64 0)]) ?_ 7 _ rfl; refine blk_put (cs := #[(.int .i64 x.f0), (.bool x.f1), (.string x.f2), (.int .i64 x.f3), (.slice B4 x.f4.length d4), (.int .i64 x.f5.f0), (.int .i64 0), (.string (⟨#[]⟩ : ByteArray)), (.int .i64 0), (.int .i64 0)]) ?_ 6 _ rfl; refine blk_put (cs := #[(.int .i64 x.f0), (.bool x.f1), (.string x.f2), (.int .i64 x.f3), (.slice B4 x.f4.length d4), (.int .i64 0), (.int .i64 0), (.string (⟨#[]⟩ : ByteArray)), (.int .i64 0), (.int .i64 0)]) ?_ 5 _ rfl; refine blk_put (cs := #[(.int .i64 x.f0), (.bool x.f1), (.string x.f2), (.int .i64 x.f3), (.slice none 0 0), (.int .i64 0), (.int .i64 0), (.string (⟨#[]⟩ : ByteArray)), (.int .i64 0), (.int .i64 0)]) ?_ 4 _ rfl; refine blk_put (cs := #[(.int .i64 x.f0), (.bool x.f1), (.string x.f2), (.int .i64 0), (.slice none 0 0), (.int .i64 0), (.int .i64 0), (.string (⟨#[]⟩ : ByteArray)), (.int .i64 0), (.int .i64 0)]) ?_ 3 _ rfl; refine blk_put (cs := #[(.int .i64 x.f0), (.bool x.f1), (.string (⟨#[]⟩ : ByteArray)), (.int .i64 0), (.slice none 0 0), (.int .i64 0), (.int .i64 0), (.string (⟨#[]⟩ : ByteArray)), (.int .i64 0), (.int .i64 0)]) ?_ 2 _ rfl; refine blk_put (cs := #[(.int .i64 x.f0), (.bool false), (.string (⟨#[]⟩ : ByteArray)), (.int .i64 0), (.slice none 0 0), (.int .i64 0), (.int .i64 0), (.string (⟨#[]⟩ : ByteArray)), (.int .i64 0), (.int .i64 0)]) ?_ 1 _ rfl; refine blk_put (cs := #[(.int .i64 0), (.bool false), (.string (⟨#[]⟩ : ByteArray)), (.int .i64 0), (.slice none 0 0), (.int .i64 0), (.int .i64 0), (.string (⟨#[]⟩ : ByteArray)), (.int .i64 0), (.int .i64 0)]) ?_ 0 _ rfl; exact BK_gx.out⟩, ⟨bl_⟩⟩
     clear hx0 hx1 hx2 hx3 hx4 hx5 hx6 hx7 hx8 hx9 BK_gb BK_go HB
     obtain ⟨gx, rfl, BK_gb, BK_go, BK_gx, HB⟩ := hcut
     have q_0 : wc.cell? ⟨go, 0, none⟩ = some (.int .i64 o.f0) := bc_ BK_go.out 0
     have q_1 : wc.cell? ⟨go, 1, none⟩ = some (.bool o.f1) := bc_ BK_go.out 1
     have q_2 : wc.cell? ⟨go, 2, none⟩ = some (.string o.f2) := bc_ BK_go.out 2
     have q_3 : wc.cell? ⟨go, 3, none⟩ = some (.int .i64 o.f3) := bc_ BK_go.out 3
     have q_4 : wc.cell? ⟨go, 4, none⟩ = some (.slice A4 o.f4.length c4) := bc_ BK_go.out 4
     have q_5 : wc.cell? ⟨go, 5, none⟩ = some (.int .i64 o.f5.f0) := bc_ BK_go.out 5
     have q_6 : wc.cell? ⟨go, 6, none⟩ = some (.int .i64 o.f5.f1) := bc_ BK_go.out 6
     have q_7 : wc.cell? ⟨go, 7, none⟩ = some (.string o.f5.f2) := bc_ BK_go.out 7
     have q_8 : wc.cell? ⟨go, 8, none⟩ = some (.int .i64 o.f6) := bc_ BK_go.out 8
     have q_9 : wc.cell? ⟨go, 9, none⟩ = some (.int .i64 o.f7) := bc_ BK_go.out 9
     have y_0 : wc.cell? ⟨gx, 0, none⟩ = some (.int .i64 x.f0) := bc_ BK_gx.out 0
     have y_1 : wc.cell? ⟨gx, 1, none⟩ = some (.bool x.f1) := bc_ BK_gx.out 1
     have y_2 : wc.cell? ⟨gx, 2, none⟩ = some (.string x.f2) := bc_ BK_gx.out 2
     have y_3 : wc.cell? ⟨gx, 3, none⟩ = some (.int .i64 x.f3) := bc_ BK_gx.out 3
     have y_4 : wc.cell? ⟨gx, 4, none⟩ = some (.slice B4 x.f4.length d4) := bc_ BK_gx.out 4
     have y_5 : wc.cell? ⟨gx, 5, none⟩ = some (.int .i64 x.f5.f0) := bc_ BK_gx.out 5
     have y_6 : wc.cell? ⟨gx, 6, none⟩ = some (.int .i64 x.f5.f1) := bc_ BK_gx.out 6
     have y_7 : wc.cell? ⟨gx, 7, none⟩ = some (.string x.f5.f2) := bc_ BK_gx.out 7
     have y_8 : wc.cell? ⟨gx, 8, none⟩ = some (.int .i64 x.f6) := bc_ BK_gx.out 8
     have y_9 : wc.cell? ⟨gx, 9, none⟩ = some (.int .i64 x.f7) := bc_ BK_gx.out 9
     go_upto_region 24 with (fail)
     (try simp only [Act.put, List.setIfInBounds_toArray, List.set_cons_zero, List.set_cons_succ])
     go_cut [226] (fun v226 wc => v226 = .bool (clash o x) ∧ Aside0 (wc.heap[gb]? = some (.cells #[(.int .i64 a0_0), (.slice A0_1 l0_1.length c0_1), (.slice (some ad2) l0_2.length c0_2)] 25 (0, 0))) ∧ Aside0 (wc.heap[go]? = some (.cells #[(.int .i64 o.f0), (.bool o.f1), (.string o.f2), (.int .i64 o.f3), (.slice A4 o.f4.length c4), (.int .i64 o.f5.f0), (.int .i64 o.f5.f1), (.string o.f5.f2), (.int .i64 o.f6), (.int .i64 o.f7)] 83 (0, 0))) ∧ Aside0 (wc.heap[gx]? = some (.cells #[(.int .i64 x.f0), (.bool x.f1), (.string x.f2), (.int .i64 x.f3), (.slice B4 x.f4.length d4), (.int .i64 x.f5.f0), (.int .i64 x.f5.f1), (.string x.f5.f2), (.int .i64 x.f6), (.int .i64 x.f7)] 83 (0, 0))) ∧ Aside0 (Below w.heap.size w wc))
     case first =>
      as_aux_lemma =>
      cases h1 : (x.f0 == o.f0)
      · skip
        cases dn
        · have h2 := HDN.out.symm
          cases h4 : (x.f6 == o.f6)
          · skip
            cases h3 : (x.f3 == 3)
            · skip
              go_wp2
              go_meet
              exact ⟨by first | rfl | (simp only [clash, h1, h2, h4, h3, bL]; done) | (simp [clash, *]; done), ⟨kb_ BK_gb.out⟩, ⟨kb_ BK_go.out⟩, ⟨kb_ BK_gx.out⟩, ⟨bl_⟩⟩
            · skip
              cases h6 : (x.f7 == o.f6)
              all_goals
               go_wp2
               go_meet
               exact ⟨by first | rfl | (simp only [clash, h1, h2, h4, h3, h6, bL]; done) | (simp [clash, *]; done), ⟨kb_ BK_gb.out⟩, ⟨kb_ BK_go.out⟩, ⟨kb_ BK_gx.out⟩, ⟨bl_⟩⟩
          · skip
            go_wp2
            go_meet
            exact ⟨by first | rfl | (simp only [clash, h1, h2, h4, bL]; done) | (simp [clash, *]; done), ⟨kb_ BK_gb.out⟩, ⟨kb_ BK_go.out⟩, ⟨kb_ BK_gx.out⟩, ⟨bl_⟩⟩
        · have h2 := HDN.out.symm
          cases h4 : (x.f6 == o.f6)
          · skip
            cases h5 : (o.f7 == x.f6)
            · skip
              cases h3 : (x.f3 == 3)
              · skip
                go_wp2
                go_meet
                exact ⟨by first | rfl | (simp only [clash, h1, h2, h4, h5, h3, bL]; done) | (simp [clash, *]; done), ⟨kb_ BK_gb.out⟩, ⟨kb_ BK_go.out⟩, ⟨kb_ BK_gx.out⟩, ⟨bl_⟩⟩
              · skip
                cases h6 : (x.f7 == o.f6)
                all_goals
                 go_wp2
                 go_meet
                 exact ⟨by first | rfl | (simp only [clash, h1, h2, h4, h5, h3, h6, bL]; done) | (simp [clash, *]; done), ⟨kb_ BK_gb.out⟩, ⟨kb_ BK_go.out⟩, ⟨kb_ BK_gx.out⟩, ⟨bl_⟩⟩
            · skip
              go_wp2
              go_meet
              exact ⟨by first | rfl | (simp only [clash, h1, h2, h4, h5, bL]; done) | (simp [clash, *]; done), ⟨kb_ BK_gb.out⟩, ⟨kb_ BK_go.out⟩, ⟨kb_ BK_gx.out⟩, ⟨bl_⟩⟩
          · skip
            go_wp2
            go_meet
            exact ⟨by first | rfl | (simp only [clash, h1, h2, h4, bL]; done) | (simp [clash, *]; done), ⟨kb_ BK_gb.out⟩, ⟨kb_ BK_go.out⟩, ⟨kb_ BK_gx.out⟩, ⟨bl_⟩⟩
      · skip
        cases dn
        · have h2 := HDN.out.symm
          cases h3 : (x.f3 == 3)
          · have h3b : (x.f3 != 3) = true := by simp [bne, h3]
            go_wp2
            go_meet
            exact ⟨by first | rfl | (simp only [clash, h1, h2, h3, h3b, bL]; done) | (simp [clash, *]; done), ⟨kb_ BK_gb.out⟩, ⟨kb_ BK_go.out⟩, ⟨kb_ BK_gx.out⟩, ⟨bl_⟩⟩
          · have h3b : (x.f3 != 3) = false := by simp [bne, h3]
            cases h4 : (x.f6 == o.f6)
            · skip
              cases h6 : (x.f7 == o.f6)
              all_goals
               go_wp2
               go_meet
               exact ⟨by first | rfl | (simp only [clash, h1, h2, h3, h3b, h4, h6, bL]; done) | (simp [clash, *]; done), ⟨kb_ BK_gb.out⟩, ⟨kb_ BK_go.out⟩, ⟨kb_ BK_gx.out⟩, ⟨bl_⟩⟩
            · skip
              go_wp2
              go_meet
              exact ⟨by first | rfl | (simp only [clash, h1, h2, h3, h3b, h4, bL]; done) | (simp [clash, *]; done), ⟨kb_ BK_gb.out⟩, ⟨kb_ BK_go.out⟩, ⟨kb_ BK_gx.out⟩, ⟨bl_⟩⟩
        · have h2 := HDN.out.symm
          cases h4 : (x.f6 == o.f6)
          · skip
            cases h5 : (o.f7 == x.f6)
            · skip
              cases h3 : (x.f3 == 3)
              · skip
                go_wp2
                go_meet
                exact ⟨by first | rfl | (simp only [clash, h1, h2, h4, h5, h3, bL]; done) | (simp [clash, *]; done), ⟨kb_ BK_gb.out⟩, ⟨kb_ BK_go.out⟩, ⟨kb_ BK_gx.out⟩, ⟨bl_⟩⟩
              · skip
                cases h6 : (x.f7 == o.f6)
                all_goals
                 go_wp2
                 go_meet
                 exact ⟨by first | rfl | (simp only [clash, h1, h2, h4, h5, h3, h6, bL]; done) | (simp [clash, *]; done), ⟨kb_ BK_gb.out⟩, ⟨kb_ BK_go.out⟩, ⟨kb_ BK_gx.out⟩, ⟨bl_⟩⟩
            · skip
              go_wp2
              go_meet
              exact ⟨by first | rfl | (simp only [clash, h1, h2, h4, h5, bL]; done) | (simp [clash, *]; done), ⟨kb_ BK_gb.out⟩, ⟨kb_ BK_go.out⟩, ⟨kb_ BK_gx.out⟩, ⟨bl_⟩⟩
          · skip
            go_wp2
            go_meet
            exact ⟨by first | rfl | (simp only [clash, h1, h2, h4, bL]; done) | (simp [clash, *]; done), ⟨kb_ BK_gb.out⟩, ⟨kb_ BK_go.out⟩, ⟨kb_ BK_gx.out⟩, ⟨bl_⟩⟩
     clear BK_gb BK_go BK_gx HB q_0 q_1 q_2 q_3 q_4 q_5 q_6 q_7 q_8 q_9 y_0 y_1 y_2 y_3 y_4 y_5 y_6 y_7 y_8 y_9
     obtain ⟨rfl, BK_gb, BK_go, BK_gx, HB⟩ := hcut
     cases hA : clash o x
     rotate_left
     · have er : r = false := by rw [← HG.out, hA]; rfl
       subst er
       go_wp2
       go_ret
       exact ⟨rfl, bl_⟩
     replace HG : Aside0 ((allFrom (fun k => !clash o (rd_T83 l0_2 (k : Int))) i (k + 1) && allFrom (opFine a0_0 (l0_1.length : Int) l0_2) l0_2.length (i + 1)) = r) := ⟨by have q := HG.out; rw [hA] at q; simpa using q⟩
     go_wp2
     go_roundg (i - (k + 1))
     case measure => omega
     case rel => exact ⟨k + 1, by rw [w64_succ hkl (by have := HL.out; omega)], by omega, by omega, HG, ⟨kb_ BK_gb.out⟩, ⟨kb_ BK_go.out⟩, ⟨bl_⟩⟩
end Go.Proofs.Ytipfikmbldgliaa.PRG
