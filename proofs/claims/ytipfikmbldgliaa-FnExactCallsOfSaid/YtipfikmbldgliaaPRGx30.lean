/- What this text proves (a hand-built part): the machine call of spec.CallsOf returns what the plain function says.
   Conditions: as each theorem says. -/
import Derived.Test.YtipfikmbldgliaaPRGx36
import Derived.Test.YtipfikmbldgliaaPRGx31
namespace Go.Proofs.Ytipfikmbldgliaa.PRG
open Go.RowKit Go.Proofs.YtipfikmbldgliaaW.PrintWords Go.Proofs.YtipfikmbldgliaaW.PrintLast Go.Proofs.YtipfikmbldgliaaW.PrintMore Go.Proofs.Ytipfikmbldgliaa.Base Go.Proofs.Ytipfikmbldgliaa.MapSet
attribute [local go_sem] max2_int min2_int max_two min_two max_three min_three max_four min_four   -- for this text's walks alone
set_option linter.unusedVariables false
set_option linter.unusedSimpArgs false

def spec_CallsOf.f (k : Nat) (a0_0 : Int) (l0_1 : List (S40)) (l0_2 : List (S83)) : Option ((List (S88)) × Bool) := if (l0_1.all szCp && l0_2.all szOp) = true then some (callsP (goodRegS a0_0 l0_1 l0_2) l0_2) else none
theorem spec_CallsOf.mono : ∀ a0 a1 a2 k, LeO (spec_CallsOf.f k a0 a1 a2) (spec_CallsOf.f (k + 1) a0 a1 a2) := fun _ _ _ _ => LeO.refl _
theorem spec_CallsOf.len {clk : Int} {l1 : List S40} {l2 : List S83} (h : goodRegS clk l1 l2 = true) : l2.length ≤ 7 := by
  unfold goodRegS badS at h
  simp only [Bool.and_eq_true, Bool.not_eq_true', Bool.or_eq_false_iff] at h
  have q := h.1.2.2
  have := of_decide_eq_false q
  omega
set_option maxHeartbeats 100000000 in
set_option maxRecDepth 100000 in
theorem spec_CallsOf.calls (k : Nat) (a0_0 : Int) (A0_1 : Option Addr) (c0_1 : Nat) (l0_1 : List (S40)) (A0_2 : Option Addr) (c0_2 : Nat) (l0_2 : List (S83)) (r1 : List (S88)) (r2 : Bool) (w : World) (hr0_1 : Kd.C k40 w A0_1 l0_1.length l0_1) (hc0_1 : l0_1.length ≤ c0_1) (hr0_2 : Kd.C k83 w A0_2 l0_2.length l0_2) (hc0_2 : l0_2.length ≤ c0_2) (h : spec_CallsOf.f k a0_0 l0_1 l0_2 = some (r1, r2)) :
  Calls Try.prog 23 #[.agg #[.int .i64 a0_0, .slice A0_1 l0_1.length c0_1, .slice A0_2 l0_2.length c0_2]] w fun e w' => ∃ v0_ : Value, e = .returned (.tuple #[v0_, .bool r2]) ∧ Kd.R k88 88 w' w.heap.size (fun _ => True) v0_ r1 ∧ Below w.heap.size w w' := by
 obtain ⟨hs, hg⟩ : (l0_1.all szCp && l0_2.all szOp) = true ∧ callsP (goodRegS a0_0 l0_1 l0_2) l0_2 = (r1, r2) := by
  unfold spec_CallsOf.f at h
  by_cases hs : (l0_1.all szCp && l0_2.all szOp) = true
  · rw [if_pos hs] at h; exact ⟨hs, Option.some.inj h⟩
  · rw [if_neg hs] at h; cases h
 clear h
 have HL : Aside0 (l0_2.length ≤ 9223372036854775807) := ⟨hr0_2.2.1⟩
 have hu25 := Try.underlying25
 have hu83 := Try.underlying83
 have hu40 := Try.underlying40
 have hu88 := Try.underlying88
 have HR0_1 := Aside0.mk hr0_1
 have HC0_1 := Aside0.mk hc0_1
 clear hr0_1 hc0_1
 have HR0_2 := Aside0.mk hr0_2
 have HC0_2 := Aside0.mk hc0_2
 clear hr0_2 hc0_2
 have HB := Aside0.mk (Below.refl w.heap.size w)
 cases hgd : goodRegS a0_0 l0_1 l0_2
 · have HG0 : Aside0 (spec_GoodRegister.f 0 a0_0 l0_1 l0_2 = some false) := ⟨by unfold spec_GoodRegister.f; rw [if_pos hs, hgd]⟩
   rw [hgd] at hg
   unfold callsP at hg
   rw [if_neg (by simp)] at hg
   obtain ⟨rfl, rfl⟩ := Prod.mk.inj hg
   clear hg hgd hs
   go_enter Try.func23, Try.ntmps23
   go_wp2_with (first | ((with_reducible refine gate_dst (N := 1) rfl ?_); (try (refine gate_guard (by rfl) ?_; dsimp only)); refine box_event rfl (N := 1) rfl (cs := #[(.int .i64 a0_0), (.slice A0_1 l0_1.length c0_1), (.slice A0_2 l0_2.length c0_2)]) (t := 25) gs_ ?_; intro gb hg w3 hbox hb; have BK_gb := Aside0.mk (hbox); have GE_gb := Aside0.mk ((by rw [hg]; exact bz_ : w.heap.size ≤ gb)); replace HB := Aside0.mk (below_step bl_ hb); clear hb hbox hg; have p_0 : w3.cell? ⟨gb, 0, none⟩ = some (.int .i64 a0_0) := bc_ BK_gb.out 0; have pf_0 := blk_frozen BK_gb.out 0; have p_1 : w3.cell? ⟨gb, 1, none⟩ = some (.slice A0_1 l0_1.length c0_1) := bc_ BK_gb.out 1; have pf_1 := blk_frozen BK_gb.out 1; have p_2 : w3.cell? ⟨gb, 2, none⟩ = some (.slice A0_2 l0_2.length c0_2) := bc_ BK_gb.out 2; have pf_2 := blk_frozen BK_gb.out 2) | (go_at_call 17; (with_reducible refine (spec_GoodRegister.calls 0 a0_0 _ _ l0_1 _ _ l0_2 false _ ?s1 HC0_1.out ?s2 HC0_2.out HG0.out).mono ?_); (case s1 => exact kc_ (Kd.C_below HR0_1.out HB.out)); (case s2 => exact kc_ (Kd.C_below HR0_2.out HB.out)); rintro e w6 ⟨rfl, hb⟩; replace BK_gb := bb_ BK_gb hb; replace HB := Aside0.mk (below_step bl_ hb); clear hb; clear p_0 pf_0 p_1 pf_1 p_2 pf_2; have p_0 : w6.cell? ⟨gb, 0, none⟩ = some (.int .i64 a0_0) := bc_ BK_gb.out 0; have pf_0 := blk_frozen BK_gb.out 0; have p_1 : w6.cell? ⟨gb, 1, none⟩ = some (.slice A0_1 l0_1.length c0_1) := bc_ BK_gb.out 1; have pf_1 := blk_frozen BK_gb.out 1; have p_2 : w6.cell? ⟨gb, 2, none⟩ = some (.slice A0_2 l0_2.length c0_2) := bc_ BK_gb.out 2; have pf_2 := blk_frozen BK_gb.out 2))
   go_ret2
   exact ⟨_, ng_, Kd.R_nil _ _ _ _ _, bl_⟩
 have HG0 : Aside0 (spec_GoodRegister.f 0 a0_0 l0_1 l0_2 = some true) := ⟨by unfold spec_GoodRegister.f; rw [if_pos hs, hgd]⟩
 have H7 := Aside0.mk (spec_CallsOf.len hgd)
 rw [hgd] at hg
 unfold callsP at hg
 rw [if_pos rfl] at hg
 obtain ⟨hg1, rfl⟩ := Prod.mk.inj hg
 have HG : Aside0 (([] : List S88) ++ callsFrom (l0_2.drop 0) 0 = r1) := ⟨by rw [List.nil_append, List.drop_zero]; exact hg1⟩
 clear hg hg1 hgd hs
 go_enter Try.func23, Try.ntmps23
 go_wp2_with (first | ((with_reducible refine gate_dst (N := 1) rfl ?_); (try (refine gate_guard (by rfl) ?_; dsimp only)); refine box_event rfl (N := 1) rfl (cs := #[(.int .i64 a0_0), (.slice A0_1 l0_1.length c0_1), (.slice A0_2 l0_2.length c0_2)]) (t := 25) gs_ ?_; intro gb hg w3 hbox hb; have BK_gb := Aside0.mk (hbox); have GE_gb := Aside0.mk ((by rw [hg]; exact bz_ : w.heap.size ≤ gb)); replace HB := Aside0.mk (below_step bl_ hb); clear hb hbox hg; have p_0 : w3.cell? ⟨gb, 0, none⟩ = some (.int .i64 a0_0) := bc_ BK_gb.out 0; have pf_0 := blk_frozen BK_gb.out 0; have p_1 : w3.cell? ⟨gb, 1, none⟩ = some (.slice A0_1 l0_1.length c0_1) := bc_ BK_gb.out 1; have pf_1 := blk_frozen BK_gb.out 1; have p_2 : w3.cell? ⟨gb, 2, none⟩ = some (.slice A0_2 l0_2.length c0_2) := bc_ BK_gb.out 2; have pf_2 := blk_frozen BK_gb.out 2) | (go_at_call 17; (with_reducible refine (spec_GoodRegister.calls 0 a0_0 _ _ l0_1 _ _ l0_2 true _ ?s1 HC0_1.out ?s2 HC0_2.out HG0.out).mono ?_); (case s1 => exact kc_ (Kd.C_below HR0_1.out HB.out)); (case s2 => exact kc_ (Kd.C_below HR0_2.out HB.out)); rintro e w6 ⟨rfl, hb⟩; replace BK_gb := bb_ BK_gb hb; replace HB := Aside0.mk (below_step bl_ hb); clear hb; clear p_0 pf_0 p_1 pf_1 p_2 pf_2; have p_0 : w6.cell? ⟨gb, 0, none⟩ = some (.int .i64 a0_0) := bc_ BK_gb.out 0; have pf_0 := blk_frozen BK_gb.out 0; have p_1 : w6.cell? ⟨gb, 1, none⟩ = some (.slice A0_1 l0_1.length c0_1) := bc_ BK_gb.out 1; have pf_1 := blk_frozen BK_gb.out 1; have p_2 : w6.cell? ⟨gb, 2, none⟩ = some (.slice A0_2 l0_2.length c0_2) := bc_ BK_gb.out 2; have pf_2 := blk_frozen BK_gb.out 2))
 go_loopg [4, 14] l0_2.length (fun gg v4 v14 w' => ∃ (i : Nat) (xs : List S88), v14 = .int .i64 (i : Int) ∧ i ≤ l0_2.length ∧ l0_2.length - i ≤ gg ∧ Aside0 (xs ++ callsFrom (l0_2.drop i) i = r1) ∧ Aside0 (xs.length ≤ i) ∧ Aside0 (Kd.R k88 88 w' w.heap.size (fun _ => True) v4 xs) ∧ Aside0 (w'.heap[gb]? = some (.cells #[(.int .i64 a0_0), (.slice A0_1 l0_1.length c0_1), (.slice A0_2 l0_2.length c0_2)] 25 (0, 0))) ∧ Aside0 (Below w.heap.size w w'))
 case atStart => exact ⟨0, [], rfl, Nat.zero_le _, by omega, HG, ⟨Nat.le_refl _⟩, ⟨Kd.R_nil _ _ _ _ _⟩, ⟨kb_ BK_gb.out⟩, ⟨bl_⟩⟩
 case round =>
  clear HG BK_gb HB p_0 pf_0 p_1 pf_1 p_2 pf_2
  obtain ⟨i, xs, rfl, hi, hgg, HG, HX, HO, BK_gb, HB⟩ := hrel
  by_cases hlt : i < l0_2.length
  rotate_left
  · have ei : i = l0_2.length := by omega
    subst ei
    have er : xs = r1 := by rw [← HG.out, List.drop_length]; simp [callsFrom]
    subst er
    go_wp2
    go_ret2
    exact ⟨_, ng_, kr_ HO.out, bl_⟩
  have hltz : (i : Int) < (l0_2.length : Int) := by omega
  replace HG := Aside0.mk ((congrArg (fun z => xs ++ z) (callsFrom_step hlt)).symm.trans HG.out)
  obtain ⟨ad2, A4, c4, e2, hx0, hx1, hx2, hx3, hx4, hx5, hx6, hx7, hx8, hx9, hl4, hi4⟩ := at_T83 HR0_2.out (i : Int) (by omega) hltz
  cases e2
  replace hx0 := (HB.out.cell (World.block_lt_of_cell? w _ hx0)).trans hx0
  replace hx1 := (HB.out.cell (World.block_lt_of_cell? w _ hx1)).trans hx1
  replace hx2 := (HB.out.cell (World.block_lt_of_cell? w _ hx2)).trans hx2
  replace hx3 := (HB.out.cell (World.block_lt_of_cell? w _ hx3)).trans hx3
  replace hx4 := (HB.out.cell (World.block_lt_of_cell? w _ hx4)).trans hx4
  replace hx5 := (HB.out.cell (World.block_lt_of_cell? w _ hx5)).trans hx5
  replace hx6 := (HB.out.cell (World.block_lt_of_cell? w _ hx6)).trans hx6
  replace hx7 := (HB.out.cell (World.block_lt_of_cell? w _ hx7)).trans hx7
  replace hx8 := (HB.out.cell (World.block_lt_of_cell? w _ hx8)).trans hx8
  replace hx9 := (HB.out.cell (World.block_lt_of_cell? w _ hx9)).trans hx9
  simp only [Int.toNat_natCast] at hx0 hx1 hx2 hx3 hx4 hx5 hx6 hx7 hx8 hx9
  generalize hq : rd_T83 l0_2 (i : Int) = o at HG hx0 hx1 hx2 hx3 hx4 hx5 hx6 hx7 hx8 hx9 hl4 hi4
  clear hq hl4 hi4
  have p0 := eq_true (show (0 : Int) ≤ (i : Int) by omega)
  replace hltz := eq_true hltz
  go_upto_region 6 with (fail)
  (try simp only [Act.put, List.setIfInBounds_toArray, List.set_cons_zero, List.set_cons_succ])
  go_cut [5, 6] (fun v5 v6 wc => ∃ go : Nat, v5 = .int .i64 (i : Int) ∧ v6 = .pointer (some ⟨go, 0, none⟩) ∧ Aside0 (gb ≠ go) ∧ Aside0 (Kd.R k88 88 wc w.heap.size (fun _ => True) u4 xs) ∧ Aside0 (wc.heap[gb]? = some (.cells #[(.int .i64 a0_0), (.slice A0_1 l0_1.length c0_1), (.slice (some ad2) l0_2.length c0_2)] 25 (0, 0))) ∧ Aside0 (wc.heap[go]? = some (.cells #[(.int .i64 o.f0), (.bool o.f1), (.string o.f2), (.int .i64 o.f3), (.slice A4 o.f4.length c4), (.int .i64 o.f5.f0), (.int .i64 o.f5.f1), (.string o.f5.f2), (.int .i64 o.f6), (.int .i64 o.f7)] 83 (0, 0))) ∧ Aside0 (Below w.heap.size w wc))
  case first =>
   go_wp2_with ((with_reducible refine gate_dst (N := 6) rfl ?_); (try (refine gate_guard (by rfl) ?_; dsimp only)); refine box_event rfl (N := 6) rfl (cs := #[(.int .i64 0), (.bool false), (.string (⟨#[]⟩ : ByteArray)), (.int .i64 0), (.slice none 0 0), (.int .i64 0), (.int .i64 0), (.string (⟨#[]⟩ : ByteArray)), (.int .i64 0), (.int .i64 0)]) (t := 83) gs_ ?_; intro go hg w22 hbox hb; have BK_go := Aside0.mk (hbox); have GE_go := Aside0.mk ((by rw [hg]; exact bz_ : w.heap.size ≤ go)); replace HB := Aside0.mk (below_step bl_ hb); have NB_BK_gb_go := nl_ hg BK_gb; have nb_BK_gb_go := NB_BK_gb_go.out; have nc_BK_gb_go := nb_BK_gb_go.symm; replace BK_gb := bb_ BK_gb hb; replace HO := rb_ HO hb; clear hb hbox hg; have q_0 : w22.cell? ⟨go, 0, none⟩ = some (.int .i64 0) := bc_ BK_go.out 0; have qf_0 := blk_frozen BK_go.out 0; have q_1 : w22.cell? ⟨go, 1, none⟩ = some (.bool false) := bc_ BK_go.out 1; have qf_1 := blk_frozen BK_go.out 1; have q_2 : w22.cell? ⟨go, 2, none⟩ = some (.string (⟨#[]⟩ : ByteArray)) := bc_ BK_go.out 2; have qf_2 := blk_frozen BK_go.out 2; have q_3 : w22.cell? ⟨go, 3, none⟩ = some (.int .i64 0) := bc_ BK_go.out 3; have qf_3 := blk_frozen BK_go.out 3; have q_4 : w22.cell? ⟨go, 4, none⟩ = some (.slice none 0 0) := bc_ BK_go.out 4; have qf_4 := blk_frozen BK_go.out 4; have q_5 : w22.cell? ⟨go, 5, none⟩ = some (.int .i64 0) := bc_ BK_go.out 5; have qf_5 := blk_frozen BK_go.out 5; have q_6 : w22.cell? ⟨go, 6, none⟩ = some (.int .i64 0) := bc_ BK_go.out 6; have qf_6 := blk_frozen BK_go.out 6; have q_7 : w22.cell? ⟨go, 7, none⟩ = some (.string (⟨#[]⟩ : ByteArray)) := bc_ BK_go.out 7; have qf_7 := blk_frozen BK_go.out 7; have q_8 : w22.cell? ⟨go, 8, none⟩ = some (.int .i64 0) := bc_ BK_go.out 8; have qf_8 := blk_frozen BK_go.out 8; have q_9 : w22.cell? ⟨go, 9, none⟩ = some (.int .i64 0) := bc_ BK_go.out 9; have qf_9 := blk_frozen BK_go.out 9)
   go_meet
   exact ⟨go, rfl, rfl, NB_BK_gb_go, ⟨kr_ (Kd.R_mono (Kd.R_far (p := ⟨go, 9, none⟩) (Kd.R_far (p := ⟨go, 8, none⟩) (Kd.R_far (p := ⟨go, 7, none⟩) (Kd.R_far (p := ⟨go, 6, none⟩) (Kd.R_far (p := ⟨go, 5, none⟩) (Kd.R_far (p := ⟨go, 4, none⟩) (Kd.R_far (p := ⟨go, 3, none⟩) (Kd.R_far (p := ⟨go, 2, none⟩) (Kd.R_far (p := ⟨go, 1, none⟩) (Kd.R_far (p := ⟨go, 0, none⟩) (Kd.R_types HO.out BK_go.out (by decide)) (fun _ hk => hk.2) (.int .i64 o.f0)) (fun _ hk => hk.2) (.bool o.f1)) (fun _ hk => hk.2) (.string o.f2)) (fun _ hk => hk.2) (.int .i64 o.f3)) (fun _ hk => hk.2) (.slice A4 o.f4.length c4)) (fun _ hk => hk.2) (.int .i64 o.f5.f0)) (fun _ hk => hk.2) (.int .i64 o.f5.f1)) (fun _ hk => hk.2) (.string o.f5.f2)) (fun _ hk => hk.2) (.int .i64 o.f6)) (fun _ hk => hk.2) (.int .i64 o.f7)) (fun _ h_ => h_.1))⟩, ⟨kz_⟩, ⟨by refine blk_put (cs := #[(.int .i64 o.f0), (.bool o.f1), (.string o.f2), (.int .i64 o.f3), (.slice A4 o.f4.length c4), (.int .i64 o.f5.f0), (.int .i64 o.f5.f1), (.string o.f5.f2), (.int .i64 o.f6), (.int .i64 0)]) ?_ 9 _ rfl; refine blk_put (cs := #[(.int .i64 o.f0), (.bool o.f1), (.string o.f2), (.int .i64 o.f3), (.slice A4 o.f4.length c4), (.int .i64 o.f5.f0), (.int .i64 o.f5.f1), (.string o.f5.f2), (.int .i64 0), (.int .i64 0)]) ?_ 8 _ rfl; refine blk_put (cs := #[(.int .i64 o.f0), (.bool o.f1), (.string o.f2), (.int .i64 o.f3), (.slice A4 o.f4.length c4), (.int .i64 o.f5.f0), (.int .i64 o.f5.f1), (.string (⟨#[]⟩ : ByteArray)), (.int .i64 0), (.int .i64 0)]) ?_ 7 _ rfl; refine blk_put (cs := #[(.int .i64 o.f0), (.bool o.f1), (.string o.f2), (.int .i64 o.f3), (.slice A4 o.f4.length c4), (.int .i64 o.f5.f0), (.int .i64 0), (.string (⟨#[]⟩ : ByteArray)), (.int .i64 0), (.int .i64 0)]) ?_ 6 _ rfl; refine blk_put (cs := #[(.int .i64 o.f0), (.bool o.f1), (.string o.f2), (.int .i64 o.f3), (.slice A4 o.f4.length c4), (.int .i64 0), (.int .i64 0), (.string (⟨#[]⟩ : ByteArray)), (.int .i64 0), (.int .i64 0)]) ?_ 5 _ rfl; refine blk_put (cs := #[(.int .i64 o.f0), (.bool o.f1), (.string o.f2), (.int .i64 o.f3), (.slice none 0 0), (.int .i64 0), (.int .i64 0), (.string (⟨#[]⟩ : ByteArray)), (.int .i64 0), (.int .i64 0)]) ?_ 4 _ rfl; refine blk_put (cs := #[(.int .i64 o.f0), (.bool o.f1), (.string o.f2), (.int .i64 0), (.slice none 0 0), (.int .i64 0), (.int .i64 0), (.string (⟨#[]⟩ : ByteArray)), (.int .i64 0), (.int .i64 0)]) ?_ 3 _ rfl; refine blk_put (cs := #[(.int .i64 o.f0), (.bool o.f1), (.string (⟨#[]⟩ : ByteArray)), (.int .i64 0), (.slice none 0 0), (.int .i64 0), (.int .i64 0), (.string (⟨#[]⟩ : ByteArray)), (.int .i64 0), (.int .i64 0)]) ?_ 2 _ rfl; refine blk_put (cs := #[(.int .i64 o.f0), (.bool false), (.string (⟨#[]⟩ : ByteArray)), (.int .i64 0), (.slice none 0 0), (.int .i64 0), (.int .i64 0), (.string (⟨#[]⟩ : ByteArray)), (.int .i64 0), (.int .i64 0)]) ?_ 1 _ rfl; refine blk_put (cs := #[(.int .i64 0), (.bool false), (.string (⟨#[]⟩ : ByteArray)), (.int .i64 0), (.slice none 0 0), (.int .i64 0), (.int .i64 0), (.string (⟨#[]⟩ : ByteArray)), (.int .i64 0), (.int .i64 0)]) ?_ 0 _ rfl; exact BK_go.out⟩, ⟨bl_⟩⟩
  clear hx0 hx1 hx2 hx3 hx4 hx5 hx6 hx7 hx8 hx9 BK_gb HB HO
  obtain ⟨go, rfl, rfl, NB, HO, BK_gb, BK_go, HB⟩ := hcut
  have nb := NB.out
  have nc := nb.symm
  have q_0 : wc.cell? ⟨go, 0, none⟩ = some (.int .i64 o.f0) := bc_ BK_go.out 0
  have q_1 : wc.cell? ⟨go, 1, none⟩ = some (.bool o.f1) := bc_ BK_go.out 1
  have q_2 : wc.cell? ⟨go, 2, none⟩ = some (.string o.f2) := bc_ BK_go.out 2
  have q_3 : wc.cell? ⟨go, 3, none⟩ = some (.int .i64 o.f3) := bc_ BK_go.out 3
  have q_4 : wc.cell? ⟨go, 4, none⟩ = some (.slice A4 o.f4.length c4) := bc_ BK_go.out 4
  have q_5 : wc.cell? ⟨go, 5, none⟩ = some (.int .i64 o.f5.f0) := bc_ BK_go.out 5
  have q_6 : wc.cell? ⟨go, 6, none⟩ = some (.int .i64 o.f5.f1) := bc_ BK_go.out 6
  have q_7 : wc.cell? ⟨go, 7, none⟩ = some (.string o.f5.f2) := bc_ BK_go.out 7
  have q_8 : wc.cell? ⟨go, 8, none⟩ = some (.int .i64 o.f6) := bc_ BK_go.out 8
  have q_9 : wc.cell? ⟨go, 9, none⟩ = some (.int .i64 o.f7) := bc_ BK_go.out 9
  go_upto_region 7 with (fail)
  (try simp only [Act.put, List.setIfInBounds_toArray, List.set_cons_zero, List.set_cons_succ])
  go_cut [7] (fun v7 wc => ∃ gc : Nat, v7 = .pointer (some ⟨gc, 0, none⟩) ∧ Aside0 (gb ≠ gc) ∧ Aside0 (go ≠ gc) ∧ Aside0 (w.heap.size ≤ gc) ∧ Aside0 (Kd.R k88 88 wc w.heap.size (fun k => k ≠ gc) u4 xs) ∧ Aside0 (wc.heap[gb]? = some (.cells #[(.int .i64 a0_0), (.slice A0_1 l0_1.length c0_1), (.slice (some ad2) l0_2.length c0_2)] 25 (0, 0))) ∧ Aside0 (wc.heap[go]? = some (.cells #[(.int .i64 o.f0), (.bool o.f1), (.string o.f2), (.int .i64 o.f3), (.slice A4 o.f4.length c4), (.int .i64 o.f5.f0), (.int .i64 o.f5.f1), (.string o.f5.f2), (.int .i64 o.f6), (.int .i64 o.f7)] 83 (0, 0))) ∧ Aside0 (wc.heap[gc]? = some (.cells #[(.int .i64 o.f0), (.bool o.f1), (.string (⟨#[120]⟩ : ByteArray)), (.string o.f2), (.int .i64 o.f6), (.int .i64 o.f7)] 88 (0, 0))) ∧ Aside0 (Below w.heap.size w wc))
  case first =>
   go_wp2_with ((with_reducible refine gate_dst (N := 7) rfl ?_); (try (refine gate_guard (by rfl) ?_; dsimp only)); refine box_event rfl (N := 7) rfl (cs := #[(.int .i64 0), (.bool false), (.string (⟨#[]⟩ : ByteArray)), (.string (⟨#[]⟩ : ByteArray)), (.int .i64 0), (.int .i64 0)]) (t := 88) gs_ ?_; intro gc hg w22 hbox hb; have BK_gc := Aside0.mk (hbox); have GE_gc := Aside0.mk ((by rw [hg]; exact bz_ : w.heap.size ≤ gc)); replace HO := Aside0.mk (Kd.R_below (Kd.R_elderB (kr_ HO.out) gc (Nat.le_of_eq hg.symm)) hb); replace HB := Aside0.mk (below_step bl_ hb); have NB_BK_gb_gc := nl_ hg BK_gb; have nb_BK_gb_gc := NB_BK_gb_gc.out; have nc_BK_gb_gc := nb_BK_gb_gc.symm; replace BK_gb := bb_ BK_gb hb; have NB_BK_go_gc := nl_ hg BK_go; have nb_BK_go_gc := NB_BK_go_gc.out; have nc_BK_go_gc := nb_BK_go_gc.symm; replace BK_go := bb_ BK_go hb; clear hb hbox hg; have y_0 : w22.cell? ⟨gc, 0, none⟩ = some (.int .i64 0) := bc_ BK_gc.out 0; have yf_0 := blk_frozen BK_gc.out 0; have y_1 : w22.cell? ⟨gc, 1, none⟩ = some (.bool false) := bc_ BK_gc.out 1; have yf_1 := blk_frozen BK_gc.out 1; have y_2 : w22.cell? ⟨gc, 2, none⟩ = some (.string (⟨#[]⟩ : ByteArray)) := bc_ BK_gc.out 2; have yf_2 := blk_frozen BK_gc.out 2; have y_3 : w22.cell? ⟨gc, 3, none⟩ = some (.string (⟨#[]⟩ : ByteArray)) := bc_ BK_gc.out 3; have yf_3 := blk_frozen BK_gc.out 3; have y_4 : w22.cell? ⟨gc, 4, none⟩ = some (.int .i64 0) := bc_ BK_gc.out 4; have yf_4 := blk_frozen BK_gc.out 4; have y_5 : w22.cell? ⟨gc, 5, none⟩ = some (.int .i64 0) := bc_ BK_gc.out 5; have yf_5 := blk_frozen BK_gc.out 5)
   go_meet
   exact ⟨gc, rfl, NB_BK_gb_gc, NB_BK_go_gc, GE_gc, ⟨kr_ (Kd.R_mono (Kd.R_far (p := ⟨gc, 5, none⟩) (Kd.R_far (p := ⟨gc, 4, none⟩) (Kd.R_far (p := ⟨gc, 3, none⟩) (Kd.R_far (p := ⟨gc, 2, none⟩) (Kd.R_far (p := ⟨gc, 1, none⟩) (Kd.R_far (p := ⟨gc, 0, none⟩) HO.out (fun _ hk => hk.2) (.int .i64 o.f0)) (fun _ hk => hk.2) (.bool o.f1)) (fun _ hk => hk.2) (.string (⟨#[120]⟩ : ByteArray))) (fun _ hk => hk.2) (.string o.f2)) (fun _ hk => hk.2) (.int .i64 o.f6)) (fun _ hk => hk.2) (.int .i64 o.f7)) (fun _ h_ => h_.2))⟩, ⟨kz_⟩, ⟨kz_⟩, ⟨by refine blk_put (cs := #[(.int .i64 o.f0), (.bool o.f1), (.string (⟨#[120]⟩ : ByteArray)), (.string o.f2), (.int .i64 o.f6), (.int .i64 0)]) ?_ 5 _ rfl; refine blk_put (cs := #[(.int .i64 o.f0), (.bool o.f1), (.string (⟨#[120]⟩ : ByteArray)), (.string o.f2), (.int .i64 0), (.int .i64 0)]) ?_ 4 _ rfl; refine blk_put (cs := #[(.int .i64 o.f0), (.bool o.f1), (.string (⟨#[120]⟩ : ByteArray)), (.string (⟨#[]⟩ : ByteArray)), (.int .i64 0), (.int .i64 0)]) ?_ 3 _ rfl; refine blk_put (cs := #[(.int .i64 o.f0), (.bool o.f1), (.string (⟨#[]⟩ : ByteArray)), (.string (⟨#[]⟩ : ByteArray)), (.int .i64 0), (.int .i64 0)]) ?_ 2 _ rfl; refine blk_put (cs := #[(.int .i64 o.f0), (.bool false), (.string (⟨#[]⟩ : ByteArray)), (.string (⟨#[]⟩ : ByteArray)), (.int .i64 0), (.int .i64 0)]) ?_ 1 _ rfl; refine blk_put (cs := #[(.int .i64 0), (.bool false), (.string (⟨#[]⟩ : ByteArray)), (.string (⟨#[]⟩ : ByteArray)), (.int .i64 0), (.int .i64 0)]) ?_ 0 _ rfl; exact BK_gc.out⟩, ⟨bl_⟩⟩
  clear BK_gb BK_go HB HO q_0 q_1 q_2 q_3 q_4 q_5 q_6 q_7 q_8 q_9
  obtain ⟨gc, rfl, NB2, NB3, GE_gc, HO, BK_gb, BK_go, BK_gc, HB⟩ := hcut
  have nb2 := NB2.out
  have nc2 := nb2.symm
  have nb3 := NB3.out
  have nc3 := nb3.symm
  have q_0 : wc.cell? ⟨go, 0, none⟩ = some (.int .i64 o.f0) := bc_ BK_go.out 0
  have q_1 : wc.cell? ⟨go, 1, none⟩ = some (.bool o.f1) := bc_ BK_go.out 1
  have q_2 : wc.cell? ⟨go, 2, none⟩ = some (.string o.f2) := bc_ BK_go.out 2
  have q_3 : wc.cell? ⟨go, 3, none⟩ = some (.int .i64 o.f3) := bc_ BK_go.out 3
  have q_4 : wc.cell? ⟨go, 4, none⟩ = some (.slice A4 o.f4.length c4) := bc_ BK_go.out 4
  have q_5 : wc.cell? ⟨go, 5, none⟩ = some (.int .i64 o.f5.f0) := bc_ BK_go.out 5
  have q_6 : wc.cell? ⟨go, 6, none⟩ = some (.int .i64 o.f5.f1) := bc_ BK_go.out 6
  have q_7 : wc.cell? ⟨go, 7, none⟩ = some (.string o.f5.f2) := bc_ BK_go.out 7
  have q_8 : wc.cell? ⟨go, 8, none⟩ = some (.int .i64 o.f6) := bc_ BK_go.out 8
  have q_9 : wc.cell? ⟨go, 9, none⟩ = some (.int .i64 o.f7) := bc_ BK_go.out 9
  have y_0 : wc.cell? ⟨gc, 0, none⟩ = some (.int .i64 o.f0) := bc_ BK_gc.out 0
  have yf_0 := blk_frozen BK_gc.out 0
  have y_1 : wc.cell? ⟨gc, 1, none⟩ = some (.bool o.f1) := bc_ BK_gc.out 1
  have yf_1 := blk_frozen BK_gc.out 1
  have y_2 : wc.cell? ⟨gc, 2, none⟩ = some (.string (⟨#[120]⟩ : ByteArray)) := bc_ BK_gc.out 2
  have yf_2 := blk_frozen BK_gc.out 2
  have y_3 : wc.cell? ⟨gc, 3, none⟩ = some (.string o.f2) := bc_ BK_gc.out 3
  have yf_3 := blk_frozen BK_gc.out 3
  have y_4 : wc.cell? ⟨gc, 4, none⟩ = some (.int .i64 o.f6) := bc_ BK_gc.out 4
  have yf_4 := blk_frozen BK_gc.out 4
  have y_5 : wc.cell? ⟨gc, 5, none⟩ = some (.int .i64 o.f7) := bc_ BK_gc.out 5
  have yf_5 := blk_frozen BK_gc.out 5
  by_cases hd : o.f3 = 3
  · skip
    have hd1 : (o.f3 == 3) = true := by simp [hd]
    have hd2 : (o.f3 != 3) = false := by simp [bne, hd]
    replace HG := Aside0.mk (show (xs ++ [callOf i o]) ++ callsFrom (l0_2.drop (i + 1)) (i + 1) = r1 by have q := HG.out; rw [if_pos (Or.inr hd), ← List.append_assoc] at q; exact q)
    unfold callOf at HG
    rw [if_pos hd] at HG
    clear hd
    go_upto_if 36 with (fail)
    (try simp only [Act.put, List.setIfInBounds_toArray, List.set_cons_zero, List.set_cons_succ])
    go_cut [] (fun wc => Aside0 (Kd.R k88 88 wc w.heap.size (fun k => k ≠ gc) u4 xs) ∧ Aside0 (wc.heap[gb]? = some (.cells #[(.int .i64 a0_0), (.slice A0_1 l0_1.length c0_1), (.slice (some ad2) l0_2.length c0_2)] 25 (0, 0))) ∧ Aside0 (wc.heap[go]? = some (.cells #[(.int .i64 o.f0), (.bool o.f1), (.string o.f2), (.int .i64 o.f3), (.slice A4 o.f4.length c4), (.int .i64 o.f5.f0), (.int .i64 o.f5.f1), (.string o.f5.f2), (.int .i64 o.f6), (.int .i64 o.f7)] 83 (0, 0))) ∧ Aside0 (wc.heap[gc]? = some (.cells #[(.int .i64 o.f0), (.bool o.f1), (.string (⟨#[120]⟩ : ByteArray)), (.string (if o.f1 = true then o.f2 else o.f5.f2)), (.int .i64 o.f6), (.int .i64 o.f7)] 88 (0, 0))) ∧ Aside0 (Below w.heap.size w wc))
    case first =>
     cases hw : o.f1
     · go_wp2
       go_meet
       exact ⟨⟨Kd.R_far (p := ⟨gc, 3, none⟩) HO.out (fun _ hk => hk) _⟩, ⟨kz_⟩, ⟨kz_⟩, ⟨by rw [if_neg (by rw [hw]; simp)]; exact blk_put (cs := #[(.int .i64 o.f0), (.bool o.f1), (.string (⟨#[120]⟩ : ByteArray)), (.string o.f2), (.int .i64 o.f6), (.int .i64 o.f7)]) BK_gc.out 3 _ rfl⟩, ⟨bl_⟩⟩
     · go_wp2
       go_meet
       exact ⟨⟨kr_ HO.out⟩, ⟨kz_⟩, ⟨kz_⟩, ⟨by rw [if_pos hw]; exact kb_ BK_gc.out⟩, ⟨bl_⟩⟩
    clear BK_gb BK_go BK_gc HB HO
    clear q_0 q_1 q_2 q_3 q_4 q_5 q_6 q_7 q_8 q_9 y_0 yf_0 y_1 yf_1 y_2 yf_2 y_3 yf_3 y_4 yf_4 y_5 yf_5
    obtain ⟨HO, BK_gb, BK_go, BK_gc, HB⟩ := hcut
    obtain ⟨s3, hs3⟩ : ∃ z, z = (if o.f1 = true then o.f2 else o.f5.f2) := ⟨_, rfl⟩
    rw [← hs3] at BK_gc HG
    clear hs3
    have q_0 : wc.cell? ⟨go, 0, none⟩ = some (.int .i64 o.f0) := bc_ BK_go.out 0
    have q_1 : wc.cell? ⟨go, 1, none⟩ = some (.bool o.f1) := bc_ BK_go.out 1
    have q_2 : wc.cell? ⟨go, 2, none⟩ = some (.string o.f2) := bc_ BK_go.out 2
    have q_3 : wc.cell? ⟨go, 3, none⟩ = some (.int .i64 o.f3) := bc_ BK_go.out 3
    have q_4 : wc.cell? ⟨go, 4, none⟩ = some (.slice A4 o.f4.length c4) := bc_ BK_go.out 4
    have q_5 : wc.cell? ⟨go, 5, none⟩ = some (.int .i64 o.f5.f0) := bc_ BK_go.out 5
    have q_6 : wc.cell? ⟨go, 6, none⟩ = some (.int .i64 o.f5.f1) := bc_ BK_go.out 6
    have q_7 : wc.cell? ⟨go, 7, none⟩ = some (.string o.f5.f2) := bc_ BK_go.out 7
    have q_8 : wc.cell? ⟨go, 8, none⟩ = some (.int .i64 o.f6) := bc_ BK_go.out 8
    have q_9 : wc.cell? ⟨go, 9, none⟩ = some (.int .i64 o.f7) := bc_ BK_go.out 9
    have y_0 : wc.cell? ⟨gc, 0, none⟩ = some (.int .i64 o.f0) := bc_ BK_gc.out 0
    have yf_0 := blk_frozen BK_gc.out 0
    have y_1 : wc.cell? ⟨gc, 1, none⟩ = some (.bool o.f1) := bc_ BK_gc.out 1
    have yf_1 := blk_frozen BK_gc.out 1
    have y_2 : wc.cell? ⟨gc, 2, none⟩ = some (.string (⟨#[120]⟩ : ByteArray)) := bc_ BK_gc.out 2
    have yf_2 := blk_frozen BK_gc.out 2
    have y_3 : wc.cell? ⟨gc, 3, none⟩ = some (.string s3) := bc_ BK_gc.out 3
    have yf_3 := blk_frozen BK_gc.out 3
    have y_4 : wc.cell? ⟨gc, 4, none⟩ = some (.int .i64 o.f6) := bc_ BK_gc.out 4
    have yf_4 := blk_frozen BK_gc.out 4
    have y_5 : wc.cell? ⟨gc, 5, none⟩ = some (.int .i64 o.f7) := bc_ BK_gc.out 5
    have yf_5 := blk_frozen BK_gc.out 5
    go_wp2_with ((with_reducible refine gate_builtin (b := .append) (xs := #[.tmp 41, .tmp 43]) rfl ?_); at_builtin; refine Kd.R_append k88 (w0 := w) w.heap.size rfl (.tmp 41) (.tmp 43) 44 88 (.agg #[(.int .i64 0), (.bool false), (.string ⟨#[]⟩), (.string ⟨#[]⟩), (.int .i64 0), (.int .i64 0)]) 64 rfl Try.underlying44 info88 rfl (by decide) (by omega) u4 xs (⟨o.f0, o.f1, (⟨#[120]⟩ : ByteArray), s3, o.f6, o.f7⟩ : S88) [.int .i64 o.f0, .bool o.f1, .string (⟨#[120]⟩ : ByteArray), .string s3, .int .i64 o.f6, .int .i64 o.f7] (fun k_ => k_ ≠ gc) (fun _ => False) rfl rfl ?aP (fun _ hk => hk.elim) ?aF ?aO ?aB ?aS ?aL ?_; (case aP => exact k88_mkM _ _ _ (⟨o.f0, o.f1, (⟨#[120]⟩ : ByteArray), s3, o.f6, o.f7⟩ : S88)); (case aB => exact bl_); (case aF => exact (fun k_ hk => Kd.freshB (kb_ BK_gc.out) k_ hk)); (case aO => exact (kr_ HO.out)); (case aS => exact bz_); (case aL => have q1 := HX.out; have q2 := H7.out; omega); intro v362 w44 ho hb hg hat; replace BK_gb := bgr_ BK_gb hg HO BK_gb; replace HB := Aside0.mk (hb); have HO2 := Aside0.mk (ho); clear HO ho hb hg hat)
    go_roundg (l0_2.length - (i + 1))
    case measure => omega
    case rel => exact ⟨i + 1, _, by rw [w64_succ hlt HL.out], by omega, by omega, HG, ⟨by have q := HX.out; (try simp only [List.length_append, List.length_cons, List.length_nil]); omega⟩, ⟨kr_ (Kd.R_mono HO2.out (fun _ hk => trivial))⟩, ⟨kb_ BK_gb.out⟩, ⟨bl_⟩⟩
  · skip
    have hd1 : (o.f3 == 3) = false := by simp [hd]
    have hd2 : (o.f3 != 3) = true := by simp [bne, hd]
    cases hw : o.f1
    · replace HG := Aside0.mk (show xs ++ callsFrom (l0_2.drop (i + 1)) (i + 1) = r1 by have q := HG.out; rw [if_neg (by simp [hd, hw]), List.nil_append] at q; exact q)
      clear hd
      go_wp2
      go_roundg (l0_2.length - (i + 1))
      case measure => omega
      case rel => exact ⟨i + 1, xs, by rw [w64_succ hlt HL.out], by omega, by omega, HG, ⟨by have q := HX.out; (try simp only [List.length_append, List.length_cons, List.length_nil]); omega⟩, ⟨kr_ (Kd.R_mono HO.out (fun _ hk => trivial))⟩, ⟨kb_ BK_gb.out⟩, ⟨bl_⟩⟩
    · replace HG := Aside0.mk (show (xs ++ [callOf i o]) ++ callsFrom (l0_2.drop (i + 1)) (i + 1) = r1 by have q := HG.out; rw [if_pos (Or.inl hw), ← List.append_assoc] at q; exact q)
      unfold callOf at HG
      rw [if_neg hd, if_pos hw, hw] at HG
      clear hd
      go_upto_region 13 with (fail)
      (try simp only [Act.put, List.setIfInBounds_toArray, List.set_cons_zero, List.set_cons_succ])
      go_cut [] (fun wc => Aside0 (Kd.R k88 88 wc w.heap.size (fun k => k ≠ gc) u4 xs) ∧ Aside0 (wc.heap[gb]? = some (.cells #[(.int .i64 a0_0), (.slice A0_1 l0_1.length c0_1), (.slice (some ad2) l0_2.length c0_2)] 25 (0, 0))) ∧ Aside0 (wc.heap[go]? = some (.cells #[(.int .i64 o.f0), (.bool o.f1), (.string o.f2), (.int .i64 o.f3), (.slice A4 o.f4.length c4), (.int .i64 o.f5.f0), (.int .i64 o.f5.f1), (.string o.f5.f2), (.int .i64 o.f6), (.int .i64 o.f7)] 83 (0, 0))) ∧ Aside0 (wc.heap[gc]? = some (.cells #[(.int .i64 o.f0), (.bool o.f1), (.string (⟨#[120]⟩ : ByteArray)), (.string o.f2), (.int .i64 o.f6), (.int .i64 (wrap64 (999000 + (i : Int))))] 88 (0, 0))) ∧ Aside0 (Below w.heap.size w wc))
      case first =>
       go_wp2
       go_meet
       exact ⟨⟨Kd.R_far (p := ⟨gc, 5, none⟩) HO.out (fun _ hk => hk) _⟩, ⟨kz_⟩, ⟨kz_⟩, ⟨blk_put (cs := #[(.int .i64 o.f0), (.bool o.f1), (.string (⟨#[120]⟩ : ByteArray)), (.string o.f2), (.int .i64 o.f6), (.int .i64 o.f7)]) BK_gc.out 5 _ rfl⟩, ⟨bl_⟩⟩
      clear BK_gb BK_go BK_gc HB HO
      clear q_0 q_1 q_2 q_3 q_4 q_5 q_6 q_7 q_8 q_9 y_0 yf_0 y_1 yf_1 y_2 yf_2 y_3 yf_3 y_4 yf_4 y_5 yf_5
      obtain ⟨HO, BK_gb, BK_go, BK_gc, HB⟩ := hcut
      obtain ⟨e5, he5⟩ : ∃ z, z = wrap64 (999000 + (i : Int)) := ⟨_, rfl⟩
      rw [← he5] at BK_gc HG
      clear he5
      have q_0 : wc.cell? ⟨go, 0, none⟩ = some (.int .i64 o.f0) := bc_ BK_go.out 0
      have q_1 : wc.cell? ⟨go, 1, none⟩ = some (.bool o.f1) := bc_ BK_go.out 1
      have q_2 : wc.cell? ⟨go, 2, none⟩ = some (.string o.f2) := bc_ BK_go.out 2
      have q_3 : wc.cell? ⟨go, 3, none⟩ = some (.int .i64 o.f3) := bc_ BK_go.out 3
      have q_4 : wc.cell? ⟨go, 4, none⟩ = some (.slice A4 o.f4.length c4) := bc_ BK_go.out 4
      have q_5 : wc.cell? ⟨go, 5, none⟩ = some (.int .i64 o.f5.f0) := bc_ BK_go.out 5
      have q_6 : wc.cell? ⟨go, 6, none⟩ = some (.int .i64 o.f5.f1) := bc_ BK_go.out 6
      have q_7 : wc.cell? ⟨go, 7, none⟩ = some (.string o.f5.f2) := bc_ BK_go.out 7
      have q_8 : wc.cell? ⟨go, 8, none⟩ = some (.int .i64 o.f6) := bc_ BK_go.out 8
      have q_9 : wc.cell? ⟨go, 9, none⟩ = some (.int .i64 o.f7) := bc_ BK_go.out 9
      have y_0 : wc.cell? ⟨gc, 0, none⟩ = some (.int .i64 o.f0) := bc_ BK_gc.out 0
      have yf_0 := blk_frozen BK_gc.out 0
      have y_1 : wc.cell? ⟨gc, 1, none⟩ = some (.bool o.f1) := bc_ BK_gc.out 1
      have yf_1 := blk_frozen BK_gc.out 1
      have y_2 : wc.cell? ⟨gc, 2, none⟩ = some (.string (⟨#[120]⟩ : ByteArray)) := bc_ BK_gc.out 2
      have yf_2 := blk_frozen BK_gc.out 2
      have y_3 : wc.cell? ⟨gc, 3, none⟩ = some (.string o.f2) := bc_ BK_gc.out 3
      have yf_3 := blk_frozen BK_gc.out 3
      have y_4 : wc.cell? ⟨gc, 4, none⟩ = some (.int .i64 o.f6) := bc_ BK_gc.out 4
      have yf_4 := blk_frozen BK_gc.out 4
      have y_5 : wc.cell? ⟨gc, 5, none⟩ = some (.int .i64 e5) := bc_ BK_gc.out 5
      have yf_5 := blk_frozen BK_gc.out 5
      go_wp2_with ((with_reducible refine gate_builtin (b := .append) (xs := #[.tmp 51, .tmp 53]) rfl ?_); at_builtin; refine Kd.R_append k88 (w0 := w) w.heap.size rfl (.tmp 51) (.tmp 53) 44 88 (.agg #[(.int .i64 0), (.bool false), (.string ⟨#[]⟩), (.string ⟨#[]⟩), (.int .i64 0), (.int .i64 0)]) 64 rfl Try.underlying44 info88 rfl (by decide) (by omega) u4 xs (⟨o.f0, true, (⟨#[120]⟩ : ByteArray), o.f2, o.f6, e5⟩ : S88) [.int .i64 o.f0, .bool true, .string (⟨#[120]⟩ : ByteArray), .string o.f2, .int .i64 o.f6, .int .i64 e5] (fun k_ => k_ ≠ gc) (fun _ => False) rfl rfl ?aP (fun _ hk => hk.elim) ?aF ?aO ?aB ?aS ?aL ?_; (case aP => exact k88_mkM _ _ _ (⟨o.f0, true, (⟨#[120]⟩ : ByteArray), o.f2, o.f6, e5⟩ : S88)); (case aB => exact bl_); (case aF => exact (fun k_ hk => Kd.freshB (kb_ BK_gc.out) k_ hk)); (case aO => exact (kr_ HO.out)); (case aS => exact bz_); (case aL => have q1 := HX.out; have q2 := H7.out; omega); intro v362 w44 ho hb hg hat; replace BK_gb := bgr_ BK_gb hg HO BK_gb; replace HB := Aside0.mk (hb); have HO2 := Aside0.mk (ho); clear HO ho hb hg hat)
      go_roundg (l0_2.length - (i + 1))
      case measure => omega
      case rel => exact ⟨i + 1, _, by rw [w64_succ hlt HL.out], by omega, by omega, HG, ⟨by have q := HX.out; (try simp only [List.length_append, List.length_cons, List.length_nil]); omega⟩, ⟨kr_ (Kd.R_mono HO2.out (fun _ hk => trivial))⟩, ⟨kb_ BK_gb.out⟩, ⟨bl_⟩⟩
end Go.Proofs.Ytipfikmbldgliaa.PRG
