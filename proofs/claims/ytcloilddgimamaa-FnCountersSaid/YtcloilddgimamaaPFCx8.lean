/- What this text proves: the machine calls of these functions return what the plain functions say. Conditions: as each theorem says. Printed by a program of this session out of the translation. -/
import Derived.Test.YtcloilddgimamaaPFCx0
import Derived.Test.YtcloilddgimamaaPFCx6
import Derived.Test.YtcloilddgimamaaPFCx7
namespace Go.Proofs.Ytcloilddgimamaa.PFC
open Go.RowKit Go.Proofs.YtcloilddgimamaaW.PrintWords Go.Proofs.YtcloilddgimamaaW.PrintLast Go.Proofs.YtcloilddgimamaaW.PrintMore
attribute [local go_sem] max2_int min2_int max_two min_two max_three min_three max_four min_four   -- for this text's walks alone
set_option linter.unusedVariables false
set_option linter.unusedSimpArgs false

/-! ### spec_DrawMergeCounter: function 29 -/
def spec_DrawMergeCounter.f (k : Nat) (l0 : List Int) : Option (List Int × List Int × List Int × List Int) := (spec_l1Cur_counter.f k l0 0 0).bind fun bt253 => ((spec_l1Cur_counter.f k l0 bt253.2.2.1 bt253.2.2.2).bind fun bt261 => (some (bt253.1, bt253.2.1, bt261.1, bt261.2.1)))
theorem spec_DrawMergeCounter.mono : ∀ a0 k, LeO (spec_DrawMergeCounter.f k a0) (spec_DrawMergeCounter.f (k + 1) a0) := by
 intro a0 k
 unfold spec_DrawMergeCounter.f
 repeat' first
   | (with_reducible exact spec_l1Cur_counter.mono _ _ _ _)
   | (with_reducible exact LeO.refl _)
   | (with_reducible exact LeO.none _)
   | (with_reducible refine LeO.ite ?_ ?_)
   | (with_reducible refine LeO.bind ?_ (fun _ => ?_))
   | exact spec_l1Cur_counter.mono _ _ _ _
   | exact LeO.none _
   | refine LeO.ite ?_ ?_
   | refine LeO.bind ?_ (fun _ => ?_)
set_option maxHeartbeats 8000000 in
set_option maxRecDepth 100000 in
theorem spec_DrawMergeCounter.calls (k : Nat) (A0 : Option Addr) (c0 : Nat) (l0 : List Int) (r1 : List Int) (r2 : List Int) (r3 : List Int) (r4 : List Int) (w : World) (hr0 : Kd.C (Kd.int .u8) w A0 l0.length l0) (hc0 : l0.length ≤ c0) (h : spec_DrawMergeCounter.f k l0 = some (r1, r2, r3, r4)) :
  Calls Try.prog 29 #[.slice A0 l0.length c0] w fun e w' => ∃ v0_ v1_ v2_ v3_ : Value, e = .returned (.tuple #[.agg #[v0_, v1_], .agg #[v2_, v3_]]) ∧ Kd.R (Kd.int .i64) 3 w' w.heap.size (fun k_ => some k_ ≠ (v1_ : Value).ownBlock ∧ some k_ ≠ (v2_ : Value).ownBlock ∧ some k_ ≠ (v3_ : Value).ownBlock) v0_ r1 ∧ Kd.Q (Kd.int .i64) 3 w' w.heap.size (fun k_ => some k_ ≠ (v0_ : Value).ownBlock ∧ some k_ ≠ (v2_ : Value).ownBlock ∧ some k_ ≠ (v3_ : Value).ownBlock) v1_ r2 ∧ Kd.R (Kd.int .i64) 3 w' w.heap.size (fun k_ => some k_ ≠ (v0_ : Value).ownBlock ∧ some k_ ≠ (v1_ : Value).ownBlock ∧ some k_ ≠ (v3_ : Value).ownBlock) v2_ r3 ∧ Kd.Q (Kd.int .i64) 3 w' w.heap.size (fun k_ => some k_ ≠ (v0_ : Value).ownBlock ∧ some k_ ≠ (v1_ : Value).ownBlock ∧ some k_ ≠ (v2_ : Value).ownBlock) v3_ r4 ∧ Below w.heap.size w w' := by
 have hu27 := Try.underlying27
 have hu67 := Try.underlying67
 have HR0 := Aside0.mk hr0
 have HC0 := Aside0.mk hc0
 clear hr0 hc0
 have HB := Aside0.mk (Below.refl w.heap.size w)
 have H : ((spec_l1Cur_counter.f k l0 0 0).bind fun bt253 => ((spec_l1Cur_counter.f k l0 bt253.2.2.1 bt253.2.2.2).bind fun bt261 => (some (bt253.1, bt253.2.1, bt261.1, bt261.2.1)))) = some (r1, r2, r3, r4) := h
 clear h
 replace H := Option.bind_eq_some_iff.mp H
 obtain ⟨⟨t253, t256, t259, t260⟩, A20, H⟩ := H
 replace H : ((spec_l1Cur_counter.f k l0 t259 t260).bind fun bt261 => (some (t253, t256, bt261.1, bt261.2.1))) = some (r1, r2, r3, r4) := H
 have A2 := Aside0.mk A20
 clear A20
 replace H := Option.bind_eq_some_iff.mp H
 obtain ⟨⟨t261, t264, t267, t268⟩, A30, H⟩ := H
 replace H : (some (t253, t256, t261, t264)) = some (r1, r2, r3, r4) := H
 have A3 := Aside0.mk A30
 clear A30
 simp only [Option.some.injEq, Prod.mk.injEq] at H
 obtain ⟨rfl, rfl, rfl, rfl⟩ := H
 go_enter Try.func29, Try.ntmps29
 go_wp2_with (first | ((with_reducible refine gate_dst (N := 2) rfl ?_); refine box_event rfl (N := 2) rfl (cs := #[.slice none 0 0, .slice none 0 0]) (t := 27) gs_ ?_; intro gb250 hg w4 hbox hb; have BK250 := Aside0.mk (hbox); have GW250 := Aside0.mk ((by rw [hg]; exact bz_ : w.heap.size ≤ gb250)); have GE250 := GW250; replace HB := Aside0.mk (below_step bl_ hb); clear hb hbox hg) | ((with_reducible refine gate_dst (N := 3) rfl ?_); refine box_event rfl (N := 3) rfl (cs := #[.slice none 0 0, .slice none 0 0]) (t := 27) gs_ ?_; intro gb251 hg w5 hbox hb; have BK251 := Aside0.mk (hbox); have GW251 := Aside0.mk ((by rw [hg]; exact bz_ : w.heap.size ≤ gb251)); have GE251 := GW251; replace HB := Aside0.mk (below_step bl_ hb); have NB250_251 := nl_ hg BK250; have NB251_250 := nm_ hg BK250; replace BK250 := bb_ BK250 hb; clear hb hbox hg) | ((with_reducible refine gate_dst (N := 7) rfl ?_); refine box_event rfl (N := 7) rfl (cs := #[.slice A0 l0.length c0, .int .i64 0, .int .u64 0]) (t := 67) gs_ ?_; intro gb252 hg w6 hbox hb; have BK252 := Aside0.mk (hbox); have GW252 := Aside0.mk ((by rw [hg]; exact bz_ : w.heap.size ≤ gb252)); have GE252 := GW252; replace HB := Aside0.mk (below_step bl_ hb); have NB250_252 := nl_ hg BK250; have NB252_250 := nm_ hg BK250; replace BK250 := bb_ BK250 hb; have NB251_252 := nl_ hg BK251; have NB252_251 := nm_ hg BK251; replace BK251 := bb_ BK251 hb; clear hb hbox hg; have HI252 := Aside0.mk (show IsS67 w _ gb252 l0 0 0 from ⟨_, _, BK252.out, GE252.out, HR0.out⟩)) | ((with_reducible refine gate_callee (f := 49) rfl ?_); refine goesL_ (some 9) rfl rfl Try.func49 (by kernel_rfl) rfl #[.pointer (some ⟨gb252, 0, none⟩)] rfl nc_ ?_; (with_reducible refine (spec_l1Cur_counter.calls k gb252 l0 0 0 t253 t256 t259 t260 w _ ?side1 ?side2 A2.out).mono ?_); (case side1 => repeat (first | (with_reducible first | exact HI252.out | apply IsS67.alloc | apply IsS67.drewN | apply IsS67.drew | apply IsS67.set_1 | apply IsS67.set_2 | refine IsS67.far ?_ NB252_250.out _ | refine IsS67.far ?_ NB252_251.out _) | exact HI252.out)); (case side2 => repeat (first | (with_reducible first | exact HB.out | apply below_alloc | apply pw_below_drewN | apply below_drew1 | refine below_set ?_ (IsS67.ge HI252.out) | refine below_set ?_ GE250.out | refine below_set ?_ GE251.out) | exact HB.out)); rintro e w7 ⟨v254, v257, rfl, ho0, ho1, hi, hb, hk⟩; refine ⟨_, rfl, ?_⟩; replace BK250 := Aside0.mk (KeepBut.blk hk (g' := gb250) (o := .cells #[.slice none 0 0, .slice none 0 0] 27 (0, 0)) (kb_ BK250.out) NB250_252.out (by simp)); replace BK251 := Aside0.mk (KeepBut.blk hk (g' := gb251) (o := .cells #[.slice none 0 0, .slice none 0 0] 27 (0, 0)) (kb_ BK251.out) NB251_252.out (by simp)); have HO255 := Aside0.mk (Kd.R_lower ho0 (below_size (by repeat (first | (with_reducible first | exact HB.out | apply below_alloc | apply pw_below_drewN | apply below_drew1 | refine below_set ?_ (IsS67.ge HI252.out) | refine below_set ?_ GE250.out | refine below_set ?_ GE251.out) | exact HB.out)))); have HO258 := Aside0.mk (Kd.Q_lower ho1 (below_size (by repeat (first | (with_reducible first | exact HB.out | apply below_alloc | apply pw_below_drewN | apply below_drew1 | refine below_set ?_ (IsS67.ge HI252.out) | refine below_set ?_ GE250.out | refine below_set ?_ GE251.out) | exact HB.out)))); replace HB := Aside0.mk (hb); replace HI252 := Aside0.mk (hi); clear hb hk hi ho0 ho1) | ((with_reducible refine gate_callee (f := 49) rfl ?_); refine goesL_ (some 11) rfl rfl Try.func49 (by kernel_rfl) rfl #[.pointer (some ⟨gb252, 0, none⟩)] rfl nc_ ?_; (with_reducible refine (spec_l1Cur_counter.calls k gb252 l0 t259 t260 t261 t264 t267 t268 w _ ?side1 ?side2 A3.out).mono ?_); (case side1 => repeat (first | (with_reducible first | exact HI252.out | apply IsS67.alloc | apply IsS67.drewN | apply IsS67.drew | apply IsS67.set_1 | apply IsS67.set_2 | refine IsS67.far ?_ NB252_250.out _ | refine IsS67.far ?_ NB252_251.out _) | exact HI252.out)); (case side2 => repeat (first | (with_reducible first | exact HB.out | apply below_alloc | apply pw_below_drewN | apply below_drew1 | refine below_set ?_ (IsS67.ge HI252.out) | refine below_set ?_ GE250.out | refine below_set ?_ GE251.out) | exact HB.out)); rintro e w8 ⟨v262, v265, rfl, ho0, ho1, hi, hb, hk⟩; refine ⟨_, rfl, ?_⟩; replace BK250 := Aside0.mk (KeepBut.blk hk (g' := gb250) (o := .cells #[.slice none 0 0, .slice none 0 0] 27 (0, 0)) (kb_ BK250.out) NB250_252.out (by simp)); replace BK251 := Aside0.mk (KeepBut.blk hk (g' := gb251) (o := .cells #[.slice none 0 0, .slice none 0 0] 27 (0, 0)) (kb_ BK251.out) NB251_252.out (by simp)); have HO263 := Aside0.mk (Kd.R_lower (rnq_ (rn_ ho0 HO255.out) HO258.out) (below_size (by repeat (first | (with_reducible first | exact HB.out | apply below_alloc | apply pw_below_drewN | apply below_drew1 | refine below_set ?_ (IsS67.ge HI252.out) | refine below_set ?_ GE250.out | refine below_set ?_ GE251.out) | exact HB.out)))); have HO266 := Aside0.mk (Kd.Q_lower (Kd.Q_new' (Kd.Q_new' ho1 (Kd.R_lt (kr_ HO255.out))) (Kd.Q_lt (kq_ HO258.out))) (below_size (by repeat (first | (with_reducible first | exact HB.out | apply below_alloc | apply pw_below_drewN | apply below_drew1 | refine below_set ?_ (IsS67.ge HI252.out) | refine below_set ?_ GE250.out | refine below_set ?_ GE251.out) | exact HB.out)))); replace HO255 := Aside0.mk (Kd.R_mono (Kd.R_told (Kd.R_told (Kd.R_oldK (IsS67.apart (show IsS67 w _ gb252 l0 t259 t260 from by repeat (first | (with_reducible first | exact HI252.out | apply IsS67.alloc | apply IsS67.drewN | apply IsS67.drew | apply IsS67.set_1 | apply IsS67.set_2 | refine IsS67.far ?_ NB252_250.out _ | refine IsS67.far ?_ NB252_251.out _) | exact HI252.out)) (kr_ HO255.out) (by decide)) hk) (Kd.R_base ho0)) (Kd.Q_base ho1)) (fun _ h_ => h_.1)); replace HO258 := Aside0.mk (Kd.Q_mono (Kd.Q_told (Kd.Q_told (Kd.Q_oldK (IsS67.apartQ (show IsS67 w _ gb252 l0 t259 t260 from by repeat (first | (with_reducible first | exact HI252.out | apply IsS67.alloc | apply IsS67.drewN | apply IsS67.drew | apply IsS67.set_1 | apply IsS67.set_2 | refine IsS67.far ?_ NB252_250.out _ | refine IsS67.far ?_ NB252_251.out _) | exact HI252.out)) (kq_ HO258.out) (by decide)) hk) (Kd.R_base ho0)) (Kd.Q_base ho1)) (fun _ h_ => h_.1)); replace HB := Aside0.mk (hb); replace HI252 := Aside0.mk (hi); clear hb hk hi ho0 ho1; obtain ⟨Ao9, co9, eo9⟩ := Kd.R_slice HO255.out; subst eo9; have hnb10 := NB250_251.out; have hnc10 := NB251_250.out; have hnb11 := NB250_252.out; have hnc11 := NB252_250.out; have hcz12_0 : w8.cell? ⟨gb250, 0, none⟩ = some (.slice none 0 0) := bc_ BK250.out 0; have hcz12_1 : w8.cell? ⟨gb250, 1, none⟩ = some (.slice none 0 0) := bc_ BK250.out 1; have hfz12_0 := blk_frozen BK250.out 0; have hfz12_1 := blk_frozen BK250.out 1; obtain ⟨Ao13, co13, eo13, _⟩ := Kd.Q_slice HO258.out; subst eo13; obtain ⟨Ao14, co14, eo14⟩ := Kd.R_slice HO263.out; subst eo14; have hnb15 := NB251_252.out; have hnc15 := NB252_251.out; have hcz16_0 : w8.cell? ⟨gb251, 0, none⟩ = some (.slice none 0 0) := bc_ BK251.out 0; have hcz16_1 : w8.cell? ⟨gb251, 1, none⟩ = some (.slice none 0 0) := bc_ BK251.out 1; have hfz16_0 := blk_frozen BK251.out 0; have hfz16_1 := blk_frozen BK251.out 1; obtain ⟨Ao17, co17, eo17, _⟩ := Kd.Q_slice HO266.out; subst eo17))
 refine bodyPost_ret (results_cc rfl _ _ gb250 gb251 27 27 #[.slice Ao9 t253.length co9, .slice Ao13 t256.length co13] #[.slice Ao14 t261.length co14, .slice Ao17 t264.length co17] (0, 0) (0, 0) _ _ rfl (by (with_reducible repeat (first | refine blk_drewN ?_ _ | refine blk_drew ?_ | refine blk_alloc ?_ _)); refine blk_far ?_ NB250_251.out _; (with_reducible repeat (first | refine blk_drewN ?_ _ | refine blk_drew ?_ | refine blk_alloc ?_ _)); refine blk_far ?_ NB250_251.out _; (with_reducible repeat (first | refine blk_drewN ?_ _ | refine blk_drew ?_ | refine blk_alloc ?_ _)); refine blk_put (cs := #[.slice Ao9 t253.length co9, .slice none 0 0]) ?_ 1 _ rfl; (with_reducible repeat (first | refine blk_drewN ?_ _ | refine blk_drew ?_ | refine blk_alloc ?_ _)); refine blk_put (cs := #[.slice none 0 0, .slice none 0 0]) ?_ 0 _ rfl; exact kb_ BK250.out) Try.underlying27 rfl (by kernel_rfl) rfl (by (with_reducible repeat (first | refine blk_drewN ?_ _ | refine blk_drew ?_ | refine blk_alloc ?_ _)); refine blk_put (cs := #[.slice Ao14 t261.length co14, .slice none 0 0]) ?_ 1 _ rfl; (with_reducible repeat (first | refine blk_drewN ?_ _ | refine blk_drew ?_ | refine blk_alloc ?_ _)); refine blk_put (cs := #[.slice none 0 0, .slice none 0 0]) ?_ 0 _ rfl; (with_reducible repeat (first | refine blk_drewN ?_ _ | refine blk_drew ?_ | refine blk_alloc ?_ _)); refine blk_far ?_ NB251_250.out _; (with_reducible repeat (first | refine blk_drewN ?_ _ | refine blk_drew ?_ | refine blk_alloc ?_ _)); refine blk_far ?_ NB251_250.out _; exact kb_ BK251.out) Try.underlying27 rfl (by kernel_rfl)) rfl ?_
 exact ⟨_, _, _, _, ng_, by exact kr_ (Kd.R_mono (Kd.R_far (p := ⟨gb251, 1, none⟩) (Kd.R_far (p := ⟨gb251, 0, none⟩) (Kd.R_far (p := ⟨gb250, 1, none⟩) (Kd.R_far (p := ⟨gb250, 0, none⟩) (Kd.R_types (Kd.R_types HO255.out BK250.out (by decide)) BK251.out (by decide)) (fun _ hk => hk.1.2) (.slice Ao9 t253.length co9)) (fun _ hk => hk.1.2) (.slice Ao13 t256.length co13)) (fun _ hk => hk.2) (.slice Ao14 t261.length co14)) (fun _ hk => hk.2) (.slice Ao17 t264.length co17)) (fun _ hk => ⟨hk.1.1.1.1, ⟨hk.1.1.1.2, hk.1.1.2⟩⟩)), by exact kq_ (Kd.Q_mono (Kd.Q_far (p := ⟨gb251, 1, none⟩) (Kd.Q_far (p := ⟨gb251, 0, none⟩) (Kd.Q_far (p := ⟨gb250, 1, none⟩) (Kd.Q_far (p := ⟨gb250, 0, none⟩) (Kd.Q_types (Kd.Q_types HO258.out BK250.out (by decide)) BK251.out (by decide)) (fun _ hk => hk.1.2) (.slice Ao9 t253.length co9)) (fun _ hk => hk.1.2) (.slice Ao13 t256.length co13)) (fun _ hk => hk.2) (.slice Ao14 t261.length co14)) (fun _ hk => hk.2) (.slice Ao17 t264.length co17)) (fun _ hk => ⟨hk.1.1.1.1, ⟨hk.1.1.1.2, hk.1.1.2⟩⟩)), by exact kr_ (Kd.R_mono (Kd.R_far (p := ⟨gb251, 1, none⟩) (Kd.R_far (p := ⟨gb251, 0, none⟩) (Kd.R_far (p := ⟨gb250, 1, none⟩) (Kd.R_far (p := ⟨gb250, 0, none⟩) (Kd.R_types (Kd.R_types HO263.out BK250.out (by decide)) BK251.out (by decide)) (fun _ hk => hk.1.2) (.slice Ao9 t253.length co9)) (fun _ hk => hk.1.2) (.slice Ao13 t256.length co13)) (fun _ hk => hk.2) (.slice Ao14 t261.length co14)) (fun _ hk => hk.2) (.slice Ao17 t264.length co17)) (fun _ hk => ⟨hk.1.1.1.2, ⟨hk.1.1.2, hk.1.1.1.1⟩⟩)), by exact kq_ (Kd.Q_mono (Kd.Q_far (p := ⟨gb251, 1, none⟩) (Kd.Q_far (p := ⟨gb251, 0, none⟩) (Kd.Q_far (p := ⟨gb250, 1, none⟩) (Kd.Q_far (p := ⟨gb250, 0, none⟩) (Kd.Q_types (Kd.Q_types HO266.out BK250.out (by decide)) BK251.out (by decide)) (fun _ hk => hk.1.2) (.slice Ao9 t253.length co9)) (fun _ hk => hk.1.2) (.slice Ao13 t256.length co13)) (fun _ hk => hk.2) (.slice Ao14 t261.length co14)) (fun _ hk => hk.2) (.slice Ao17 t264.length co17)) (fun _ hk => ⟨hk.1.1.1.2, ⟨hk.1.1.2, hk.1.1.1.1⟩⟩)), by repeat (first | (with_reducible first | exact HB.out | apply below_alloc | apply pw_below_drewN | apply below_drew1 | refine below_set ?_ (IsS67.ge HI252.out) | refine below_set ?_ GE250.out | refine below_set ?_ GE251.out) | exact HB.out)⟩

/-! ### spec_DrawCountBy: function 30 -/
def spec_DrawCountBy.f (k : Nat) (l0 : List Int) : Option (List Int × List Int × Int × Int) := (spec_l1Cur_counter.f k l0 0 0).bind fun bt271 => ((spec_l1Cur_pick.f l0 bt271.2.2.1 bt271.2.2.2 8).bind fun bt279 => ((spec_l1Cur_pick.f l0 bt279.2.1 bt279.2.2 2100).bind fun bt282 => (some (bt271.1, bt271.2.1, wrap64 (bt279.1 - 1), wrap64 (bt282.1 - 1050)))))
theorem spec_DrawCountBy.mono : ∀ a0 k, LeO (spec_DrawCountBy.f k a0) (spec_DrawCountBy.f (k + 1) a0) := by
 intro a0 k
 unfold spec_DrawCountBy.f
 repeat' first
   | (with_reducible exact spec_l1Cur_counter.mono _ _ _ _)
   | (with_reducible exact LeO.refl _)
   | (with_reducible exact LeO.none _)
   | (with_reducible refine LeO.ite ?_ ?_)
   | (with_reducible refine LeO.bind ?_ (fun _ => ?_))
   | exact spec_l1Cur_counter.mono _ _ _ _
   | exact LeO.none _
   | refine LeO.ite ?_ ?_
   | refine LeO.bind ?_ (fun _ => ?_)
set_option maxHeartbeats 8000000 in
set_option maxRecDepth 100000 in
theorem spec_DrawCountBy.calls (k : Nat) (A0 : Option Addr) (c0 : Nat) (l0 : List Int) (r1 : List Int) (r2 : List Int) (r3 : Int) (r4 : Int) (w : World) (hr0 : Kd.C (Kd.int .u8) w A0 l0.length l0) (hc0 : l0.length ≤ c0) (h : spec_DrawCountBy.f k l0 = some (r1, r2, r3, r4)) :
  Calls Try.prog 30 #[.slice A0 l0.length c0] w fun e w' => ∃ v0_ v1_ : Value, e = .returned (.tuple #[.agg #[v0_, v1_], .int .i64 r3, .int .i64 r4]) ∧ Kd.R (Kd.int .i64) 3 w' w.heap.size (fun k_ => some k_ ≠ (v1_ : Value).ownBlock) v0_ r1 ∧ Kd.Q (Kd.int .i64) 3 w' w.heap.size (fun k_ => some k_ ≠ (v0_ : Value).ownBlock) v1_ r2 ∧ Below w.heap.size w w' := by
 have hu27 := Try.underlying27
 have hu67 := Try.underlying67
 have HR0 := Aside0.mk hr0
 have HC0 := Aside0.mk hc0
 clear hr0 hc0
 have HB := Aside0.mk (Below.refl w.heap.size w)
 have H : ((spec_l1Cur_counter.f k l0 0 0).bind fun bt271 => ((spec_l1Cur_pick.f l0 bt271.2.2.1 bt271.2.2.2 8).bind fun bt279 => ((spec_l1Cur_pick.f l0 bt279.2.1 bt279.2.2 2100).bind fun bt282 => (some (bt271.1, bt271.2.1, wrap64 (bt279.1 - 1), wrap64 (bt282.1 - 1050)))))) = some (r1, r2, r3, r4) := h
 clear h
 replace H := Option.bind_eq_some_iff.mp H
 obtain ⟨⟨t271, t274, t277, t278⟩, A20, H⟩ := H
 replace H : ((spec_l1Cur_pick.f l0 t277 t278 8).bind fun bt279 => ((spec_l1Cur_pick.f l0 bt279.2.1 bt279.2.2 2100).bind fun bt282 => (some (t271, t274, wrap64 (bt279.1 - 1), wrap64 (bt282.1 - 1050))))) = some (r1, r2, r3, r4) := H
 have A2 := Aside0.mk A20
 clear A20
 replace H := Option.bind_eq_some_iff.mp H
 obtain ⟨⟨t279, t280, t281⟩, A30, H⟩ := H
 replace H : ((spec_l1Cur_pick.f l0 t280 t281 2100).bind fun bt282 => (some (t271, t274, wrap64 (t279 - 1), wrap64 (bt282.1 - 1050)))) = some (r1, r2, r3, r4) := H
 have A3 := Aside0.mk A30
 clear A30
 replace H := Option.bind_eq_some_iff.mp H
 obtain ⟨⟨t282, t283, t284⟩, A40, H⟩ := H
 replace H : (some (t271, t274, wrap64 (t279 - 1), wrap64 (t282 - 1050))) = some (r1, r2, r3, r4) := H
 have A4 := Aside0.mk A40
 clear A40
 simp only [Option.some.injEq, Prod.mk.injEq] at H
 obtain ⟨rfl, rfl, rfl, rfl⟩ := H
 go_enter Try.func30, Try.ntmps30
 go_wp2_with (first | ((with_reducible refine gate_dst (N := 2) rfl ?_); refine box_event rfl (N := 2) rfl (cs := #[.slice none 0 0, .slice none 0 0]) (t := 27) gs_ ?_; intro gb269 hg w5 hbox hb; have BK269 := Aside0.mk (hbox); have GW269 := Aside0.mk ((by rw [hg]; exact bz_ : w.heap.size ≤ gb269)); have GE269 := GW269; replace HB := Aside0.mk (below_step bl_ hb); clear hb hbox hg) | ((with_reducible refine gate_dst (N := 8) rfl ?_); refine box_event rfl (N := 8) rfl (cs := #[.slice A0 l0.length c0, .int .i64 0, .int .u64 0]) (t := 67) gs_ ?_; intro gb270 hg w6 hbox hb; have BK270 := Aside0.mk (hbox); have GW270 := Aside0.mk ((by rw [hg]; exact bz_ : w.heap.size ≤ gb270)); have GE270 := GW270; replace HB := Aside0.mk (below_step bl_ hb); have NB269_270 := nl_ hg BK269; have NB270_269 := nm_ hg BK269; replace BK269 := bb_ BK269 hb; clear hb hbox hg; have HI270 := Aside0.mk (show IsS67 w _ gb270 l0 0 0 from ⟨_, _, BK270.out, GE270.out, HR0.out⟩)) | ((with_reducible refine gate_callee (f := 49) rfl ?_); refine goesL_ (some 10) rfl rfl Try.func49 (by kernel_rfl) rfl #[.pointer (some ⟨gb270, 0, none⟩)] rfl nc_ ?_; (with_reducible refine (spec_l1Cur_counter.calls k gb270 l0 0 0 t271 t274 t277 t278 w _ ?side1 ?side2 A2.out).mono ?_); (case side1 => repeat (first | (with_reducible first | exact HI270.out | apply IsS67.alloc | apply IsS67.drewN | apply IsS67.drew | apply IsS67.set_1 | apply IsS67.set_2 | refine IsS67.far ?_ NB270_269.out _) | exact HI270.out)); (case side2 => repeat (first | (with_reducible first | exact HB.out | apply below_alloc | apply pw_below_drewN | apply below_drew1 | refine below_set ?_ (IsS67.ge HI270.out) | refine below_set ?_ GE269.out) | exact HB.out)); rintro e w7 ⟨v272, v275, rfl, ho0, ho1, hi, hb, hk⟩; refine ⟨_, rfl, ?_⟩; replace BK269 := Aside0.mk (KeepBut.blk hk (g' := gb269) (o := .cells #[.slice none 0 0, .slice none 0 0] 27 (0, 0)) (kb_ BK269.out) NB269_270.out (by simp)); have HO273 := Aside0.mk (Kd.R_lower ho0 (below_size (by repeat (first | (with_reducible first | exact HB.out | apply below_alloc | apply pw_below_drewN | apply below_drew1 | refine below_set ?_ (IsS67.ge HI270.out) | refine below_set ?_ GE269.out) | exact HB.out)))); have HO276 := Aside0.mk (Kd.Q_lower ho1 (below_size (by repeat (first | (with_reducible first | exact HB.out | apply below_alloc | apply pw_below_drewN | apply below_drew1 | refine below_set ?_ (IsS67.ge HI270.out) | refine below_set ?_ GE269.out) | exact HB.out)))); replace HB := Aside0.mk (hb); replace HI270 := Aside0.mk (hi); clear hb hk hi ho0 ho1) | ((with_reducible refine gate_callee (f := 50) rfl ?_); refine goesL_ (some 12) rfl rfl Try.func50 (by kernel_rfl) rfl #[.pointer (some ⟨gb270, 0, none⟩), .int .i64 8] rfl nc_ ?_; (with_reducible refine (spec_l1Cur_pick.calls gb270 l0 t277 t278 8 t279 t280 t281 w _ ?side1 ?side2 A3.out).mono ?_); (case side1 => repeat (first | (with_reducible first | exact HI270.out | apply IsS67.alloc | apply IsS67.drewN | apply IsS67.drew | apply IsS67.set_1 | apply IsS67.set_2 | refine IsS67.far ?_ NB270_269.out _) | exact HI270.out)); (case side2 => repeat (first | (with_reducible first | exact HB.out | apply below_alloc | apply pw_below_drewN | apply below_drew1 | refine below_set ?_ (IsS67.ge HI270.out) | refine below_set ?_ GE269.out) | exact HB.out)); rintro e w8 ⟨rfl, hi, hb, hk⟩; refine ⟨_, rfl, ?_⟩; replace BK269 := Aside0.mk (KeepBut.blk hk (g' := gb269) (o := .cells #[.slice none 0 0, .slice none 0 0] 27 (0, 0)) (kb_ BK269.out) NB269_270.out (by simp)); replace HO273 := Aside0.mk (Kd.R_mono (Kd.R_keep (IsS67.apart (show IsS67 w _ gb270 l0 t277 t278 from by repeat (first | (with_reducible first | exact HI270.out | apply IsS67.alloc | apply IsS67.drewN | apply IsS67.drew | apply IsS67.set_1 | apply IsS67.set_2 | refine IsS67.far ?_ NB270_269.out _) | exact HI270.out)) (kr_ HO273.out) (by decide)) hk (fun _ h => h.2)) (fun _ h => h.1)); replace HO276 := Aside0.mk (Kd.Q_mono (Kd.Q_keep (IsS67.apartQ (show IsS67 w _ gb270 l0 t277 t278 from by repeat (first | (with_reducible first | exact HI270.out | apply IsS67.alloc | apply IsS67.drewN | apply IsS67.drew | apply IsS67.set_1 | apply IsS67.set_2 | refine IsS67.far ?_ NB270_269.out _) | exact HI270.out)) (kq_ HO276.out) (by decide)) hk (fun _ h => h.2)) (fun _ h => h.1)); replace HB := Aside0.mk (hb); replace HI270 := Aside0.mk (hi); clear hb hk hi) | ((with_reducible refine gate_callee (f := 50) rfl ?_); refine goesL_ (some 15) rfl rfl Try.func50 (by kernel_rfl) rfl #[.pointer (some ⟨gb270, 0, none⟩), .int .i64 2100] rfl nc_ ?_; (with_reducible refine (spec_l1Cur_pick.calls gb270 l0 t280 t281 2100 t282 t283 t284 w _ ?side1 ?side2 A4.out).mono ?_); (case side1 => repeat (first | (with_reducible first | exact HI270.out | apply IsS67.alloc | apply IsS67.drewN | apply IsS67.drew | apply IsS67.set_1 | apply IsS67.set_2 | refine IsS67.far ?_ NB270_269.out _) | exact HI270.out)); (case side2 => repeat (first | (with_reducible first | exact HB.out | apply below_alloc | apply pw_below_drewN | apply below_drew1 | refine below_set ?_ (IsS67.ge HI270.out) | refine below_set ?_ GE269.out) | exact HB.out)); rintro e w9 ⟨rfl, hi, hb, hk⟩; refine ⟨_, rfl, ?_⟩; replace BK269 := Aside0.mk (KeepBut.blk hk (g' := gb269) (o := .cells #[.slice none 0 0, .slice none 0 0] 27 (0, 0)) (kb_ BK269.out) NB269_270.out (by simp)); replace HO273 := Aside0.mk (Kd.R_mono (Kd.R_keep (IsS67.apart (show IsS67 w _ gb270 l0 t280 t281 from by repeat (first | (with_reducible first | exact HI270.out | apply IsS67.alloc | apply IsS67.drewN | apply IsS67.drew | apply IsS67.set_1 | apply IsS67.set_2 | refine IsS67.far ?_ NB270_269.out _) | exact HI270.out)) (kr_ HO273.out) (by decide)) hk (fun _ h => h.2)) (fun _ h => h.1)); replace HO276 := Aside0.mk (Kd.Q_mono (Kd.Q_keep (IsS67.apartQ (show IsS67 w _ gb270 l0 t280 t281 from by repeat (first | (with_reducible first | exact HI270.out | apply IsS67.alloc | apply IsS67.drewN | apply IsS67.drew | apply IsS67.set_1 | apply IsS67.set_2 | refine IsS67.far ?_ NB270_269.out _) | exact HI270.out)) (kq_ HO276.out) (by decide)) hk (fun _ h => h.2)) (fun _ h => h.1)); replace HB := Aside0.mk (hb); replace HI270 := Aside0.mk (hi); clear hb hk hi; obtain ⟨Ao10, co10, eo10⟩ := Kd.R_slice HO273.out; subst eo10; have hnb11 := NB269_270.out; have hnc11 := NB270_269.out; have hcz12_0 : w9.cell? ⟨gb269, 0, none⟩ = some (.slice none 0 0) := bc_ BK269.out 0; have hcz12_1 : w9.cell? ⟨gb269, 1, none⟩ = some (.slice none 0 0) := bc_ BK269.out 1; have hfz12_0 := blk_frozen BK269.out 0; have hfz12_1 := blk_frozen BK269.out 1; obtain ⟨Ao13, co13, eo13, _⟩ := Kd.Q_slice HO276.out; subst eo13))
 refine bodyPost_ret (results_ctt rfl _ _ gb269 27 #[.slice Ao10 t271.length co10, .slice Ao13 t274.length co13] (0, 0) _ rfl (by (with_reducible repeat (first | refine blk_drewN ?_ _ | refine blk_drew ?_ | refine blk_alloc ?_ _)); refine blk_put (cs := #[.slice Ao10 t271.length co10, .slice none 0 0]) ?_ 1 _ rfl; (with_reducible repeat (first | refine blk_drewN ?_ _ | refine blk_drew ?_ | refine blk_alloc ?_ _)); refine blk_put (cs := #[.slice none 0 0, .slice none 0 0]) ?_ 0 _ rfl; exact kb_ BK269.out) Try.underlying27 rfl (by kernel_rfl)) rfl ?_
 exact ⟨_, _, ng_, by exact kr_ (Kd.R_mono (Kd.R_far (p := ⟨gb269, 1, none⟩) (Kd.R_far (p := ⟨gb269, 0, none⟩) (Kd.R_types HO273.out BK269.out (by decide)) (fun _ hk => hk.2) (.slice Ao10 t271.length co10)) (fun _ hk => hk.2) (.slice Ao13 t274.length co13)) (fun _ hk => hk.1)), by exact kq_ (Kd.Q_mono (Kd.Q_far (p := ⟨gb269, 1, none⟩) (Kd.Q_far (p := ⟨gb269, 0, none⟩) (Kd.Q_types HO276.out BK269.out (by decide)) (fun _ hk => hk.2) (.slice Ao10 t271.length co10)) (fun _ hk => hk.2) (.slice Ao13 t274.length co13)) (fun _ hk => hk.1)), by repeat (first | (with_reducible first | exact HB.out | apply below_alloc | apply pw_below_drewN | apply below_drew1 | refine below_set ?_ (IsS67.ge HI270.out) | refine below_set ?_ GE269.out) | exact HB.out)⟩

/-! ### laws_sameInts: function 51 -/
def laws_sameInts.l0 : Nat → List Int → List Int → Int → Int → Option (Bool)
 | 0, _, _, _, _ => none
 | k + 1, x0, x1, x12, x13 => if x13 < x12 then (if 0 ≤ x13 then (if x13 < (x0.length : Int) then (if x13 < (x1.length : Int) then (if (rd x0 x13) = (rd x1 x13) then (laws_sameInts.l0 k x0 x1 x12 (wrap64 (x13 + 1))) else (some false)) else (none)) else (none)) else (none)) else (some true)
def laws_sameInts.f (k : Nat) (l0 : List Int) (l1 : List Int) : Option (Bool) := if (l0.length : Int) = (l1.length : Int) then (laws_sameInts.l0 k l0 l1 (l0.length : Int) 0) else (some false)
theorem laws_sameInts.mono_l : ∀ k, (∀ y0 y1 y2 y3, LeO (laws_sameInts.l0 k y0 y1 y2 y3) (laws_sameInts.l0 (k + 1) y0 y1 y2 y3))
 | 0 => fun _ _ _ _ r h => by simp [laws_sameInts.l0] at h
 | k + 1 => by
  have ih0 := laws_sameInts.mono_l k
  ·intro y0 y1 y2 y3
   unfold laws_sameInts.l0
   repeat' first
   | (with_reducible exact ih0 _ _ _ _)
   | (with_reducible exact LeO.refl _)
   | (with_reducible exact LeO.none _)
   | (with_reducible refine LeO.ite ?_ ?_)
   | (with_reducible refine LeO.bind ?_ (fun _ => ?_))
   | exact ih0 _ _ _ _
   | exact LeO.none _
   | refine LeO.ite ?_ ?_
   | refine LeO.bind ?_ (fun _ => ?_)
theorem laws_sameInts.mono : ∀ a0 a1 k, LeO (laws_sameInts.f k a0 a1) (laws_sameInts.f (k + 1) a0 a1) := by
 intro a0 a1 k
 have ih0 := laws_sameInts.mono_l k
 unfold laws_sameInts.f
 repeat' first
   | (with_reducible exact ih0 _ _ _ _)
   | (with_reducible exact LeO.refl _)
   | (with_reducible exact LeO.none _)
   | (with_reducible refine LeO.ite ?_ ?_)
   | (with_reducible refine LeO.bind ?_ (fun _ => ?_))
   | exact ih0 _ _ _ _
   | exact LeO.none _
   | refine LeO.ite ?_ ?_
   | refine LeO.bind ?_ (fun _ => ?_)
set_option maxHeartbeats 8000000 in
set_option maxRecDepth 100000 in
theorem laws_sameInts.calls (k : Nat) (A0 : Option Addr) (c0 : Nat) (l0 : List Int) (A1 : Option Addr) (c1 : Nat) (l1 : List Int) (r : Bool) (w : World) (hr0 : Kd.C (Kd.int .i64) w A0 l0.length l0) (hc0 : l0.length ≤ c0) (hr1 : Kd.C (Kd.int .i64) w A1 l1.length l1) (hc1 : l1.length ≤ c1) (h : laws_sameInts.f k l0 l1 = some r) :
  Calls Try.prog 51 #[.slice A0 l0.length c0, .slice A1 l1.length c1] w fun e w' => e = .returned (.bool r) ∧ Drawn0 w w' := by
 have HR0 := Aside0.mk hr0
 have HC0 := Aside0.mk hc0
 clear hr0 hc0
 have HR1 := Aside0.mk hr1
 have HC1 := Aside0.mk hc1
 clear hr1 hc1
 have H : (if (l0.length : Int) = (l1.length : Int) then (laws_sameInts.l0 k l0 l1 (l0.length : Int) 0) else (some false)) = some r := h
 clear h
 by_cases c3 : (l0.length : Int) = (l1.length : Int)
 rotate_left
 ·rw [if_neg c3] at H
  have c3b0 : ((l0.length : Int) == (l1.length : Int)) = false := beq_eq_false_iff_ne.mpr c3
  have c3b1 : ((l0.length : Int) != (l1.length : Int)) = true := bne_iff_ne.mpr c3
  have c3b2 : (l0.length == l1.length) = false := by first | simpa using c3 | (simp at c3 ⊢; omega)
  obtain rfl := Option.some.inj H
  go_enter Try.func51, Try.ntmps51
  go_wp2
  repeat (go_quiet (fail); try go_wp2)
  go_ret
  exact ⟨by first | rfl | (simp; done) | (simp [*]; done), by repeat (first | exact Drawn0.refl _ | apply Drawn0.step)⟩
 rw [if_pos c3] at H
 have c3b0 : ((l0.length : Int) == (l1.length : Int)) = true := beq_iff_eq.mpr c3
 have c3b1 : ((l0.length : Int) != (l1.length : Int)) = false := bne_eq_false_iff_eq.mpr c3
 have c3b2 : (l0.length == l1.length) = true := by first | simpa using c3 | (simp at c3 ⊢; omega)
 clear c3
 have H' := Aside0.mk H
 clear H
 go_enter Try.func51, Try.ntmps51
 go_wp2
 repeat (go_quiet (fail); try go_wp2)
 go_loopg [13] k (fun kq v13 w' => ∃ (x13_1 : Int), v13 = .int .i64 x13_1 ∧ Aside0 (laws_sameInts.l0 kq l0 l1 (l0.length : Int) x13_1 = some r) ∧ Aside0 (kq ≤ k) ∧ Drawn0 w w')
 case atStart => exact ⟨(0), (by first | rfl | (simp; done) | (simp [*]; done)), H', ⟨Nat.le_refl _⟩, by repeat (first | exact Drawn0.refl _ | apply Drawn0.step)⟩
 clear H'
 try clear c1
 try clear p2
 try clear c3
 try clear c3b0
 try clear c3b1
 try clear c3b2
 obtain ⟨x13_1, rfl, HA, HK1, ⟨m1, rfl⟩⟩ := hrel
 cases gk with
 | zero => exact absurd HA.out (by simp [laws_sameInts.l0])
 | succ k1 => ?_
 have H := HA.out
 clear HA
 simp only [laws_sameInts.l0] at H
 by_cases c4 : x13_1 < (l0.length : Int)
 rotate_left
 ·rw [if_neg c4] at H
  have c4b0 : decide (x13_1 < (l0.length : Int)) = false := decide_eq_false c4
  clear c4
  obtain rfl := Option.some.inj H
  go_wp2
  repeat (go_quiet (fail); try go_wp2)
  go_ret
  exact ⟨by first | rfl | (simp; done) | (simp [*]; done), by repeat (first | exact Drawn0.refl _ | apply Drawn0.step)⟩
 rw [if_pos c4] at H
 have c4b0 : decide (x13_1 < (l0.length : Int)) = true := decide_eq_true c4
 clear c4
 by_cases c5 : 0 ≤ x13_1
 rotate_left
 ·rw [if_neg c5] at H
  exact absurd H (by simp)
 rw [if_pos c5] at H
 have c5b0 : decide (0 ≤ x13_1) = true := decide_eq_true c5
 clear c5
 by_cases c6 : x13_1 < (l0.length : Int)
 rotate_left
 ·rw [if_neg c6] at H
  exact absurd H (by simp)
 rw [if_pos c6] at H
 have c6b0 : decide (x13_1 < (l0.length : Int)) = true := decide_eq_true c6
 clear c6
 by_cases c7 : x13_1 < (l1.length : Int)
 rotate_left
 ·rw [if_neg c7] at H
  exact absurd H (by simp)
 rw [if_pos c7] at H
 have c7b0 : decide (x13_1 < (l1.length : Int)) = true := decide_eq_true c7
 clear c7
 by_cases c8 : (rd l0 x13_1) = (rd l1 x13_1)
 rotate_left
 ·rw [if_neg c8] at H
  have c8b0 : ((rd l0 x13_1) == (rd l1 x13_1)) = false := beq_eq_false_iff_ne.mpr c8
  have c8b1 : ((rd l0 x13_1) != (rd l1 x13_1)) = true := bne_iff_ne.mpr c8
  obtain rfl := Option.some.inj H
  have p285 : 0 ≤ (x13_1 : Int) := of_decide_eq_true (by first | (with_reducible assumption) | assumption)
  have q285 : x13_1 < (l0.length : Int) := of_decide_eq_true (by first | (with_reducible assumption) | assumption)
  obtain ⟨ad285, e285, hx285_0⟩ := Kd.at_int HR0.out x13_1 p285 q285
  cases e285
  replace p285 := eq_true p285
  replace q285 := eq_true q285
  have p286 : 0 ≤ (x13_1 : Int) := of_decide_eq_true (by first | (with_reducible assumption) | assumption)
  have q286 : x13_1 < (l1.length : Int) := of_decide_eq_true (by first | (with_reducible assumption) | assumption)
  obtain ⟨ad286, e286, hx286_0⟩ := Kd.at_int HR1.out x13_1 p286 q286
  cases e286
  replace p286 := eq_true p286
  replace q286 := eq_true q286
  go_wp2
  repeat (go_quiet (fail); try go_wp2)
  go_ret
  exact ⟨by first | rfl | (simp; done) | (simp [*]; done), by repeat (first | exact Drawn0.refl _ | apply Drawn0.step)⟩
 rw [if_pos c8] at H
 have c8b0 : ((rd l0 x13_1) == (rd l1 x13_1)) = true := beq_iff_eq.mpr c8
 have c8b1 : ((rd l0 x13_1) != (rd l1 x13_1)) = false := bne_eq_false_iff_eq.mpr c8
 clear c8
 have H' := Aside0.mk H
 clear H
 have p285 : 0 ≤ (x13_1 : Int) := of_decide_eq_true (by first | (with_reducible assumption) | assumption)
 have q285 : x13_1 < (l0.length : Int) := of_decide_eq_true (by first | (with_reducible assumption) | assumption)
 obtain ⟨ad285, e285, hx285_0⟩ := Kd.at_int HR0.out x13_1 p285 q285
 cases e285
 replace p285 := eq_true p285
 replace q285 := eq_true q285
 have p286 : 0 ≤ (x13_1 : Int) := of_decide_eq_true (by first | (with_reducible assumption) | assumption)
 have q286 : x13_1 < (l1.length : Int) := of_decide_eq_true (by first | (with_reducible assumption) | assumption)
 obtain ⟨ad286, e286, hx286_0⟩ := Kd.at_int HR1.out x13_1 p286 q286
 cases e286
 replace p286 := eq_true p286
 replace q286 := eq_true q286
 go_wp2
 repeat (go_quiet (fail); try go_wp2)
 go_roundg k1
 case measure => have := HK1.out; omega
 case rel => exact ⟨(wrap64 (x13_1 + 1)), (by first | rfl | (simp; done) | (simp [*]; done)), H', ⟨by have := HK1.out; omega⟩, by repeat (first | exact Drawn0.refl _ | apply Drawn0.step)⟩

/-! ### laws_sameCounters: function 31 -/
def laws_sameCounters.f (k : Nat) (l0_0 : List Int) (l0_1 : List Int) (l1_0 : List Int) (l1_1 : List Int) : Option (Bool) := (laws_sameInts.f k l0_0 l1_0).bind fun t289 => (if t289 = true then ((laws_sameInts.f k l0_1 l1_1).bind fun t290 => (some t290)) else (some false))
theorem laws_sameCounters.mono : ∀ a0 a1 a2 a3 k, LeO (laws_sameCounters.f k a0 a1 a2 a3) (laws_sameCounters.f (k + 1) a0 a1 a2 a3) := by
 intro a0 a1 a2 a3 k
 unfold laws_sameCounters.f
 repeat' first
   | (with_reducible exact laws_sameInts.mono _ _ _)
   | (with_reducible exact LeO.refl _)
   | (with_reducible exact LeO.none _)
   | (with_reducible refine LeO.ite ?_ ?_)
   | (with_reducible refine LeO.bind ?_ (fun _ => ?_))
   | exact laws_sameInts.mono _ _ _
   | exact LeO.none _
   | refine LeO.ite ?_ ?_
   | refine LeO.bind ?_ (fun _ => ?_)
set_option maxHeartbeats 8000000 in
set_option maxRecDepth 100000 in
theorem laws_sameCounters.calls (k : Nat) (A0_0 : Option Addr) (c0_0 : Nat) (l0_0 : List Int) (A0_1 : Option Addr) (c0_1 : Nat) (l0_1 : List Int) (A1_0 : Option Addr) (c1_0 : Nat) (l1_0 : List Int) (A1_1 : Option Addr) (c1_1 : Nat) (l1_1 : List Int) (r : Bool) (w : World) (hr0_0 : Kd.C (Kd.int .i64) w A0_0 l0_0.length l0_0) (hc0_0 : l0_0.length ≤ c0_0) (hr0_1 : Kd.C (Kd.int .i64) w A0_1 l0_1.length l0_1) (hc0_1 : l0_1.length ≤ c0_1) (hr1_0 : Kd.C (Kd.int .i64) w A1_0 l1_0.length l1_0) (hc1_0 : l1_0.length ≤ c1_0) (hr1_1 : Kd.C (Kd.int .i64) w A1_1 l1_1.length l1_1) (hc1_1 : l1_1.length ≤ c1_1) (h : laws_sameCounters.f k l0_0 l0_1 l1_0 l1_1 = some r) :
  Calls Try.prog 31 #[.agg #[.slice A0_0 l0_0.length c0_0, .slice A0_1 l0_1.length c0_1], .agg #[.slice A1_0 l1_0.length c1_0, .slice A1_1 l1_1.length c1_1]] w fun e w' => e = .returned (.bool r) ∧ Below w.heap.size w w' := by
 have hu27 := Try.underlying27
 have HR0_0 := Aside0.mk hr0_0
 have HC0_0 := Aside0.mk hc0_0
 clear hr0_0 hc0_0
 have HR0_1 := Aside0.mk hr0_1
 have HC0_1 := Aside0.mk hc0_1
 clear hr0_1 hc0_1
 have HR1_0 := Aside0.mk hr1_0
 have HC1_0 := Aside0.mk hc1_0
 clear hr1_0 hc1_0
 have HR1_1 := Aside0.mk hr1_1
 have HC1_1 := Aside0.mk hc1_1
 clear hr1_1 hc1_1
 have HB := Aside0.mk (Below.refl w.heap.size w)
 have H : ((laws_sameInts.f k l0_0 l1_0).bind fun t289 => (if t289 = true then ((laws_sameInts.f k l0_1 l1_1).bind fun t290 => (some t290)) else (some false))) = some r := h
 clear h
 replace H := Option.bind_eq_some_iff.mp H
 obtain ⟨t289, A30, H⟩ := H
 replace H : (if t289 = true then ((laws_sameInts.f k l0_1 l1_1).bind fun t290 => (some t290)) else (some false)) = some r := H
 have A3 := Aside0.mk A30
 clear A30
 by_cases c4 : t289 = true
 rotate_left
 ·replace c4 := Bool.eq_false_iff.mpr c4
  subst c4
  have H1 : (some false) = some r := by rw [if_neg (show ¬ (false = true) by decide)] at H; exact H
  clear H
  have H := H1
  clear H1
  obtain rfl := Option.some.inj H
  go_enter Try.func31, Try.ntmps31
  go_wp2_with (first | ((with_reducible refine gate_dst (N := 2) rfl ?_); refine box_event rfl (N := 2) rfl (cs := #[.slice A0_0 l0_0.length c0_0, .slice A0_1 l0_1.length c0_1]) (t := 27) gs_ ?_; intro gb287 hg w11 hbox hb; have BK287 := Aside0.mk (hbox); have GW287 := Aside0.mk ((by rw [hg]; exact bz_ : w.heap.size ≤ gb287)); have GE287 := GW287; replace HB := Aside0.mk (below_step bl_ hb); clear hb hbox hg) | ((with_reducible refine gate_dst (N := 3) rfl ?_); refine box_event rfl (N := 3) rfl (cs := #[.slice A1_0 l1_0.length c1_0, .slice A1_1 l1_1.length c1_1]) (t := 27) gs_ ?_; intro gb288 hg w12 hbox hb; have BK288 := Aside0.mk (hbox); have GW288 := Aside0.mk ((by rw [hg]; exact bz_ : w.heap.size ≤ gb288)); have GE288 := GW288; replace HB := Aside0.mk (below_step bl_ hb); have NB287_288 := nl_ hg BK287; have NB288_287 := nm_ hg BK287; replace BK287 := bb_ BK287 hb; clear hb hbox hg; have hnb13 := NB287_288.out; have hnc13 := NB288_287.out; have hcz14_0 : w12.cell? ⟨gb287, 0, none⟩ = some (.slice A0_0 l0_0.length c0_0) := bc_ BK287.out 0; have hcz14_1 : w12.cell? ⟨gb287, 1, none⟩ = some (.slice A0_1 l0_1.length c0_1) := bc_ BK287.out 1; have hfz14_0 := blk_frozen BK287.out 0; have hfz14_1 := blk_frozen BK287.out 1; have hcz15_0 : w12.cell? ⟨gb288, 0, none⟩ = some (.slice A1_0 l1_0.length c1_0) := bc_ BK288.out 0; have hcz15_1 : w12.cell? ⟨gb288, 1, none⟩ = some (.slice A1_1 l1_1.length c1_1) := bc_ BK288.out 1; have hfz15_0 := blk_frozen BK288.out 0; have hfz15_1 := blk_frozen BK288.out 1) | ((with_reducible refine gate_callee (f := 51) rfl ?_); refine goesL_ (some 9) rfl rfl Try.func51 (by kernel_rfl) rfl #[.slice A0_0 l0_0.length c0_0, .slice A1_0 l1_0.length c1_0] rfl nc_ ?_; (with_reducible refine (laws_sameInts.calls k _ _ l0_0 _ _ l1_0 false _ ?side1 ?side2 ?side3 ?side4 A3.out).mono ?_); (case side1 => exact kc_ (Kd.C_below HR0_0.out HB.out)); (case side2 => exact HC0_0.out); (case side3 => exact kc_ (Kd.C_below HR1_0.out HB.out)); (case side4 => exact HC1_0.out); rintro e w' ⟨rfl, ⟨nd, rfl⟩⟩; refine ⟨_, rfl, ?_⟩))
  go_ret
  exact ⟨ng_, bl_⟩
 subst c4
 have H1 : ((laws_sameInts.f k l0_1 l1_1).bind fun t290 => (some t290)) = some r := by rw [if_pos rfl] at H; exact H
 clear H
 have H := H1
 clear H1
 replace H := Option.bind_eq_some_iff.mp H
 obtain ⟨t290, A50, H⟩ := H
 replace H : (some t290) = some r := H
 have A5 := Aside0.mk A50
 clear A50
 obtain rfl := Option.some.inj H
 go_enter Try.func31, Try.ntmps31
 go_wp2_with (first | ((with_reducible refine gate_dst (N := 2) rfl ?_); refine box_event rfl (N := 2) rfl (cs := #[.slice A0_0 l0_0.length c0_0, .slice A0_1 l0_1.length c0_1]) (t := 27) gs_ ?_; intro gb287 hg w6 hbox hb; have BK287 := Aside0.mk (hbox); have GW287 := Aside0.mk ((by rw [hg]; exact bz_ : w.heap.size ≤ gb287)); have GE287 := GW287; replace HB := Aside0.mk (below_step bl_ hb); clear hb hbox hg) | ((with_reducible refine gate_dst (N := 3) rfl ?_); refine box_event rfl (N := 3) rfl (cs := #[.slice A1_0 l1_0.length c1_0, .slice A1_1 l1_1.length c1_1]) (t := 27) gs_ ?_; intro gb288 hg w7 hbox hb; have BK288 := Aside0.mk (hbox); have GW288 := Aside0.mk ((by rw [hg]; exact bz_ : w.heap.size ≤ gb288)); have GE288 := GW288; replace HB := Aside0.mk (below_step bl_ hb); have NB287_288 := nl_ hg BK287; have NB288_287 := nm_ hg BK287; replace BK287 := bb_ BK287 hb; clear hb hbox hg; have hnb8 := NB287_288.out; have hnc8 := NB288_287.out; have hcz9_0 : w7.cell? ⟨gb287, 0, none⟩ = some (.slice A0_0 l0_0.length c0_0) := bc_ BK287.out 0; have hcz9_1 : w7.cell? ⟨gb287, 1, none⟩ = some (.slice A0_1 l0_1.length c0_1) := bc_ BK287.out 1; have hfz9_0 := blk_frozen BK287.out 0; have hfz9_1 := blk_frozen BK287.out 1; have hcz10_0 : w7.cell? ⟨gb288, 0, none⟩ = some (.slice A1_0 l1_0.length c1_0) := bc_ BK288.out 0; have hcz10_1 : w7.cell? ⟨gb288, 1, none⟩ = some (.slice A1_1 l1_1.length c1_1) := bc_ BK288.out 1; have hfz10_0 := blk_frozen BK288.out 0; have hfz10_1 := blk_frozen BK288.out 1) | ((with_reducible refine gate_callee (f := 51) rfl ?_); refine goesL_ (some 9) rfl rfl Try.func51 (by kernel_rfl) rfl #[.slice A0_0 l0_0.length c0_0, .slice A1_0 l1_0.length c1_0] rfl nc_ ?_; (with_reducible refine (laws_sameInts.calls k _ _ l0_0 _ _ l1_0 true _ ?side1 ?side2 ?side3 ?side4 A3.out).mono ?_); (case side1 => exact kc_ (Kd.C_below HR0_0.out HB.out)); (case side2 => exact HC0_0.out); (case side3 => exact kc_ (Kd.C_below HR1_0.out HB.out)); (case side4 => exact HC1_0.out); rintro e w' ⟨rfl, ⟨nd, rfl⟩⟩; refine ⟨_, rfl, ?_⟩) | (go_at_call 51; (with_reducible refine (laws_sameInts.calls k _ _ l0_1 _ _ l1_1 t290 _ ?side1 ?side2 ?side3 ?side4 A5.out).mono ?_); (case side1 => exact kc_ (Kd.C_below HR0_1.out bl_)); (case side2 => exact HC0_1.out); (case side3 => exact kc_ (Kd.C_below HR1_1.out bl_)); (case side4 => exact HC1_1.out); rintro e w' ⟨rfl, ⟨nd, rfl⟩⟩))
 go_ret
 exact ⟨ng_, bl_⟩

end Go.Proofs.Ytcloilddgimamaa.PFC
