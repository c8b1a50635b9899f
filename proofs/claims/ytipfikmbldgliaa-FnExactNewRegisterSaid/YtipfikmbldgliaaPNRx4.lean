/- What this text proves: the machine calls of the marking functions return what the plain functions say. Conditions: as each theorem says. -/
import Derived.Test.YtipfikmbldgliaaPNRx0
import Derived.Test.YtipfikmbldgliaaPNRx1
import Derived.Test.YtipfikmbldgliaaPNRx2
import Derived.Test.YtipfikmbldgliaaPNRx3
namespace Go.Proofs.Ytipfikmbldgliaa.PNR
open Go.RowKit Go.Proofs.YtipfikmbldgliaaW.PrintWords Go.Proofs.YtipfikmbldgliaaW.PrintLast Go.Proofs.YtipfikmbldgliaaW.PrintMore
attribute [local go_sem] max2_int min2_int max_two min_two max_three min_three max_four min_four   -- for this text's walks alone
set_option linter.unusedVariables false
set_option linter.unusedSimpArgs false
theorem hole_look {α : Type} {d : Kd α} {e base g n cap : Nat} {ok oki : Nat → Prop} {W : World} {xs : List α} {i : Int} {c : List Value} (h : Kd.H d e W base ok (.slice (some ⟨g, 0, none⟩) n cap) xs i oki c) (h0 : 0 ≤ i) (h1 : i < n) :
    (∀ j u, c[j]? = some u → W.cell? ⟨g, i.toNat * d.sz + j, none⟩ = some u) ∧ ∀ j, W.frozen? ⟨g, i.toNat * d.sz + j, none⟩ = false := by
  obtain ⟨rows, hl, hraw, hcl, hco, hcc, hback⟩ := Kd.H_raw h h0 h1
  obtain ⟨_, _, _, _, hfr⟩ := Kd.R_elem hraw [] i h0 h1
  exact ⟨hcc, hfr⟩
theorem hole_set {α : Type} {d : Kd α} {e base g n cap : Nat} {ok oki : Nat → Prop} {W : World} {xs : List α} {i : Int} {c : List Value} (h : Kd.H d e W base ok (.slice (some ⟨g, 0, none⟩) n cap) xs i oki c) (h0 : 0 ≤ i) (h1 : i < n) {j : Nat} {u : Value} (hj : j + 1 ≤ d.sz) (hu : u.oneCell' = true) :
    Kd.H d e (W.setCells g (i.toNat * d.sz + j) [u]) base ok (.slice (some ⟨g, 0, none⟩) n cap) xs i oki (c.take j ++ [u] ++ c.drop (j + 1)) ∧ W.grownBy (W.setCells g (i.toNat * d.sz + j) [u]) (some g) :=
  Kd.H_seg h h0 h1 (seg := [u]) hj (fun q hq => by rw [List.mem_singleton.1 hq]; exact hu)
/-! ### laws_markRegOpS: function 49, by hand: at an empty row alone -/
def laws_markRegOpS.f (k : Nat) (l0 : List S83) (a1 : Int) : Option (Int × List S83) := if l0.length = 0 then some (a1, []) else none
set_option maxHeartbeats 8000000 in
set_option maxRecDepth 100000 in
theorem laws_markRegOpS.calls (k : Nat) (P0_ : Nat → Prop) (u : Value) (l0 : List S83) (a1 : Int) (r1 : Int) (r2 : List S83) (w0 w : World) (hB : Below w0.heap.size w0 w) (ho0 : Kd.S k83 83 w w0.heap.size P0_ u l0) (h : laws_markRegOpS.f k l0 a1 = some (r1, r2)) :
  Calls Try.prog 49 #[u, .int .i64 a1] w fun e w' => e = .returned (.int .i64 r1) ∧ Kd.S k83 83 w' w0.heap.size P0_ u r2 ∧ Below w0.heap.size w0 w' ∧ Kept w w' P0_ := by
 unfold laws_markRegOpS.f at h
 split at h
 rotate_left
 · cases h
 rename_i hl
 obtain rfl := List.eq_nil_of_length_eq_zero hl
 simp only [Option.some.injEq, Prod.mk.injEq] at h
 obtain ⟨rfl, rfl⟩ := h
 clear hl
 obtain ⟨Ao, co, rfl⟩ := Kd.S_slice ho0
 have HO := Aside0.mk ho0
 have HB := Aside0.mk hB
 clear ho0 hB
 simp only [List.length_nil] at HO ⊢
 go_enter Try.func49, Try.ntmps49
 go_wp2
 go_loopg [1, 5] 1 (fun kq v1 v5 w' => v1 = .int .i64 a1 ∧ v5 = .int .i64 0 ∧ Aside0 (w' = w))
 case atStart => exact ⟨rfl, rfl, ⟨rfl⟩⟩
 obtain ⟨rfl, rfl, hw⟩ := hrel
 have hw2 := hw.out
 clear hw
 subst hw2
 go_wp2
 go_ret
 exact ⟨rfl, HO.out, HB.out, Kept.refl _ _⟩
/-! ### laws_markRegister: function 14, by hand -/
def laws_markRegister.f (k : Nat) (a0 : Int) (l1 : List S40) (l2 : List S83) (a : Int) : Option (Int × List S40 × List S83) := (laws_markCopyS.f k l1 a).bind fun b1 => (laws_markRegOpS.f k l2 b1.1).bind fun b2 => some (b2.1, b1.2, b2.2)
set_option maxHeartbeats 8000000 in
set_option maxRecDepth 100000 in
theorem laws_markRegister.calls (k : Nat) (a0 : Int) (P1 : Nat → Prop) (u1 : Value) (l1 : List S40) (P2 : Nat → Prop) (u2 : Value) (l2 : List S83) (a : Int) (r : Int) (r1 : List S40) (r2 : List S83) (w0 w : World) (hB : Below w0.heap.size w0 w) (ho1 : Kd.R k40 40 w w0.heap.size P1 u1 l1) (hp1_2 : ∀ k_, P1 k_ → ¬ P2 k_) (ho2 : Kd.S k83 83 w w0.heap.size P2 u2 l2) (hp2_1 : ∀ k_, P2 k_ → ¬ P1 k_) (h : laws_markRegister.f k a0 l1 l2 a = some (r, r1, r2)) :
  Calls Try.prog 14 #[.agg #[.int .i64 a0, u1, u2], .int .i64 a] w fun e w' => e = .returned (.int .i64 r) ∧ Kd.R k40 40 w' w0.heap.size P1 u1 r1 ∧ Kd.S k83 83 w' w0.heap.size P2 u2 r2 ∧ Below w0.heap.size w0 w' ∧ Kept w w' (fun k_ => P1 k_ ∨ P2 k_) := by
 unfold laws_markRegister.f at h
 replace h := Option.bind_eq_some_iff.mp h
 obtain ⟨⟨k1, q1⟩, E1, h⟩ := h
 dsimp only at h E1
 replace E1 := Aside0.mk E1
 replace h := Option.bind_eq_some_iff.mp h
 obtain ⟨⟨k2, q2⟩, E2, h⟩ := h
 dsimp only at h E2
 replace E2 := Aside0.mk E2
 simp only [Option.some.injEq, Prod.mk.injEq] at h
 obtain ⟨rfl, rfl, rfl⟩ := h
 obtain ⟨A1, c1, rfl⟩ := Kd.R_slice ho1
 have HO1 := Aside0.mk (Kd.R_mono (ok' := fun k_ => P1 k_ ∧ k_ < w.heap.size) (Kd.R_bound ho1) (fun k_ h_ => ⟨h_.1, h_.2.2.1⟩))
 obtain ⟨A2, c2, rfl⟩ := Kd.S_slice ho2
 have HO2 := Aside0.mk (Kd.S_mono (ok' := fun k_ => P2 k_ ∧ k_ < w.heap.size) (Kd.S_bound ho2) (fun k_ h_ => ⟨h_.1, h_.2.2.1⟩))
 have HB := Aside0.mk hB
 have HK := Aside0.mk (Kept.refl w (fun k_ => P1 k_ ∨ P2 k_))
 have hu := Try.underlying25
 have HP1_2 := Aside0.mk hp1_2
 have HP2_1 := Aside0.mk hp2_1
 clear hB ho1 ho2 hp1_2 hp2_1
 go_enter Try.func14, Try.ntmps14
 go_wp2_with (first | ((with_reducible refine gate_dst (N := 2) rfl ?_); refine box_event ?hg (N := 2) ?hd (cs := #[.int .i64 a0, .slice A1 l1.length c1, .slice A2 l2.length c2]) (t := 25) ?hr ?_; (case hd => rfl); (case hg => rfl); (case hr => first | (go_simp; done) | (go_simp; rfl)); intro gb hg w1 hbox hb; have n_1 := Aside0.mk (Kd.R_below HO1.out hb); have n_2 := Aside0.mk (Kd.S_below HO2.out hb); have n_b := Aside0.mk (below_step HB.out hb); have n_k := Aside0.mk (Kept.below HK.out hb); have n_g := Aside0.mk (Nat.le_of_eq hg.symm); have n_x := Aside0.mk hbox; clear HB HK HO1 HO2; have HB := n_b; have HK := n_k; have HG := n_g; have BK := n_x; have HO1 := n_1; have HO2 := n_2; clear n_b n_k n_g n_x n_1 n_2 hbox hb hg; have hx0 : w1.cell? ⟨gb, 0, none⟩ = some (.int .i64 a0) := (blk_cell BK.out 0).trans rfl; have hx1 : w1.cell? ⟨gb, 1, none⟩ = some (.slice A1 l1.length c1) := (blk_cell BK.out 1).trans rfl; have hx2 : w1.cell? ⟨gb, 2, none⟩ = some (.slice A2 l2.length c2) := (blk_cell BK.out 2).trans rfl; have hf0 := blk_frozen BK.out 0; have hf1 := blk_frozen BK.out 1; have hf2 := blk_frozen BK.out 2) | ((with_reducible refine gate_callee (f := 48) rfl ?_); refine goesL_ (some 8) rfl rfl Try.func48 (by kernel_rfl) rfl #[.slice A1 l1.length c1, .int .i64 a] rfl (by (try simp only [List.map_toArray, List.map_cons, List.map_nil]); first | done | rfl) ?_; (with_reducible refine (laws_markCopyS.calls k (fun k_ => some k_ = (Value.slice A1 l1.length c1).ownBlock) _ l1 a k1 q1 w0 _ HB.out ?s1 E1.out).mono ?_); (case s1 => exact Kd.R_tight rfl HO1.out); rintro e w2 ⟨rfl, ho_, hb_, hk0_⟩; refine ⟨_, rfl, ?_⟩; have hk_ := Kept.mono (S' := fun k_ => P1 k_ ∧ k_ < w.heap.size) hk0_ (fun k_ e_ => HO1.out.1 k_ e_.symm); have n_1 := Aside0.mk (Kd.R_mono (Kd.R_tight rfl ho_) (ok' := fun k_ => P1 k_ ∧ k_ < w.heap.size) (fun k_ e_ => HO1.out.1 k_ e_.symm)); clear hk0_; have n_2 := Aside0.mk (Kd.S_kept HO2.out hk_ (fun k_ h_ h2_ => HP2_1.out k_ h_.1 h2_.1)); have n_b := Aside0.mk hb_; have n_k := Aside0.mk (Kept.then_ HK.out hk_ (fun k_ h_ => Or.inl (.inl h_.1))); have n_x := Aside0.mk (blk_kept BK.out hk_ (fun h_ => by have := HG.out; have h2_ := h_.2; omega)); clear HB HK HO1 HO2 BK ho_ hb_ hk_ hx0 hf0 hx1 hf1 hx2 hf2; have HB := n_b; have HK := n_k; have HO1 := n_1; have HO2 := n_2; have BK := n_x; clear n_b n_k n_1 n_2 n_x; have hx0 : w2.cell? ⟨gb, 0, none⟩ = some (.int .i64 a0) := (blk_cell BK.out 0).trans rfl; have hx1 : w2.cell? ⟨gb, 1, none⟩ = some (.slice A1 l1.length c1) := (blk_cell BK.out 1).trans rfl; have hx2 : w2.cell? ⟨gb, 2, none⟩ = some (.slice A2 l2.length c2) := (blk_cell BK.out 2).trans rfl; have hf0 := blk_frozen BK.out 0; have hf1 := blk_frozen BK.out 1; have hf2 := blk_frozen BK.out 2) | ((with_reducible refine gate_callee (f := 49) rfl ?_); refine goesL_ (some 12) rfl rfl Try.func49 (by kernel_rfl) rfl #[.slice A2 l2.length c2, .int .i64 k1] rfl (by (try simp only [List.map_toArray, List.map_cons, List.map_nil]); first | done | rfl) ?_; (with_reducible refine (laws_markRegOpS.calls k (fun k_ => P2 k_ ∧ k_ < w.heap.size) _ l2 k1 k2 q2 w0 _ HB.out ?s1 E2.out).mono ?_); (case s1 => exact HO2.out); rintro e w3 ⟨rfl, ho_, hb_, hk_⟩; refine ⟨_, rfl, ?_⟩; have n_2 := Aside0.mk ho_; have n_1 := Aside0.mk (Kd.R_kept HO1.out hk_ (fun k_ h_ h2_ => HP1_2.out k_ h_.1 h2_.1)); have n_b := Aside0.mk hb_; have n_k := Aside0.mk (Kept.then_ HK.out hk_ (fun k_ h_ => Or.inl (.inr h_.1))); have n_x := Aside0.mk (blk_kept BK.out hk_ (fun h_ => by have := HG.out; have h2_ := h_.2; omega)); clear HB HK HO1 HO2 BK ho_ hb_ hk_ hx0 hf0 hx1 hf1 hx2 hf2; have HB := n_b; have HK := n_k; have HO1 := n_1; have HO2 := n_2; have BK := n_x; clear n_b n_k n_1 n_2 n_x; have hx0 : w3.cell? ⟨gb, 0, none⟩ = some (.int .i64 a0) := (blk_cell BK.out 0).trans rfl; have hx1 : w3.cell? ⟨gb, 1, none⟩ = some (.slice A1 l1.length c1) := (blk_cell BK.out 1).trans rfl; have hx2 : w3.cell? ⟨gb, 2, none⟩ = some (.slice A2 l2.length c2) := (blk_cell BK.out 2).trans rfl; have hf0 := blk_frozen BK.out 0; have hf1 := blk_frozen BK.out 1; have hf2 := blk_frozen BK.out 2))
 go_ret
 exact ⟨rfl, Kd.R_mono HO1.out (fun _ h_ => h_.1), Kd.S_mono HO2.out (fun _ h_ => h_.1), HB.out, HK.out⟩

end Go.Proofs.Ytipfikmbldgliaa.PNR
