/- What this text proves (a hand-built part): the machine calls of the marking functions return what the plain functions say. Conditions: as each theorem says. -/
import Derived.Test.YtniaodllgeloiaaPMPx0
import Derived.Test.YtniaodllgeloiaaPMPx1
import Derived.Test.YtniaodllgeloiaaPMPx2
import Derived.Test.YtniaodllgeloiaaPMPx3
import Derived.Test.YtniaodllgeloiaaPMPx4
import Derived.Test.YtniaodllgeloiaaPMPx5
import Derived.Test.YtniaodllgeloiaaPMPx6
import Derived.Test.YtniaodllgeloiaaPMPx7
namespace Go.Proofs.Ytniaodllgeloiaa.PMP
open Go.RowKit Go.Proofs.YtniaodllgeloiaaW.PrintWords Go.Proofs.YtniaodllgeloiaaW.PrintLast Go.Proofs.YtniaodllgeloiaaW.PrintMore
attribute [local go_sem] max2_int min2_int max_two min_two max_three min_three max_four min_four   -- for this text's walks alone
set_option linter.unusedVariables false
set_option linter.unusedSimpArgs false
theorem hole_look {α : Type} {d : Kd α} {e base g n cap : Nat} {ok oki : Nat → Prop} {W : World} {xs : List α} {i : Int} {c : List Value} (h : Kd.H d e W base ok (.slice (some ⟨g, 0, none⟩) n cap) xs i oki c) (h0 : 0 ≤ i) (h1 : i < n) :
    (∀ j u, c[j]? = some u → W.cell? ⟨g, i.toNat * d.sz + j, none⟩ = some u) ∧ ∀ j, W.frozen? ⟨g, i.toNat * d.sz + j, none⟩ = false := by
  obtain ⟨rows, hl, hraw, hcl, hco, hcc, hback⟩ := Kd.H_raw h h0 h1
  obtain ⟨_, _, _, _, hfr⟩ := Kd.R_elem hraw [] i h0 h1
  exact ⟨hcc, hfr⟩
theorem hole_set {α : Type} {d : Kd α} {e base g n cap : Nat} {ok oki : Nat → Prop} {W : World} {xs : List α} {i : Int} {c : List Value} (h : Kd.H d e W base ok (.slice (some ⟨g, 0, none⟩) n cap) xs i oki c) (h0 : 0 ≤ i) (h1 : i < n) {j : Nat} {u : Value} (hj : j + 1 ≤ d.sz) (hu : u.oneCell' = true) :
    Kd.H d e (W.setCells g (i.toNat * d.sz + j) [u]) base ok (.slice (some ⟨g, 0, none⟩) n cap) xs i oki (c.take j ++ [u] ++ c.drop (j + 1)) ∧ W.grownBy (W.setCells g (i.toNat * d.sz + j) [u]) (some g) :=
  Kd.H_seg h h0 h1 (seg := [u]) hj (fun q hq => by rw [List.mem_singleton.1 hq]; exact hu)
/-! ### laws_markHomeS: function 62, by hand -/
def laws_markHomeS.l0 : Nat → List S80 → Int → Int → Option (Int × List S80)
 | 0, _, _, _ => none
 | k + 1, x0, x1, x5 => if x5 < (x0.length : Int) then (if 0 ≤ x5 then ((laws_markIntS.f k (rd_T80 x0 x5).f1 (wrap64 (x1 + 1))).bind fun b1 => laws_markHomeS.l0 k (x0.set (x5 : Int).toNat (⟨x1, b1.2⟩ : S80)) b1.1 (wrap64 (x5 + 1))) else none) else some (x1, x0)
def laws_markHomeS.f (k : Nat) (l0 : List S80) (a1 : Int) : Option (Int × List S80) := laws_markHomeS.l0 k l0 a1 0
set_option maxHeartbeats 8000000 in
set_option maxRecDepth 100000 in
theorem laws_markHomeS.calls (k : Nat) (P0_ : Nat → Prop) (u : Value) (l0 : List S80) (a1 : Int) (r1 : Int) (r2 : List S80) (w0 w : World) (hB : Below w0.heap.size w0 w) (ho0 : Kd.S k80 80 w w0.heap.size P0_ u l0) (h : laws_markHomeS.f k l0 a1 = some (r1, r2)) :
  Calls Try.prog 62 #[u, .int .i64 a1] w fun e w' => e = .returned (.int .i64 r1) ∧ Kd.S k80 80 w' w0.heap.size P0_ u r2 ∧ Below w0.heap.size w0 w' ∧ Kept w w' P0_ := by
 have HO0 := Aside0.mk (show Kd.S k80 80 w w0.heap.size P0_ u l0 from ho0)
 have HK := Aside0.mk (Kept.refl w P0_)
 have HW0 := Aside0.mk hB.size
 have HB := Aside0.mk hB
 clear hB ho0
 have H' := Aside0.mk (show laws_markHomeS.l0 k l0 a1 0 = some (r1, r2) from h)
 clear h
 go_enter Try.func62, Try.ntmps62
 go_wp2
 go_loopg [1, 5] k (fun kq v1 v5 w' => ∃ (x0 : List S80) (x1 : Int) (x5 : Int), v1 = .int .i64 x1 ∧ v5 = .int .i64 x5 ∧ Aside0 (laws_markHomeS.l0 kq x0 x1 x5 = some (r1, r2)) ∧ Aside0 (kq ≤ k) ∧ Aside0 (Kd.S k80 80 w' w0.heap.size P0_ u x0) ∧ Aside0 (Kept w w' P0_) ∧ Aside0 (Below w0.heap.size w0 w'))
 case atStart => exact ⟨l0, a1, 0, (by first | rfl | (simp; done)), (by first | rfl | (simp; done)), H', ⟨Nat.le_refl _⟩, HO0, HK, HB⟩
 clear H'
 obtain ⟨x0, x1, x5, rfl, rfl, HA, HK1, HO, HK, HB⟩ := hrel
 cases gk with
 | zero => exact absurd HA.out (by simp [laws_markHomeS.l0])
 | succ k1 => ?_
 have H := HA.out
 clear HA
 simp only [laws_markHomeS.l0] at H
 by_cases c3 : x5 < (x0.length : Int)
 rotate_left
 · rw [if_neg c3] at H
   have c3b0 : decide (x5 < (x0.length : Int)) = false := decide_eq_false c3
   clear c3
   simp only [Option.some.injEq, Prod.mk.injEq] at H
   obtain ⟨rfl, rfl⟩ := H
   obtain ⟨Ao, co, eo⟩ := Kd.S_slice HO.out
   subst eo
   go_wp2
   go_ret
   exact ⟨rfl, HO.out, HB.out, HK.out⟩
 rw [if_pos c3] at H
 have c3b0 : decide (x5 < (x0.length : Int)) = true := decide_eq_true c3
 by_cases c4 : 0 ≤ x5
 rotate_left
 · rw [if_neg c4] at H
   exact absurd H (by simp)
 rw [if_pos c4] at H
 have c4b0 : decide (0 ≤ x5) = true := decide_eq_true c4
 replace H := Option.bind_eq_some_iff.mp H
 obtain ⟨⟨kb1, lb1⟩, Eb1, H⟩ := H
 dsimp only at H
 replace Eb1 := Aside0.mk Eb1
 have H' := Aside0.mk H
 clear H
 obtain ⟨go, co, eo, gb, gl, cl, HG⟩ := Kd.S_form HO.out (by omega)
 subst eo
 have P := Aside0.mk (show 0 ≤ x5 ∧ x5 < ((x0.length : Nat) : Int) from ⟨c4, c3⟩)
 clear c3 c4
 have GB := Aside0.mk gb
 have HM := Aside0.mk (show P0_ go from (Kd.S_R HO.out).1 _ rfl)
 obtain ⟨oki, ce, hcl, hM, hcc, hfr, hoki0, hH⟩ := Kd.S_elem HO.out z80 x5 P.out.1 P.out.2
 have hoki := Aside0.mk hoki0
 obtain ⟨v1, rfl, hg1⟩ := k80_openM hM
 have HH := Aside0.mk hH

 have p5 := eq_true P.out.1
 have q5 := eq_true P.out.2
 clear hH hM hcl hoki0 gb gl HG cl HO hfr
 obtain ⟨A1, c1, ev1⟩ := Kd.R_slice hg1
 subst ev1
 replace hg1 := Aside0.mk hg1
 clear hcc
 obtain ⟨hcc, hfr⟩ := hole_look HH.out P.out.1 P.out.2
 have hx0 : wr.cell? ⟨go, x5.toNat * 2, none⟩ = some (.int .i64 (rd_T80 x0 x5).f0) := hcc 0 _ rfl
 have hf0 : wr.frozen? ⟨go, x5.toNat * 2, none⟩ = false := hfr 0
 have hx1 : wr.cell? ⟨go, x5.toNat * 2 + 1, none⟩ = some (.slice A1 (rd_T80 x0 x5).f1.length c1) := hcc 1 _ rfl
 have hf1 : wr.frozen? ⟨go, x5.toNat * 2 + 1, none⟩ = false := hfr 1
 clear hcc hfr
 go_wp2_with (first | ((with_reducible refine gate_store (t := 3) (p := 16) rfl ?_); refine store_event (t := 3) (p := 16) (v := ?vo_w101) (w1 := (wr.setCell ⟨go, x5.toNat * 2, none⟩ (.int .i64 (x1)))) ?hg ?ho ?hn ?hr ?_; (case ho => rfl); (case hg => rfl); (case hn => rfl); (case hr => first | (go_simp; done) | (go_simp; rfl)); intro w101 hw; obtain ⟨hH, hg⟩ := hole_set HH.out P.out.1 P.out.2 (j := 0) (u := .int .i64 (x1)) (by decide) rfl; replace hH : Kd.H k80 80 w101 w0.heap.size P0_ (.slice (some ⟨go, 0, none⟩) x0.length co) x0 x5 oki [.int .i64 (x1), .slice A1 (rd_T80 x0 x5).f1.length c1] := (by rw [hw]; exact hH); replace hg : wr.grownBy w101 (some go) := (by rw [hw]; exact hg); have n1 := Aside0.mk (Kd.R_grown hg1.out hg (fun k_ hk_ e_ => (hoki.out k_ hk_).2 (Option.some.inj e_))); have n_b := Aside0.mk (by rw [hw]; exact below_set (HB.out) GB.out : Below w0.heap.size w0 w101); have n_k := Aside0.mk (Kept.of_grown (S := P0_) hg HK.out (fun k_ e_ => by injection e_ with e_; subst e_; exact .inl HM.out)); clear HH HB HK hg1 hx0 hf0 hx1 hf1; have HH := Aside0.mk hH; have HB := n_b; have HK := n_k; have hg1 := n1; clear hH hg hw n_b n_k n1; obtain ⟨hcc, hfr⟩ := hole_look HH.out P.out.1 P.out.2; have hx0 : w101.cell? ⟨go, x5.toNat * 2, none⟩ = some (.int .i64 (x1)) := hcc 0 _ rfl; have hf0 : w101.frozen? ⟨go, x5.toNat * 2, none⟩ = false := hfr 0; have hx1 : w101.cell? ⟨go, x5.toNat * 2 + 1, none⟩ = some (.slice A1 (rd_T80 x0 x5).f1.length c1) := hcc 1 _ rfl; have hf1 : w101.frozen? ⟨go, x5.toNat * 2 + 1, none⟩ = false := hfr 1; clear hcc hfr) | ((with_reducible refine gate_callee (f := 20) rfl ?_); refine goesL_ (some 25) rfl rfl Try.func20 (by kernel_rfl) rfl #[.slice A1 (rd_T80 x0 x5).f1.length c1, .int .i64 (wrap64 (x1 + 1))] rfl (by (try simp only [List.map_toArray, List.map_cons, List.map_nil]); first | done | rfl | (simp only [List.length_drop, List.length_take]; rfl)) ?_; (with_reducible refine (laws_markIntS.calls k1 (fun k_ => some k_ = (Value.slice A1 (rd_T80 x0 x5).f1.length c1).ownBlock) _ (rd_T80 x0 x5).f1 (wrap64 (x1 + 1)) kb1 lb1 w0 _ HB.out ?s1 Eb1.out).mono ?_); (case s1 => exact Kd.R_tight rfl hg1.out); rintro e w102 ⟨rfl, ho_, hb_, hk_⟩; refine ⟨_, rfl, ?_⟩; have hin_ := fun k_ (e_ : some k_ = (Value.slice A1 (rd_T80 x0 x5).f1.length c1).ownBlock) => hg1.out.1 k_ e_.symm; have n1 := Aside0.mk (Kd.R_mono (Kd.R_tight rfl ho_) (ok' := oki) (fun k_ e_ => hin_ k_ e_)); have n_h := Aside0.mk (Kd.H_kept HH.out hk_ (fun k_ _ hn_ e_ => hn_ (hin_ k_ e_))); have n_b := Aside0.mk hb_; have n_k := Aside0.mk (Kept.then_ HK.out hk_ (fun k_ e_ => Or.inl (hoki.out k_ (hin_ k_ e_)).1)); clear HH HB HK ho_ hb_ hk_ hin_ hg1 hx0 hf0 hx1 hf1; have HH := n_h; have HB := n_b; have HK := n_k; have hg1 := n1; clear n_h n_b n_k n1; obtain ⟨hcc, hfr⟩ := hole_look HH.out P.out.1 P.out.2; have hx0 : w102.cell? ⟨go, x5.toNat * 2, none⟩ = some (.int .i64 (x1)) := hcc 0 _ rfl; have hf0 : w102.frozen? ⟨go, x5.toNat * 2, none⟩ = false := hfr 0; have hx1 : w102.cell? ⟨go, x5.toNat * 2 + 1, none⟩ = some (.slice A1 (rd_T80 x0 x5).f1.length c1) := hcc 1 _ rfl; have hf1 : w102.frozen? ⟨go, x5.toNat * 2 + 1, none⟩ = false := hfr 1; clear hcc hfr))
 have RF1 := hg1.out
 have HF := Kd.H_back HH.out (okp := oki) (x' := (⟨x1, lb1⟩ : S80)) (k80_mkM _ _ oki (⟨x1, lb1⟩ : S80) RF1) (fun _ hk => hk)
 have HF' := Aside0.mk HF
 clear HF RF1 HH hg1
 go_roundg k1
 case measure => have := HK1.out; omega
 case rel => exact ⟨_, _, _, (by first | rfl | (simp; done)), (by first | rfl | (simp; done)), H', ⟨by have := HK1.out; omega⟩, HF', HK, HB⟩
/-! ### laws_markConfig: function 38, by hand -/
def laws_markConfig.f (k : Nat) (a0 : Int) (l1 : List Int) (l2 : List S80) (a : Int) : Option (Int × List Int × List S80) := (laws_markIntS.f k l1 a).bind fun b1 => (laws_markHomeS.f k l2 b1.1).bind fun b2 => some (b2.1, b1.2, b2.2)
set_option maxHeartbeats 8000000 in
set_option maxRecDepth 100000 in
theorem laws_markConfig.calls (k : Nat) (a0 : Int) (P1 : Nat → Prop) (u1 : Value) (l1 : List Int) (P2 : Nat → Prop) (u2 : Value) (l2 : List S80) (a : Int) (r : Int) (r1 : List Int) (r2 : List S80) (w0 w : World) (hB : Below w0.heap.size w0 w) (ho1 : Kd.R (Kd.int .i64) 3 w w0.heap.size P1 u1 l1) (hp1_2 : ∀ k_, P1 k_ → ¬ P2 k_) (ho2 : Kd.S k80 80 w w0.heap.size P2 u2 l2) (hp2_1 : ∀ k_, P2 k_ → ¬ P1 k_) (h : laws_markConfig.f k a0 l1 l2 a = some (r, r1, r2)) :
  Calls Try.prog 38 #[.agg #[.int .i64 a0, u1, u2], .int .i64 a] w fun e w' => e = .returned (.int .i64 r) ∧ Kd.R (Kd.int .i64) 3 w' w0.heap.size P1 u1 r1 ∧ Kd.S k80 80 w' w0.heap.size P2 u2 r2 ∧ Below w0.heap.size w0 w' ∧ Kept w w' (fun k_ => P1 k_ ∨ P2 k_) := by
 unfold laws_markConfig.f at h
 replace h := Option.bind_eq_some_iff.mp h
 obtain ⟨⟨k1, q1⟩, E1, h⟩ := h
 dsimp only at h E1
 replace E1 := Aside0.mk E1
 replace h := Option.bind_eq_some_iff.mp h
 obtain ⟨⟨k2, q2⟩, E2, h⟩ := h
 dsimp only at h E2
 replace E2 := Aside0.mk E2
 simp only [Option.some.injEq, Prod.mk.injEq] at h
 obtain ⟨rfl, rfl, rfl⟩ := h
 obtain ⟨A1, c1, rfl⟩ := Kd.R_slice ho1
 have HO1 := Aside0.mk (Kd.R_mono (ok' := fun k_ => P1 k_ ∧ k_ < w.heap.size) (Kd.R_bound ho1) (fun k_ h_ => ⟨h_.1, h_.2.2.1⟩))
 obtain ⟨A2, c2, rfl⟩ := Kd.S_slice ho2
 have HO2 := Aside0.mk (Kd.S_mono (ok' := fun k_ => P2 k_ ∧ k_ < w.heap.size) (Kd.S_bound ho2) (fun k_ h_ => ⟨h_.1, h_.2.2.1⟩))
 have HB := Aside0.mk hB
 have HK := Aside0.mk (Kept.refl w (fun k_ => P1 k_ ∨ P2 k_))
 have hu := Try.underlying52
 have HP1_2 := Aside0.mk hp1_2
 have HP2_1 := Aside0.mk hp2_1
 clear hB ho1 ho2 hp1_2 hp2_1
 go_enter Try.func38, Try.ntmps38
 go_wp2_with (first | ((with_reducible refine gate_dst (N := 2) rfl ?_); refine box_event ?hg (N := 2) ?hd (cs := #[.int .i64 a0, .slice A1 l1.length c1, .slice A2 l2.length c2]) (t := 52) ?hr ?_; (case hd => rfl); (case hg => rfl); (case hr => first | (go_simp; done) | (go_simp; rfl)); intro gb hg w1 hbox hb; have n_1 := Aside0.mk (Kd.R_below HO1.out hb); have n_2 := Aside0.mk (Kd.S_below HO2.out hb); have n_b := Aside0.mk (below_step HB.out hb); have n_k := Aside0.mk (Kept.below HK.out hb); have n_g := Aside0.mk (Nat.le_of_eq hg.symm); have n_x := Aside0.mk hbox; clear HB HK HO1 HO2; have HB := n_b; have HK := n_k; have HG := n_g; have BK := n_x; have HO1 := n_1; have HO2 := n_2; clear n_b n_k n_g n_x n_1 n_2 hbox hb hg; have hx0 : w1.cell? ⟨gb, 0, none⟩ = some (.int .i64 a0) := (blk_cell BK.out 0).trans rfl; have hx1 : w1.cell? ⟨gb, 1, none⟩ = some (.slice A1 l1.length c1) := (blk_cell BK.out 1).trans rfl; have hx2 : w1.cell? ⟨gb, 2, none⟩ = some (.slice A2 l2.length c2) := (blk_cell BK.out 2).trans rfl; have hf0 := blk_frozen BK.out 0; have hf1 := blk_frozen BK.out 1; have hf2 := blk_frozen BK.out 2) | ((with_reducible refine gate_callee (f := 20) rfl ?_); refine goesL_ (some 8) rfl rfl Try.func20 (by kernel_rfl) rfl #[.slice A1 l1.length c1, .int .i64 a] rfl (by (try simp only [List.map_toArray, List.map_cons, List.map_nil]); first | done | rfl) ?_; (with_reducible refine (laws_markIntS.calls k (fun k_ => some k_ = (Value.slice A1 l1.length c1).ownBlock) _ l1 a k1 q1 w0 _ HB.out ?s1 E1.out).mono ?_); (case s1 => exact Kd.R_tight rfl HO1.out); rintro e w2 ⟨rfl, ho_, hb_, hk0_⟩; refine ⟨_, rfl, ?_⟩; have hk_ := Kept.mono (S' := fun k_ => P1 k_ ∧ k_ < w.heap.size) hk0_ (fun k_ e_ => HO1.out.1 k_ e_.symm); have n_1 := Aside0.mk (Kd.R_mono (Kd.R_tight rfl ho_) (ok' := fun k_ => P1 k_ ∧ k_ < w.heap.size) (fun k_ e_ => HO1.out.1 k_ e_.symm)); clear hk0_; have n_2 := Aside0.mk (Kd.S_kept HO2.out hk_ (fun k_ h_ h2_ => HP2_1.out k_ h_.1 h2_.1)); have n_b := Aside0.mk hb_; have n_k := Aside0.mk (Kept.then_ HK.out hk_ (fun k_ h_ => Or.inl (.inl h_.1))); have n_x := Aside0.mk (blk_kept BK.out hk_ (fun h_ => by have := HG.out; have h2_ := h_.2; omega)); clear HB HK HO1 HO2 BK ho_ hb_ hk_ hx0 hf0 hx1 hf1 hx2 hf2; have HB := n_b; have HK := n_k; have HO1 := n_1; have HO2 := n_2; have BK := n_x; clear n_b n_k n_1 n_2 n_x; have hx0 : w2.cell? ⟨gb, 0, none⟩ = some (.int .i64 a0) := (blk_cell BK.out 0).trans rfl; have hx1 : w2.cell? ⟨gb, 1, none⟩ = some (.slice A1 l1.length c1) := (blk_cell BK.out 1).trans rfl; have hx2 : w2.cell? ⟨gb, 2, none⟩ = some (.slice A2 l2.length c2) := (blk_cell BK.out 2).trans rfl; have hf0 := blk_frozen BK.out 0; have hf1 := blk_frozen BK.out 1; have hf2 := blk_frozen BK.out 2) | ((with_reducible refine gate_callee (f := 62) rfl ?_); refine goesL_ (some 12) rfl rfl Try.func62 (by kernel_rfl) rfl #[.slice A2 l2.length c2, .int .i64 k1] rfl (by (try simp only [List.map_toArray, List.map_cons, List.map_nil]); first | done | rfl) ?_; (with_reducible refine (laws_markHomeS.calls k (fun k_ => P2 k_ ∧ k_ < w.heap.size) _ l2 k1 k2 q2 w0 _ HB.out ?s1 E2.out).mono ?_); (case s1 => exact HO2.out); rintro e w3 ⟨rfl, ho_, hb_, hk_⟩; refine ⟨_, rfl, ?_⟩; have n_2 := Aside0.mk ho_; have n_1 := Aside0.mk (Kd.R_kept HO1.out hk_ (fun k_ h_ h2_ => HP1_2.out k_ h_.1 h2_.1)); have n_b := Aside0.mk hb_; have n_k := Aside0.mk (Kept.then_ HK.out hk_ (fun k_ h_ => Or.inl (.inr h_.1))); have n_x := Aside0.mk (blk_kept BK.out hk_ (fun h_ => by have := HG.out; have h2_ := h_.2; omega)); clear HB HK HO1 HO2 BK ho_ hb_ hk_ hx0 hf0 hx1 hf1 hx2 hf2; have HB := n_b; have HK := n_k; have HO1 := n_1; have HO2 := n_2; have BK := n_x; clear n_b n_k n_1 n_2 n_x; have hx0 : w3.cell? ⟨gb, 0, none⟩ = some (.int .i64 a0) := (blk_cell BK.out 0).trans rfl; have hx1 : w3.cell? ⟨gb, 1, none⟩ = some (.slice A1 l1.length c1) := (blk_cell BK.out 1).trans rfl; have hx2 : w3.cell? ⟨gb, 2, none⟩ = some (.slice A2 l2.length c2) := (blk_cell BK.out 2).trans rfl; have hf0 := blk_frozen BK.out 0; have hf1 := blk_frozen BK.out 1; have hf2 := blk_frozen BK.out 2))
 go_ret
 exact ⟨rfl, Kd.R_mono HO1.out (fun _ h_ => h_.1), Kd.S_mono HO2.out (fun _ h_ => h_.1), HB.out, HK.out⟩

end Go.Proofs.Ytniaodllgeloiaa.PMP
