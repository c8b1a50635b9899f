/- What this text proves: the machine calls of the marking functions return what the plain functions say. Conditions: as each theorem says. -/
import Derived.Test.YtbnadnfggpnbgaaPNFx0
import Derived.Test.YtbnadnfggpnbgaaPNFx1
import Derived.Test.YtbnadnfggpnbgaaPNFx2
import Derived.Test.YtbnadnfggpnbgaaPNFx3
namespace Go.Proofs.Ytbnadnfggpnbgaa.PNF
open Go.RowKit Go.Proofs.YtbnadnfggpnbgaaW.PrintWords Go.Proofs.YtbnadnfggpnbgaaW.PrintLast Go.Proofs.YtbnadnfggpnbgaaW.PrintMore
attribute [local go_sem] max2_int min2_int max_two min_two max_three min_three max_four min_four   -- for this text's walks alone
set_option linter.unusedVariables false
set_option linter.unusedSimpArgs false
theorem hole_look {α : Type} {d : Kd α} {e base g n cap : Nat} {ok oki : Nat → Prop} {W : World} {xs : List α} {i : Int} {c : List Value} (h : Kd.H d e W base ok (.slice (some ⟨g, 0, none⟩) n cap) xs i oki c) (h0 : 0 ≤ i) (h1 : i < n) :
    (∀ j u, c[j]? = some u → W.cell? ⟨g, i.toNat * d.sz + j, none⟩ = some u) ∧ ∀ j, W.frozen? ⟨g, i.toNat * d.sz + j, none⟩ = false := by
  obtain ⟨rows, hl, hraw, hcl, hco, hcc, hback⟩ := Kd.H_raw h h0 h1
  obtain ⟨_, _, _, _, hfr⟩ := Kd.R_elem hraw [] i h0 h1
  exact ⟨hcc, hfr⟩
theorem hole_set {α : Type} {d : Kd α} {e base g n cap : Nat} {ok oki : Nat → Prop} {W : World} {xs : List α} {i : Int} {c : List Value} (h : Kd.H d e W base ok (.slice (some ⟨g, 0, none⟩) n cap) xs i oki c) (h0 : 0 ≤ i) (h1 : i < n) {j : Nat} {u : Value} (hj : j + 1 ≤ d.sz) (hu : u.oneCell' = true) :
    Kd.H d e (W.setCells g (i.toNat * d.sz + j) [u]) base ok (.slice (some ⟨g, 0, none⟩) n cap) xs i oki (c.take j ++ [u] ++ c.drop (j + 1)) ∧ W.grownBy (W.setCells g (i.toNat * d.sz + j) [u]) (some g) :=
  Kd.H_seg h h0 h1 (seg := [u]) hj (fun q hq => by rw [List.mem_singleton.1 hq]; exact hu)
/-! ### laws_markMemberS: function 58, by hand -/
def laws_markMemberS.l0 : Nat → List S71 → Int → Int → Option (Int × List S71)
 | 0, _, _, _ => none
 | k + 1, x0, x1, x5 => if x5 < (x0.length : Int) then (if 0 ≤ x5 then ((laws_markIntS.f k (rd_T71 x0 x5).f2 (wrap64 ((wrap64 (x1 + 1)) + 1))).bind fun b2 => laws_markMemberS.l0 k (x0.set (x5 : Int).toNat (⟨x1, wrap64 (x1 + 1), b2.2, b2.1⟩ : S71)) (wrap64 (b2.1 + 1)) (wrap64 (x5 + 1))) else none) else some (x1, x0)
def laws_markMemberS.f (k : Nat) (l0 : List S71) (a1 : Int) : Option (Int × List S71) := laws_markMemberS.l0 k l0 a1 0
set_option maxHeartbeats 8000000 in
set_option maxRecDepth 100000 in
theorem laws_markMemberS.calls (k : Nat) (P0_ : Nat → Prop) (u : Value) (l0 : List S71) (a1 : Int) (r1 : Int) (r2 : List S71) (w0 w : World) (hB : Below w0.heap.size w0 w) (ho0 : Kd.S k71 71 w w0.heap.size P0_ u l0) (h : laws_markMemberS.f k l0 a1 = some (r1, r2)) :
  Calls Try.prog 58 #[u, .int .i64 a1] w fun e w' => e = .returned (.int .i64 r1) ∧ Kd.S k71 71 w' w0.heap.size P0_ u r2 ∧ Below w0.heap.size w0 w' ∧ Kept w w' P0_ := by
 have HO0 := Aside0.mk (show Kd.S k71 71 w w0.heap.size P0_ u l0 from ho0)
 have HK := Aside0.mk (Kept.refl w P0_)
 have HW0 := Aside0.mk hB.size
 have HB := Aside0.mk hB
 clear hB ho0
 have H' := Aside0.mk (show laws_markMemberS.l0 k l0 a1 0 = some (r1, r2) from h)
 clear h
 go_enter Try.func58, Try.ntmps58
 go_wp2
 go_loopg [1, 5] k (fun kq v1 v5 w' => ∃ (x0 : List S71) (x1 : Int) (x5 : Int), v1 = .int .i64 x1 ∧ v5 = .int .i64 x5 ∧ Aside0 (laws_markMemberS.l0 kq x0 x1 x5 = some (r1, r2)) ∧ Aside0 (kq ≤ k) ∧ Aside0 (Kd.S k71 71 w' w0.heap.size P0_ u x0) ∧ Aside0 (Kept w w' P0_) ∧ Aside0 (Below w0.heap.size w0 w'))
 case atStart => exact ⟨l0, a1, 0, (by first | rfl | (simp; done)), (by first | rfl | (simp; done)), H', ⟨Nat.le_refl _⟩, HO0, HK, HB⟩
 clear H'
 obtain ⟨x0, x1, x5, rfl, rfl, HA, HK1, HO, HK, HB⟩ := hrel
 cases gk with
 | zero => exact absurd HA.out (by simp [laws_markMemberS.l0])
 | succ k1 => ?_
 have H := HA.out
 clear HA
 simp only [laws_markMemberS.l0] at H
 by_cases c3 : x5 < (x0.length : Int)
 rotate_left
 · rw [if_neg c3] at H
   have c3b0 : decide (x5 < (x0.length : Int)) = false := decide_eq_false c3
   clear c3
   simp only [Option.some.injEq, Prod.mk.injEq] at H
   obtain ⟨rfl, rfl⟩ := H
   obtain ⟨Ao, co, eo⟩ := Kd.S_slice HO.out
   subst eo
   go_wp2
   go_ret
   exact ⟨rfl, HO.out, HB.out, HK.out⟩
 rw [if_pos c3] at H
 have c3b0 : decide (x5 < (x0.length : Int)) = true := decide_eq_true c3
 by_cases c4 : 0 ≤ x5
 rotate_left
 · rw [if_neg c4] at H
   exact absurd H (by simp)
 rw [if_pos c4] at H
 have c4b0 : decide (0 ≤ x5) = true := decide_eq_true c4
 replace H := Option.bind_eq_some_iff.mp H
 obtain ⟨⟨kb2, lb2⟩, Eb2, H⟩ := H
 dsimp only at H
 replace Eb2 := Aside0.mk Eb2
 have H' := Aside0.mk H
 clear H
 obtain ⟨go, co, eo, gb, gl, cl, HG⟩ := Kd.S_form HO.out (by omega)
 subst eo
 have P := Aside0.mk (show 0 ≤ x5 ∧ x5 < ((x0.length : Nat) : Int) from ⟨c4, c3⟩)
 clear c3 c4
 have GB := Aside0.mk gb
 have HM := Aside0.mk (show P0_ go from (Kd.S_R HO.out).1 _ rfl)
 obtain ⟨oki, ce, hcl, hM, hcc, hfr, hoki0, hH⟩ := Kd.S_elem HO.out z71 x5 P.out.1 P.out.2
 have hoki := Aside0.mk hoki0
 obtain ⟨v2, rfl, hg2⟩ := k71_openM hM
 have HH := Aside0.mk hH

 have p5 := eq_true P.out.1
 have q5 := eq_true P.out.2
 clear hH hM hcl hoki0 gb gl HG cl HO hfr
 obtain ⟨A2, c2, ev2⟩ := Kd.R_slice hg2
 subst ev2
 replace hg2 := Aside0.mk hg2
 clear hcc
 obtain ⟨hcc, hfr⟩ := hole_look HH.out P.out.1 P.out.2
 have hx0 : wr.cell? ⟨go, x5.toNat * 4, none⟩ = some (.int .i64 (rd_T71 x0 x5).f0) := hcc 0 _ rfl
 have hf0 : wr.frozen? ⟨go, x5.toNat * 4, none⟩ = false := hfr 0
 have hx1 : wr.cell? ⟨go, x5.toNat * 4 + 1, none⟩ = some (.int .i64 (rd_T71 x0 x5).f1) := hcc 1 _ rfl
 have hf1 : wr.frozen? ⟨go, x5.toNat * 4 + 1, none⟩ = false := hfr 1
 have hx2 : wr.cell? ⟨go, x5.toNat * 4 + 2, none⟩ = some (.slice A2 (rd_T71 x0 x5).f2.length c2) := hcc 2 _ rfl
 have hf2 : wr.frozen? ⟨go, x5.toNat * 4 + 2, none⟩ = false := hfr 2
 have hx3 : wr.cell? ⟨go, x5.toNat * 4 + 3, none⟩ = some (.int .i64 (rd_T71 x0 x5).f3) := hcc 3 _ rfl
 have hf3 : wr.frozen? ⟨go, x5.toNat * 4 + 3, none⟩ = false := hfr 3
 clear hcc hfr
 go_wp2_with (first | ((with_reducible refine gate_store (t := 3) (p := 16) rfl ?_); refine store_event (t := 3) (p := 16) (v := ?vo_w101) (w1 := (wr.setCell ⟨go, x5.toNat * 4, none⟩ (.int .i64 (x1)))) ?hg ?ho ?hn ?hr ?_; (case ho => rfl); (case hg => rfl); (case hn => rfl); (case hr => first | (go_simp; done) | (go_simp; rfl)); intro w101 hw; obtain ⟨hH, hg⟩ := hole_set HH.out P.out.1 P.out.2 (j := 0) (u := .int .i64 (x1)) (by decide) rfl; replace hH : Kd.H k71 71 w101 w0.heap.size P0_ (.slice (some ⟨go, 0, none⟩) x0.length co) x0 x5 oki [.int .i64 (x1), .int .i64 (rd_T71 x0 x5).f1, .slice A2 (rd_T71 x0 x5).f2.length c2, .int .i64 (rd_T71 x0 x5).f3] := (by rw [hw]; exact hH); replace hg : wr.grownBy w101 (some go) := (by rw [hw]; exact hg); have n2 := Aside0.mk (Kd.R_grown hg2.out hg (fun k_ hk_ e_ => (hoki.out k_ hk_).2 (Option.some.inj e_))); have n_b := Aside0.mk (by rw [hw]; exact below_set (HB.out) GB.out : Below w0.heap.size w0 w101); have n_k := Aside0.mk (Kept.of_grown (S := P0_) hg HK.out (fun k_ e_ => by injection e_ with e_; subst e_; exact .inl HM.out)); clear HH HB HK hg2 hx0 hf0 hx1 hf1 hx2 hf2 hx3 hf3; have HH := Aside0.mk hH; have HB := n_b; have HK := n_k; have hg2 := n2; clear hH hg hw n_b n_k n2; obtain ⟨hcc, hfr⟩ := hole_look HH.out P.out.1 P.out.2; have hx0 : w101.cell? ⟨go, x5.toNat * 4, none⟩ = some (.int .i64 (x1)) := hcc 0 _ rfl; have hf0 : w101.frozen? ⟨go, x5.toNat * 4, none⟩ = false := hfr 0; have hx1 : w101.cell? ⟨go, x5.toNat * 4 + 1, none⟩ = some (.int .i64 (rd_T71 x0 x5).f1) := hcc 1 _ rfl; have hf1 : w101.frozen? ⟨go, x5.toNat * 4 + 1, none⟩ = false := hfr 1; have hx2 : w101.cell? ⟨go, x5.toNat * 4 + 2, none⟩ = some (.slice A2 (rd_T71 x0 x5).f2.length c2) := hcc 2 _ rfl; have hf2 : w101.frozen? ⟨go, x5.toNat * 4 + 2, none⟩ = false := hfr 2; have hx3 : w101.cell? ⟨go, x5.toNat * 4 + 3, none⟩ = some (.int .i64 (rd_T71 x0 x5).f3) := hcc 3 _ rfl; have hf3 : w101.frozen? ⟨go, x5.toNat * 4 + 3, none⟩ = false := hfr 3; clear hcc hfr) | ((with_reducible refine gate_store (t := 3) (p := 23) rfl ?_); refine store_event (t := 3) (p := 23) (v := ?vo_w102) (w1 := (w101.setCell ⟨go, x5.toNat * 4 + 1, none⟩ (.int .i64 (wrap64 (x1 + 1))))) ?hg ?ho ?hn ?hr ?_; (case ho => rfl); (case hg => rfl); (case hn => rfl); (case hr => first | (go_simp; done) | (go_simp; rfl)); intro w102 hw; obtain ⟨hH, hg⟩ := hole_set HH.out P.out.1 P.out.2 (j := 1) (u := .int .i64 (wrap64 (x1 + 1))) (by decide) rfl; replace hH : Kd.H k71 71 w102 w0.heap.size P0_ (.slice (some ⟨go, 0, none⟩) x0.length co) x0 x5 oki [.int .i64 (x1), .int .i64 (wrap64 (x1 + 1)), .slice A2 (rd_T71 x0 x5).f2.length c2, .int .i64 (rd_T71 x0 x5).f3] := (by rw [hw]; exact hH); replace hg : w101.grownBy w102 (some go) := (by rw [hw]; exact hg); have n2 := Aside0.mk (Kd.R_grown hg2.out hg (fun k_ hk_ e_ => (hoki.out k_ hk_).2 (Option.some.inj e_))); have n_b := Aside0.mk (by rw [hw]; exact below_set (HB.out) GB.out : Below w0.heap.size w0 w102); have n_k := Aside0.mk (Kept.of_grown (S := P0_) hg HK.out (fun k_ e_ => by injection e_ with e_; subst e_; exact .inl HM.out)); clear HH HB HK hg2 hx0 hf0 hx1 hf1 hx2 hf2 hx3 hf3; have HH := Aside0.mk hH; have HB := n_b; have HK := n_k; have hg2 := n2; clear hH hg hw n_b n_k n2; obtain ⟨hcc, hfr⟩ := hole_look HH.out P.out.1 P.out.2; have hx0 : w102.cell? ⟨go, x5.toNat * 4, none⟩ = some (.int .i64 (x1)) := hcc 0 _ rfl; have hf0 : w102.frozen? ⟨go, x5.toNat * 4, none⟩ = false := hfr 0; have hx1 : w102.cell? ⟨go, x5.toNat * 4 + 1, none⟩ = some (.int .i64 (wrap64 (x1 + 1))) := hcc 1 _ rfl; have hf1 : w102.frozen? ⟨go, x5.toNat * 4 + 1, none⟩ = false := hfr 1; have hx2 : w102.cell? ⟨go, x5.toNat * 4 + 2, none⟩ = some (.slice A2 (rd_T71 x0 x5).f2.length c2) := hcc 2 _ rfl; have hf2 : w102.frozen? ⟨go, x5.toNat * 4 + 2, none⟩ = false := hfr 2; have hx3 : w102.cell? ⟨go, x5.toNat * 4 + 3, none⟩ = some (.int .i64 (rd_T71 x0 x5).f3) := hcc 3 _ rfl; have hf3 : w102.frozen? ⟨go, x5.toNat * 4 + 3, none⟩ = false := hfr 3; clear hcc hfr) | ((with_reducible refine gate_callee (f := 26) rfl ?_); refine goesL_ (some 32) rfl rfl Try.func26 (by kernel_rfl) rfl #[.slice A2 (rd_T71 x0 x5).f2.length c2, .int .i64 (wrap64 ((wrap64 (x1 + 1)) + 1))] rfl (by (try simp only [List.map_toArray, List.map_cons, List.map_nil]); first | done | rfl | (simp only [List.length_drop, List.length_take]; rfl)) ?_; (with_reducible refine (laws_markIntS.calls k1 (fun k_ => some k_ = (Value.slice A2 (rd_T71 x0 x5).f2.length c2).ownBlock) _ (rd_T71 x0 x5).f2 (wrap64 ((wrap64 (x1 + 1)) + 1)) kb2 lb2 w0 _ HB.out ?s1 Eb2.out).mono ?_); (case s1 => exact Kd.R_tight rfl hg2.out); rintro e w103 ⟨rfl, ho_, hb_, hk_⟩; refine ⟨_, rfl, ?_⟩; have hin_ := fun k_ (e_ : some k_ = (Value.slice A2 (rd_T71 x0 x5).f2.length c2).ownBlock) => hg2.out.1 k_ e_.symm; have n2 := Aside0.mk (Kd.R_mono (Kd.R_tight rfl ho_) (ok' := oki) (fun k_ e_ => hin_ k_ e_)); have n_h := Aside0.mk (Kd.H_kept HH.out hk_ (fun k_ _ hn_ e_ => hn_ (hin_ k_ e_))); have n_b := Aside0.mk hb_; have n_k := Aside0.mk (Kept.then_ HK.out hk_ (fun k_ e_ => Or.inl (hoki.out k_ (hin_ k_ e_)).1)); clear HH HB HK ho_ hb_ hk_ hin_ hg2 hx0 hf0 hx1 hf1 hx2 hf2 hx3 hf3; have HH := n_h; have HB := n_b; have HK := n_k; have hg2 := n2; clear n_h n_b n_k n2; obtain ⟨hcc, hfr⟩ := hole_look HH.out P.out.1 P.out.2; have hx0 : w103.cell? ⟨go, x5.toNat * 4, none⟩ = some (.int .i64 (x1)) := hcc 0 _ rfl; have hf0 : w103.frozen? ⟨go, x5.toNat * 4, none⟩ = false := hfr 0; have hx1 : w103.cell? ⟨go, x5.toNat * 4 + 1, none⟩ = some (.int .i64 (wrap64 (x1 + 1))) := hcc 1 _ rfl; have hf1 : w103.frozen? ⟨go, x5.toNat * 4 + 1, none⟩ = false := hfr 1; have hx2 : w103.cell? ⟨go, x5.toNat * 4 + 2, none⟩ = some (.slice A2 (rd_T71 x0 x5).f2.length c2) := hcc 2 _ rfl; have hf2 : w103.frozen? ⟨go, x5.toNat * 4 + 2, none⟩ = false := hfr 2; have hx3 : w103.cell? ⟨go, x5.toNat * 4 + 3, none⟩ = some (.int .i64 (rd_T71 x0 x5).f3) := hcc 3 _ rfl; have hf3 : w103.frozen? ⟨go, x5.toNat * 4 + 3, none⟩ = false := hfr 3; clear hcc hfr) | ((with_reducible refine gate_store (t := 3) (p := 37) rfl ?_); refine store_event (t := 3) (p := 37) (v := ?vo_w104) (w1 := (w103.setCell ⟨go, x5.toNat * 4 + 3, none⟩ (.int .i64 (kb2)))) ?hg ?ho ?hn ?hr ?_; (case ho => rfl); (case hg => rfl); (case hn => rfl); (case hr => first | (go_simp; done) | (go_simp; rfl)); intro w104 hw; obtain ⟨hH, hg⟩ := hole_set HH.out P.out.1 P.out.2 (j := 3) (u := .int .i64 (kb2)) (by decide) rfl; replace hH : Kd.H k71 71 w104 w0.heap.size P0_ (.slice (some ⟨go, 0, none⟩) x0.length co) x0 x5 oki [.int .i64 (x1), .int .i64 (wrap64 (x1 + 1)), .slice A2 (rd_T71 x0 x5).f2.length c2, .int .i64 (kb2)] := (by rw [hw]; exact hH); replace hg : w103.grownBy w104 (some go) := (by rw [hw]; exact hg); have n2 := Aside0.mk (Kd.R_grown hg2.out hg (fun k_ hk_ e_ => (hoki.out k_ hk_).2 (Option.some.inj e_))); have n_b := Aside0.mk (by rw [hw]; exact below_set (HB.out) GB.out : Below w0.heap.size w0 w104); have n_k := Aside0.mk (Kept.of_grown (S := P0_) hg HK.out (fun k_ e_ => by injection e_ with e_; subst e_; exact .inl HM.out)); clear HH HB HK hg2 hx0 hf0 hx1 hf1 hx2 hf2 hx3 hf3; have HH := Aside0.mk hH; have HB := n_b; have HK := n_k; have hg2 := n2; clear hH hg hw n_b n_k n2; obtain ⟨hcc, hfr⟩ := hole_look HH.out P.out.1 P.out.2; have hx0 : w104.cell? ⟨go, x5.toNat * 4, none⟩ = some (.int .i64 (x1)) := hcc 0 _ rfl; have hf0 : w104.frozen? ⟨go, x5.toNat * 4, none⟩ = false := hfr 0; have hx1 : w104.cell? ⟨go, x5.toNat * 4 + 1, none⟩ = some (.int .i64 (wrap64 (x1 + 1))) := hcc 1 _ rfl; have hf1 : w104.frozen? ⟨go, x5.toNat * 4 + 1, none⟩ = false := hfr 1; have hx2 : w104.cell? ⟨go, x5.toNat * 4 + 2, none⟩ = some (.slice A2 (rd_T71 x0 x5).f2.length c2) := hcc 2 _ rfl; have hf2 : w104.frozen? ⟨go, x5.toNat * 4 + 2, none⟩ = false := hfr 2; have hx3 : w104.cell? ⟨go, x5.toNat * 4 + 3, none⟩ = some (.int .i64 (kb2)) := hcc 3 _ rfl; have hf3 : w104.frozen? ⟨go, x5.toNat * 4 + 3, none⟩ = false := hfr 3; clear hcc hfr))
 have RF2 := hg2.out
 have HF := Kd.H_back HH.out (okp := oki) (x' := (⟨x1, wrap64 (x1 + 1), lb2, kb2⟩ : S71)) (k71_mkM _ _ oki (⟨x1, wrap64 (x1 + 1), lb2, kb2⟩ : S71) RF2) (fun _ hk => hk)
 have HF' := Aside0.mk HF
 clear HF RF2 HH hg2
 go_roundg k1
 case measure => have := HK1.out; omega
 case rel => exact ⟨_, _, _, (by first | rfl | (simp; done)), (by first | rfl | (simp; done)), H', ⟨by have := HK1.out; omega⟩, HF', HK, HB⟩
/-! ### laws_markFence: function 34, by hand -/
def laws_markFence.f (k : Nat) (a0 : Int) (a1 : Int) (l2 : List S71) (l3 : List Int) (a : Int) : Option (Int × List S71 × List Int) := (laws_markMemberS.f k l2 a).bind fun b2 => (laws_markIntS.f k l3 b2.1).bind fun b3 => some (b3.1, b2.2, b3.2)
set_option maxHeartbeats 8000000 in
set_option maxRecDepth 100000 in
theorem laws_markFence.calls (k : Nat) (a0 : Int) (a1 : Int) (P2 : Nat → Prop) (u2 : Value) (l2 : List S71) (P3 : Nat → Prop) (u3 : Value) (l3 : List Int) (a : Int) (r : Int) (r2 : List S71) (r3 : List Int) (w0 w : World) (hB : Below w0.heap.size w0 w) (ho2 : Kd.S k71 71 w w0.heap.size P2 u2 l2) (hp2_3 : ∀ k_, P2 k_ → ¬ P3 k_) (ho3 : Kd.R (Kd.int .i64) 3 w w0.heap.size P3 u3 l3) (hp3_2 : ∀ k_, P3 k_ → ¬ P2 k_) (h : laws_markFence.f k a0 a1 l2 l3 a = some (r, r2, r3)) :
  Calls Try.prog 34 #[.agg #[.int .i64 a0, .int .i64 a1, u2, u3], .int .i64 a] w fun e w' => e = .returned (.int .i64 r) ∧ Kd.S k71 71 w' w0.heap.size P2 u2 r2 ∧ Kd.R (Kd.int .i64) 3 w' w0.heap.size P3 u3 r3 ∧ Below w0.heap.size w0 w' ∧ Kept w w' (fun k_ => P2 k_ ∨ P3 k_) := by
 unfold laws_markFence.f at h
 replace h := Option.bind_eq_some_iff.mp h
 obtain ⟨⟨k2, q2⟩, E2, h⟩ := h
 dsimp only at h E2
 replace E2 := Aside0.mk E2
 replace h := Option.bind_eq_some_iff.mp h
 obtain ⟨⟨k3, q3⟩, E3, h⟩ := h
 dsimp only at h E3
 replace E3 := Aside0.mk E3
 simp only [Option.some.injEq, Prod.mk.injEq] at h
 obtain ⟨rfl, rfl, rfl⟩ := h
 obtain ⟨A2, c2, rfl⟩ := Kd.S_slice ho2
 have HO2 := Aside0.mk (Kd.S_mono (ok' := fun k_ => P2 k_ ∧ k_ < w.heap.size) (Kd.S_bound ho2) (fun k_ h_ => ⟨h_.1, h_.2.2.1⟩))
 obtain ⟨A3, c3, rfl⟩ := Kd.R_slice ho3
 have HO3 := Aside0.mk (Kd.R_mono (ok' := fun k_ => P3 k_ ∧ k_ < w.heap.size) (Kd.R_bound ho3) (fun k_ h_ => ⟨h_.1, h_.2.2.1⟩))
 have HB := Aside0.mk hB
 have HK := Aside0.mk (Kept.refl w (fun k_ => P2 k_ ∨ P3 k_))
 have hu := Try.underlying50
 have HP2_3 := Aside0.mk hp2_3
 have HP3_2 := Aside0.mk hp3_2
 clear hB ho2 ho3 hp2_3 hp3_2
 go_enter Try.func34, Try.ntmps34
 go_wp2_with (first | ((with_reducible refine gate_dst (N := 2) rfl ?_); refine box_event ?hg (N := 2) ?hd (cs := #[.int .i64 a0, .int .i64 a1, .slice A2 l2.length c2, .slice A3 l3.length c3]) (t := 50) ?hr ?_; (case hd => rfl); (case hg => rfl); (case hr => first | (go_simp; done) | (go_simp; rfl)); intro gb hg w1 hbox hb; have n_2 := Aside0.mk (Kd.S_below HO2.out hb); have n_3 := Aside0.mk (Kd.R_below HO3.out hb); have n_b := Aside0.mk (below_step HB.out hb); have n_k := Aside0.mk (Kept.below HK.out hb); have n_g := Aside0.mk (Nat.le_of_eq hg.symm); have n_x := Aside0.mk hbox; clear HB HK HO2 HO3; have HB := n_b; have HK := n_k; have HG := n_g; have BK := n_x; have HO2 := n_2; have HO3 := n_3; clear n_b n_k n_g n_x n_2 n_3 hbox hb hg; have hx0 : w1.cell? ⟨gb, 0, none⟩ = some (.int .i64 a0) := (blk_cell BK.out 0).trans rfl; have hx1 : w1.cell? ⟨gb, 1, none⟩ = some (.int .i64 a1) := (blk_cell BK.out 1).trans rfl; have hx2 : w1.cell? ⟨gb, 2, none⟩ = some (.slice A2 l2.length c2) := (blk_cell BK.out 2).trans rfl; have hx3 : w1.cell? ⟨gb, 3, none⟩ = some (.slice A3 l3.length c3) := (blk_cell BK.out 3).trans rfl; have hf0 := blk_frozen BK.out 0; have hf1 := blk_frozen BK.out 1; have hf2 := blk_frozen BK.out 2; have hf3 := blk_frozen BK.out 3) | ((with_reducible refine gate_callee (f := 58) rfl ?_); refine goesL_ (some 8) rfl rfl Try.func58 (by kernel_rfl) rfl #[.slice A2 l2.length c2, .int .i64 a] rfl (by (try simp only [List.map_toArray, List.map_cons, List.map_nil]); first | done | rfl) ?_; (with_reducible refine (laws_markMemberS.calls k (fun k_ => P2 k_ ∧ k_ < w.heap.size) _ l2 a k2 q2 w0 _ HB.out ?s1 E2.out).mono ?_); (case s1 => exact HO2.out); rintro e w2 ⟨rfl, ho_, hb_, hk_⟩; refine ⟨_, rfl, ?_⟩; have n_2 := Aside0.mk ho_; have n_3 := Aside0.mk (Kd.R_kept HO3.out hk_ (fun k_ h_ h2_ => HP3_2.out k_ h_.1 h2_.1)); have n_b := Aside0.mk hb_; have n_k := Aside0.mk (Kept.then_ HK.out hk_ (fun k_ h_ => Or.inl (.inl h_.1))); have n_x := Aside0.mk (blk_kept BK.out hk_ (fun h_ => by have := HG.out; have h2_ := h_.2; omega)); clear HB HK HO2 HO3 BK ho_ hb_ hk_ hx0 hf0 hx1 hf1 hx2 hf2 hx3 hf3; have HB := n_b; have HK := n_k; have HO2 := n_2; have HO3 := n_3; have BK := n_x; clear n_b n_k n_2 n_3 n_x; have hx0 : w2.cell? ⟨gb, 0, none⟩ = some (.int .i64 a0) := (blk_cell BK.out 0).trans rfl; have hx1 : w2.cell? ⟨gb, 1, none⟩ = some (.int .i64 a1) := (blk_cell BK.out 1).trans rfl; have hx2 : w2.cell? ⟨gb, 2, none⟩ = some (.slice A2 l2.length c2) := (blk_cell BK.out 2).trans rfl; have hx3 : w2.cell? ⟨gb, 3, none⟩ = some (.slice A3 l3.length c3) := (blk_cell BK.out 3).trans rfl; have hf0 := blk_frozen BK.out 0; have hf1 := blk_frozen BK.out 1; have hf2 := blk_frozen BK.out 2; have hf3 := blk_frozen BK.out 3) | ((with_reducible refine gate_callee (f := 26) rfl ?_); refine goesL_ (some 12) rfl rfl Try.func26 (by kernel_rfl) rfl #[.slice A3 l3.length c3, .int .i64 k2] rfl (by (try simp only [List.map_toArray, List.map_cons, List.map_nil]); first | done | rfl) ?_; (with_reducible refine (laws_markIntS.calls k (fun k_ => some k_ = (Value.slice A3 l3.length c3).ownBlock) _ l3 k2 k3 q3 w0 _ HB.out ?s1 E3.out).mono ?_); (case s1 => exact Kd.R_tight rfl HO3.out); rintro e w3 ⟨rfl, ho_, hb_, hk0_⟩; refine ⟨_, rfl, ?_⟩; have hk_ := Kept.mono (S' := fun k_ => P3 k_ ∧ k_ < w.heap.size) hk0_ (fun k_ e_ => HO3.out.1 k_ e_.symm); have n_3 := Aside0.mk (Kd.R_mono (Kd.R_tight rfl ho_) (ok' := fun k_ => P3 k_ ∧ k_ < w.heap.size) (fun k_ e_ => HO3.out.1 k_ e_.symm)); clear hk0_; have n_2 := Aside0.mk (Kd.S_kept HO2.out hk_ (fun k_ h_ h2_ => HP2_3.out k_ h_.1 h2_.1)); have n_b := Aside0.mk hb_; have n_k := Aside0.mk (Kept.then_ HK.out hk_ (fun k_ h_ => Or.inl (.inr h_.1))); have n_x := Aside0.mk (blk_kept BK.out hk_ (fun h_ => by have := HG.out; have h2_ := h_.2; omega)); clear HB HK HO2 HO3 BK ho_ hb_ hk_ hx0 hf0 hx1 hf1 hx2 hf2 hx3 hf3; have HB := n_b; have HK := n_k; have HO2 := n_2; have HO3 := n_3; have BK := n_x; clear n_b n_k n_2 n_3 n_x; have hx0 : w3.cell? ⟨gb, 0, none⟩ = some (.int .i64 a0) := (blk_cell BK.out 0).trans rfl; have hx1 : w3.cell? ⟨gb, 1, none⟩ = some (.int .i64 a1) := (blk_cell BK.out 1).trans rfl; have hx2 : w3.cell? ⟨gb, 2, none⟩ = some (.slice A2 l2.length c2) := (blk_cell BK.out 2).trans rfl; have hx3 : w3.cell? ⟨gb, 3, none⟩ = some (.slice A3 l3.length c3) := (blk_cell BK.out 3).trans rfl; have hf0 := blk_frozen BK.out 0; have hf1 := blk_frozen BK.out 1; have hf2 := blk_frozen BK.out 2; have hf3 := blk_frozen BK.out 3))
 go_ret
 exact ⟨rfl, Kd.S_mono HO2.out (fun _ h_ => h_.1), Kd.R_mono HO3.out (fun _ h_ => h_.1), HB.out, HK.out⟩

end Go.Proofs.Ytbnadnfggpnbgaa.PNF
