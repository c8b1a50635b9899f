/- What this text proves (a hand-built part): the machine calls of the marking functions return what the plain functions say. Conditions: as each theorem says. -/
import Derived.Test.YtjpaoeeeiklfnaaPSYx0
import Derived.Test.YtjpaoeeeiklfnaaPSYx1
import Derived.Test.YtjpaoeeeiklfnaaPSYx2
import Derived.Test.YtjpaoeeeiklfnaaPSYx3
import Derived.Test.YtjpaoeeeiklfnaaPSYx4
import Derived.Test.YtjpaoeeeiklfnaaPSYx5
import Derived.Test.YtjpaoeeeiklfnaaPSYx6
import Derived.Test.YtjpaoeeeiklfnaaPSYx7
import Derived.Test.YtjpaoeeeiklfnaaPSYx8
import Derived.Test.YtjpaoeeeiklfnaaPSYx9
import Derived.Test.YtjpaoeeeiklfnaaPSYx10
namespace Go.Proofs.Ytjpaoeeeiklfnaa.PSY
open Go.RowKit Go.Proofs.YtjpaoeeeiklfnaaW.PrintWords Go.Proofs.YtjpaoeeeiklfnaaW.PrintLast Go.Proofs.YtjpaoeeeiklfnaaW.PrintMore
attribute [local go_sem] max2_int min2_int max_two min_two max_three min_three max_four min_four   -- for this text's walks alone
set_option linter.unusedVariables false
set_option linter.unusedSimpArgs false
theorem hole_look {α : Type} {d : Kd α} {e base g n cap : Nat} {ok oki : Nat → Prop} {W : World} {xs : List α} {i : Int} {c : List Value} (h : Kd.H d e W base ok (.slice (some ⟨g, 0, none⟩) n cap) xs i oki c) (h0 : 0 ≤ i) (h1 : i < n) :
    (∀ j u, c[j]? = some u → W.cell? ⟨g, i.toNat * d.sz + j, none⟩ = some u) ∧ ∀ j, W.frozen? ⟨g, i.toNat * d.sz + j, none⟩ = false := by
  obtain ⟨rows, hl, hraw, hcl, hco, hcc, hback⟩ := Kd.H_raw h h0 h1
  obtain ⟨_, _, _, _, hfr⟩ := Kd.R_elem hraw [] i h0 h1
  exact ⟨hcc, hfr⟩
theorem hole_set {α : Type} {d : Kd α} {e base g n cap : Nat} {ok oki : Nat → Prop} {W : World} {xs : List α} {i : Int} {c : List Value} (h : Kd.H d e W base ok (.slice (some ⟨g, 0, none⟩) n cap) xs i oki c) (h0 : 0 ≤ i) (h1 : i < n) {j : Nat} {u : Value} (hj : j + 1 ≤ d.sz) (hu : u.oneCell' = true) :
    Kd.H d e (W.setCells g (i.toNat * d.sz + j) [u]) base ok (.slice (some ⟨g, 0, none⟩) n cap) xs i oki (c.take j ++ [u] ++ c.drop (j + 1)) ∧ W.grownBy (W.setCells g (i.toNat * d.sz + j) [u]) (some g) :=
  Kd.H_seg h h0 h1 (seg := [u]) hj (fun q hq => by rw [List.mem_singleton.1 hq]; exact hu)
/-! ### laws_markProposerS: function 36, by hand -/
def laws_markProposerS.l0 : Nat → List S54 → Int → Int → Option (Int × List S54)
 | 0, _, _, _ => none
 | k + 1, x0, x1, x5 => if x5 < (x0.length : Int) then (if 0 ≤ x5 then ((laws_markText.f k x1).bind fun m0 => ((laws_markPromiseS.f k (rd_T54 x0 x5).f1 (wrap64 (x1 + 1))).bind fun b1 => ((laws_markText.f k (wrap64 (b1.1 + 1))).bind fun m3 => ((laws_markIntS.f k (rd_T54 x0 x5).f4 (wrap64 ((wrap64 (b1.1 + 1)) + 1))).bind fun b4 => laws_markProposerS.l0 k (x0.set (x5 : Int).toNat (⟨m0, b1.2, ((Int.tmod b1.1 3) == 0), m3, b4.2⟩ : S54)) b4.1 (wrap64 (x5 + 1)))))) else none) else some (x1, x0)
def laws_markProposerS.f (k : Nat) (l0 : List S54) (a1 : Int) : Option (Int × List S54) := laws_markProposerS.l0 k l0 a1 0
set_option maxHeartbeats 8000000 in
set_option maxRecDepth 100000 in
theorem laws_markProposerS.calls (k : Nat) (P0_ : Nat → Prop) (u : Value) (l0 : List S54) (a1 : Int) (r1 : Int) (r2 : List S54) (w0 w : World) (hB : Below w0.heap.size w0 w) (ho0 : Kd.S k54 54 w w0.heap.size P0_ u l0) (h : laws_markProposerS.f k l0 a1 = some (r1, r2)) :
  Calls Try.prog 36 #[u, .int .i64 a1] w fun e w' => e = .returned (.int .i64 r1) ∧ Kd.S k54 54 w' w0.heap.size P0_ u r2 ∧ Below w0.heap.size w0 w' ∧ Kept w w' P0_ := by
 have HO0 := Aside0.mk (show Kd.S k54 54 w w0.heap.size P0_ u l0 from ho0)
 have HK := Aside0.mk (Kept.refl w P0_)
 have HW0 := Aside0.mk hB.size
 have HB := Aside0.mk hB
 clear hB ho0
 have H' := Aside0.mk (show laws_markProposerS.l0 k l0 a1 0 = some (r1, r2) from h)
 clear h
 go_enter Try.func36, Try.ntmps36
 go_wp2
 go_loopg [1, 5] k (fun kq v1 v5 w' => ∃ (x0 : List S54) (x1 : Int) (x5 : Int), v1 = .int .i64 x1 ∧ v5 = .int .i64 x5 ∧ Aside0 (laws_markProposerS.l0 kq x0 x1 x5 = some (r1, r2)) ∧ Aside0 (kq ≤ k) ∧ Aside0 (Kd.S k54 54 w' w0.heap.size P0_ u x0) ∧ Aside0 (Kept w w' P0_) ∧ Aside0 (Below w0.heap.size w0 w'))
 case atStart => exact ⟨l0, a1, 0, (by first | rfl | (simp; done)), (by first | rfl | (simp; done)), H', ⟨Nat.le_refl _⟩, HO0, HK, HB⟩
 clear H'
 obtain ⟨x0, x1, x5, rfl, rfl, HA, HK1, HO, HK, HB⟩ := hrel
 cases gk with
 | zero => exact absurd HA.out (by simp [laws_markProposerS.l0])
 | succ k1 => ?_
 have H := HA.out
 clear HA
 simp only [laws_markProposerS.l0] at H
 by_cases c3 : x5 < (x0.length : Int)
 rotate_left
 · rw [if_neg c3] at H
   have c3b0 : decide (x5 < (x0.length : Int)) = false := decide_eq_false c3
   clear c3
   simp only [Option.some.injEq, Prod.mk.injEq] at H
   obtain ⟨rfl, rfl⟩ := H
   obtain ⟨Ao, co, eo⟩ := Kd.S_slice HO.out
   subst eo
   go_wp2
   go_ret
   exact ⟨rfl, HO.out, HB.out, HK.out⟩
 rw [if_pos c3] at H
 have c3b0 : decide (x5 < (x0.length : Int)) = true := decide_eq_true c3
 by_cases c4 : 0 ≤ x5
 rotate_left
 · rw [if_neg c4] at H
   exact absurd H (by simp)
 rw [if_pos c4] at H
 have c4b0 : decide (0 ≤ x5) = true := decide_eq_true c4
 replace H := Option.bind_eq_some_iff.mp H
 obtain ⟨m0, Em0, H⟩ := H
 replace Em0 := Aside0.mk Em0
 replace H := Option.bind_eq_some_iff.mp H
 obtain ⟨⟨kb1, lb1⟩, Eb1, H⟩ := H
 dsimp only at H
 replace Eb1 := Aside0.mk Eb1
 replace H := Option.bind_eq_some_iff.mp H
 obtain ⟨m3, Em3, H⟩ := H
 replace Em3 := Aside0.mk Em3
 replace H := Option.bind_eq_some_iff.mp H
 obtain ⟨⟨kb4, lb4⟩, Eb4, H⟩ := H
 dsimp only at H
 replace Eb4 := Aside0.mk Eb4
 have H' := Aside0.mk H
 clear H
 obtain ⟨go, co, eo, gb, gl, cl, HG⟩ := Kd.S_form HO.out (by omega)
 subst eo
 have P := Aside0.mk (show 0 ≤ x5 ∧ x5 < ((x0.length : Nat) : Int) from ⟨c4, c3⟩)
 clear c3 c4
 have GB := Aside0.mk gb
 have HM := Aside0.mk (show P0_ go from (Kd.S_R HO.out).1 _ rfl)
 obtain ⟨oki, ce, hcl, hM, hcc, hfr, hoki0, hH⟩ := Kd.S_elem HO.out z54 x5 P.out.1 P.out.2
 have hoki := Aside0.mk hoki0
 obtain ⟨v1, v4, rfl, hg1, hg4⟩ := k54_openM hM
 have HH := Aside0.mk hH

 have p5 := eq_true P.out.1
 have q5 := eq_true P.out.2
 clear hH hM hcl hoki0 gb gl HG cl HO hfr
 obtain ⟨A1, c1, ev1⟩ := Kd.R_slice hg1
 subst ev1
 replace hg1 := Aside0.mk hg1
 obtain ⟨A4, c4, ev4⟩ := Kd.R_slice hg4
 subst ev4
 replace hg4 := Aside0.mk hg4
 clear hcc
 obtain ⟨hcc, hfr⟩ := hole_look HH.out P.out.1 P.out.2
 have hx0 : wr.cell? ⟨go, x5.toNat * 5, none⟩ = some (.string (rd_T54 x0 x5).f0) := hcc 0 _ rfl
 have hf0 : wr.frozen? ⟨go, x5.toNat * 5, none⟩ = false := hfr 0
 have hx1 : wr.cell? ⟨go, x5.toNat * 5 + 1, none⟩ = some (.slice A1 (rd_T54 x0 x5).f1.length c1) := hcc 1 _ rfl
 have hf1 : wr.frozen? ⟨go, x5.toNat * 5 + 1, none⟩ = false := hfr 1
 have hx2 : wr.cell? ⟨go, x5.toNat * 5 + 2, none⟩ = some (.bool (rd_T54 x0 x5).f2) := hcc 2 _ rfl
 have hf2 : wr.frozen? ⟨go, x5.toNat * 5 + 2, none⟩ = false := hfr 2
 have hx3 : wr.cell? ⟨go, x5.toNat * 5 + 3, none⟩ = some (.string (rd_T54 x0 x5).f3) := hcc 3 _ rfl
 have hf3 : wr.frozen? ⟨go, x5.toNat * 5 + 3, none⟩ = false := hfr 3
 have hx4 : wr.cell? ⟨go, x5.toNat * 5 + 4, none⟩ = some (.slice A4 (rd_T54 x0 x5).f4.length c4) := hcc 4 _ rfl
 have hf4 : wr.frozen? ⟨go, x5.toNat * 5 + 4, none⟩ = false := hfr 4
 clear hcc hfr
 go_wp2_with (first | ((with_reducible refine gate_callee (f := 37) rfl ?_); refine goesL_ (some 15) rfl rfl Try.func37 (by kernel_rfl) rfl #[.int .i64 (x1)] rfl (by (try simp only [List.map_toArray, List.map_cons, List.map_nil]); first | done | rfl) ?_; (with_reducible refine (laws_markText.calls k1 (x1) m0 _ Em0.out).mono ?_); rintro e w201 ⟨rfl, hb_⟩; refine ⟨_, rfl, ?_⟩; have n1 := Aside0.mk (Kd.R_below hg1.out hb_); have n4 := Aside0.mk (Kd.R_below hg4.out hb_); have n_h := Aside0.mk (Kd.H_below HH.out hb_); have n_b := Aside0.mk (below_step HB.out hb_); have n_k := Aside0.mk (Kept.below HK.out hb_); clear HH HB HK hb_ hg1 hg4 hx0 hf0 hx1 hf1 hx2 hf2 hx3 hf3 hx4 hf4; have HH := n_h; have HB := n_b; have HK := n_k; have hg1 := n1; have hg4 := n4; clear n_h n_b n_k n1 n4; obtain ⟨hcc, hfr⟩ := hole_look HH.out P.out.1 P.out.2; have hx0 : w201.cell? ⟨go, x5.toNat * 5, none⟩ = some (.string (rd_T54 x0 x5).f0) := hcc 0 _ rfl; have hf0 : w201.frozen? ⟨go, x5.toNat * 5, none⟩ = false := hfr 0; have hx1 : w201.cell? ⟨go, x5.toNat * 5 + 1, none⟩ = some (.slice A1 (rd_T54 x0 x5).f1.length c1) := hcc 1 _ rfl; have hf1 : w201.frozen? ⟨go, x5.toNat * 5 + 1, none⟩ = false := hfr 1; have hx2 : w201.cell? ⟨go, x5.toNat * 5 + 2, none⟩ = some (.bool (rd_T54 x0 x5).f2) := hcc 2 _ rfl; have hf2 : w201.frozen? ⟨go, x5.toNat * 5 + 2, none⟩ = false := hfr 2; have hx3 : w201.cell? ⟨go, x5.toNat * 5 + 3, none⟩ = some (.string (rd_T54 x0 x5).f3) := hcc 3 _ rfl; have hf3 : w201.frozen? ⟨go, x5.toNat * 5 + 3, none⟩ = false := hfr 3; have hx4 : w201.cell? ⟨go, x5.toNat * 5 + 4, none⟩ = some (.slice A4 (rd_T54 x0 x5).f4.length c4) := hcc 4 _ rfl; have hf4 : w201.frozen? ⟨go, x5.toNat * 5 + 4, none⟩ = false := hfr 4; clear hcc hfr) | ((with_reducible refine gate_store (t := 9) (p := 17) rfl ?_); refine store_event (t := 9) (p := 17) (v := ?vo_w101) (w1 := (w201.setCell ⟨go, x5.toNat * 5, none⟩ (.string m0))) ?hg ?ho ?hn ?hr ?_; (case ho => rfl); (case hg => rfl); (case hn => rfl); (case hr => first | (go_simp; done) | (go_simp; rfl)); intro w101 hw; obtain ⟨hH, hg⟩ := hole_set HH.out P.out.1 P.out.2 (j := 0) (u := .string m0) (by decide) rfl; replace hH : Kd.H k54 54 w101 w0.heap.size P0_ (.slice (some ⟨go, 0, none⟩) x0.length co) x0 x5 oki [.string m0, .slice A1 (rd_T54 x0 x5).f1.length c1, .bool (rd_T54 x0 x5).f2, .string (rd_T54 x0 x5).f3, .slice A4 (rd_T54 x0 x5).f4.length c4] := (by rw [hw]; exact hH); replace hg : w201.grownBy w101 (some go) := (by rw [hw]; exact hg); have n1 := Aside0.mk (Kd.R_grown hg1.out hg (fun k_ hk_ e_ => (hoki.out k_ hk_).2 (Option.some.inj e_))); have n4 := Aside0.mk (Kd.R_grown hg4.out hg (fun k_ hk_ e_ => (hoki.out k_ hk_).2 (Option.some.inj e_))); have n_b := Aside0.mk (by rw [hw]; exact below_set (HB.out) GB.out : Below w0.heap.size w0 w101); have n_k := Aside0.mk (Kept.of_grown (S := P0_) hg HK.out (fun k_ e_ => by injection e_ with e_; subst e_; exact .inl HM.out)); clear HH HB HK hg1 hg4 hx0 hf0 hx1 hf1 hx2 hf2 hx3 hf3 hx4 hf4; have HH := Aside0.mk hH; have HB := n_b; have HK := n_k; have hg1 := n1; have hg4 := n4; clear hH hg hw n_b n_k n1 n4; obtain ⟨hcc, hfr⟩ := hole_look HH.out P.out.1 P.out.2; have hx0 : w101.cell? ⟨go, x5.toNat * 5, none⟩ = some (.string m0) := hcc 0 _ rfl; have hf0 : w101.frozen? ⟨go, x5.toNat * 5, none⟩ = false := hfr 0; have hx1 : w101.cell? ⟨go, x5.toNat * 5 + 1, none⟩ = some (.slice A1 (rd_T54 x0 x5).f1.length c1) := hcc 1 _ rfl; have hf1 : w101.frozen? ⟨go, x5.toNat * 5 + 1, none⟩ = false := hfr 1; have hx2 : w101.cell? ⟨go, x5.toNat * 5 + 2, none⟩ = some (.bool (rd_T54 x0 x5).f2) := hcc 2 _ rfl; have hf2 : w101.frozen? ⟨go, x5.toNat * 5 + 2, none⟩ = false := hfr 2; have hx3 : w101.cell? ⟨go, x5.toNat * 5 + 3, none⟩ = some (.string (rd_T54 x0 x5).f3) := hcc 3 _ rfl; have hf3 : w101.frozen? ⟨go, x5.toNat * 5 + 3, none⟩ = false := hfr 3; have hx4 : w101.cell? ⟨go, x5.toNat * 5 + 4, none⟩ = some (.slice A4 (rd_T54 x0 x5).f4.length c4) := hcc 4 _ rfl; have hf4 : w101.frozen? ⟨go, x5.toNat * 5 + 4, none⟩ = false := hfr 4; clear hcc hfr) | ((with_reducible refine gate_callee (f := 59) rfl ?_); refine goesL_ (some 26) rfl rfl Try.func59 (by kernel_rfl) rfl #[.slice A1 (rd_T54 x0 x5).f1.length c1, .int .i64 (wrap64 (x1 + 1))] rfl (by (try simp only [List.map_toArray, List.map_cons, List.map_nil]); first | done | rfl | (simp only [List.length_drop, List.length_take]; rfl)) ?_; (with_reducible refine (laws_markPromiseS.calls k1 (fun k_ => some k_ = (Value.slice A1 (rd_T54 x0 x5).f1.length c1).ownBlock) _ (rd_T54 x0 x5).f1 (wrap64 (x1 + 1)) kb1 lb1 w0 _ HB.out ?s1 Eb1.out).mono ?_); (case s1 => exact Kd.R_tight rfl hg1.out); rintro e w102 ⟨rfl, ho_, hb_, hk_⟩; refine ⟨_, rfl, ?_⟩; have hin_ := fun k_ (e_ : some k_ = (Value.slice A1 (rd_T54 x0 x5).f1.length c1).ownBlock) => hg1.out.1 k_ e_.symm; have n1 := Aside0.mk (Kd.R_mono (Kd.R_tight rfl ho_) (ok' := oki) (fun k_ e_ => hin_ k_ e_)); have n4 := Aside0.mk (Kd.R_mono (Kd.R_kept (Kd.R_apart' hg4.out (v := Value.slice A1 (rd_T54 x0 x5).f1.length c1) (Kd.R_typed hg1.out) (by decide)) hk_ (fun k_ h_ e_ => h_.2 e_)) (fun _ h_ => h_.1)); have n_h := Aside0.mk (Kd.H_kept HH.out hk_ (fun k_ _ hn_ e_ => hn_ (hin_ k_ e_))); have n_b := Aside0.mk hb_; have n_k := Aside0.mk (Kept.then_ HK.out hk_ (fun k_ e_ => Or.inl (hoki.out k_ (hin_ k_ e_)).1)); clear HH HB HK ho_ hb_ hk_ hin_ hg1 hg4 hx0 hf0 hx1 hf1 hx2 hf2 hx3 hf3 hx4 hf4; have HH := n_h; have HB := n_b; have HK := n_k; have hg1 := n1; have hg4 := n4; clear n_h n_b n_k n1 n4; obtain ⟨hcc, hfr⟩ := hole_look HH.out P.out.1 P.out.2; have hx0 : w102.cell? ⟨go, x5.toNat * 5, none⟩ = some (.string m0) := hcc 0 _ rfl; have hf0 : w102.frozen? ⟨go, x5.toNat * 5, none⟩ = false := hfr 0; have hx1 : w102.cell? ⟨go, x5.toNat * 5 + 1, none⟩ = some (.slice A1 (rd_T54 x0 x5).f1.length c1) := hcc 1 _ rfl; have hf1 : w102.frozen? ⟨go, x5.toNat * 5 + 1, none⟩ = false := hfr 1; have hx2 : w102.cell? ⟨go, x5.toNat * 5 + 2, none⟩ = some (.bool (rd_T54 x0 x5).f2) := hcc 2 _ rfl; have hf2 : w102.frozen? ⟨go, x5.toNat * 5 + 2, none⟩ = false := hfr 2; have hx3 : w102.cell? ⟨go, x5.toNat * 5 + 3, none⟩ = some (.string (rd_T54 x0 x5).f3) := hcc 3 _ rfl; have hf3 : w102.frozen? ⟨go, x5.toNat * 5 + 3, none⟩ = false := hfr 3; have hx4 : w102.cell? ⟨go, x5.toNat * 5 + 4, none⟩ = some (.slice A4 (rd_T54 x0 x5).f4.length c4) := hcc 4 _ rfl; have hf4 : w102.frozen? ⟨go, x5.toNat * 5 + 4, none⟩ = false := hfr 4; clear hcc hfr) | ((with_reducible refine gate_store (t := 4) (p := 33) rfl ?_); refine store_event (t := 4) (p := 33) (v := ?vo_w103) (w1 := (w102.setCell ⟨go, x5.toNat * 5 + 2, none⟩ (.bool ((Int.tmod kb1 3) == 0)))) ?hg ?ho ?hn ?hr ?_; (case ho => rfl); (case hg => rfl); (case hn => rfl); (case hr => first | (go_simp; done) | (go_simp; rfl)); intro w103 hw; obtain ⟨hH, hg⟩ := hole_set HH.out P.out.1 P.out.2 (j := 2) (u := .bool ((Int.tmod kb1 3) == 0)) (by decide) rfl; replace hH : Kd.H k54 54 w103 w0.heap.size P0_ (.slice (some ⟨go, 0, none⟩) x0.length co) x0 x5 oki [.string m0, .slice A1 (rd_T54 x0 x5).f1.length c1, .bool ((Int.tmod kb1 3) == 0), .string (rd_T54 x0 x5).f3, .slice A4 (rd_T54 x0 x5).f4.length c4] := (by rw [hw]; exact hH); replace hg : w102.grownBy w103 (some go) := (by rw [hw]; exact hg); have n1 := Aside0.mk (Kd.R_grown hg1.out hg (fun k_ hk_ e_ => (hoki.out k_ hk_).2 (Option.some.inj e_))); have n4 := Aside0.mk (Kd.R_grown hg4.out hg (fun k_ hk_ e_ => (hoki.out k_ hk_).2 (Option.some.inj e_))); have n_b := Aside0.mk (by rw [hw]; exact below_set (HB.out) GB.out : Below w0.heap.size w0 w103); have n_k := Aside0.mk (Kept.of_grown (S := P0_) hg HK.out (fun k_ e_ => by injection e_ with e_; subst e_; exact .inl HM.out)); clear HH HB HK hg1 hg4 hx0 hf0 hx1 hf1 hx2 hf2 hx3 hf3 hx4 hf4; have HH := Aside0.mk hH; have HB := n_b; have HK := n_k; have hg1 := n1; have hg4 := n4; clear hH hg hw n_b n_k n1 n4; obtain ⟨hcc, hfr⟩ := hole_look HH.out P.out.1 P.out.2; have hx0 : w103.cell? ⟨go, x5.toNat * 5, none⟩ = some (.string m0) := hcc 0 _ rfl; have hf0 : w103.frozen? ⟨go, x5.toNat * 5, none⟩ = false := hfr 0; have hx1 : w103.cell? ⟨go, x5.toNat * 5 + 1, none⟩ = some (.slice A1 (rd_T54 x0 x5).f1.length c1) := hcc 1 _ rfl; have hf1 : w103.frozen? ⟨go, x5.toNat * 5 + 1, none⟩ = false := hfr 1; have hx2 : w103.cell? ⟨go, x5.toNat * 5 + 2, none⟩ = some (.bool ((Int.tmod kb1 3) == 0)) := hcc 2 _ rfl; have hf2 : w103.frozen? ⟨go, x5.toNat * 5 + 2, none⟩ = false := hfr 2; have hx3 : w103.cell? ⟨go, x5.toNat * 5 + 3, none⟩ = some (.string (rd_T54 x0 x5).f3) := hcc 3 _ rfl; have hf3 : w103.frozen? ⟨go, x5.toNat * 5 + 3, none⟩ = false := hfr 3; have hx4 : w103.cell? ⟨go, x5.toNat * 5 + 4, none⟩ = some (.slice A4 (rd_T54 x0 x5).f4.length c4) := hcc 4 _ rfl; have hf4 : w103.frozen? ⟨go, x5.toNat * 5 + 4, none⟩ = false := hfr 4; clear hcc hfr) | ((with_reducible refine gate_callee (f := 37) rfl ?_); refine goesL_ (some 39) rfl rfl Try.func37 (by kernel_rfl) rfl #[.int .i64 (wrap64 (kb1 + 1))] rfl (by (try simp only [List.map_toArray, List.map_cons, List.map_nil]); first | done | rfl) ?_; (with_reducible refine (laws_markText.calls k1 (wrap64 (kb1 + 1)) m3 _ Em3.out).mono ?_); rintro e w204 ⟨rfl, hb_⟩; refine ⟨_, rfl, ?_⟩; have n1 := Aside0.mk (Kd.R_below hg1.out hb_); have n4 := Aside0.mk (Kd.R_below hg4.out hb_); have n_h := Aside0.mk (Kd.H_below HH.out hb_); have n_b := Aside0.mk (below_step HB.out hb_); have n_k := Aside0.mk (Kept.below HK.out hb_); clear HH HB HK hb_ hg1 hg4 hx0 hf0 hx1 hf1 hx2 hf2 hx3 hf3 hx4 hf4; have HH := n_h; have HB := n_b; have HK := n_k; have hg1 := n1; have hg4 := n4; clear n_h n_b n_k n1 n4; obtain ⟨hcc, hfr⟩ := hole_look HH.out P.out.1 P.out.2; have hx0 : w204.cell? ⟨go, x5.toNat * 5, none⟩ = some (.string m0) := hcc 0 _ rfl; have hf0 : w204.frozen? ⟨go, x5.toNat * 5, none⟩ = false := hfr 0; have hx1 : w204.cell? ⟨go, x5.toNat * 5 + 1, none⟩ = some (.slice A1 (rd_T54 x0 x5).f1.length c1) := hcc 1 _ rfl; have hf1 : w204.frozen? ⟨go, x5.toNat * 5 + 1, none⟩ = false := hfr 1; have hx2 : w204.cell? ⟨go, x5.toNat * 5 + 2, none⟩ = some (.bool ((Int.tmod kb1 3) == 0)) := hcc 2 _ rfl; have hf2 : w204.frozen? ⟨go, x5.toNat * 5 + 2, none⟩ = false := hfr 2; have hx3 : w204.cell? ⟨go, x5.toNat * 5 + 3, none⟩ = some (.string (rd_T54 x0 x5).f3) := hcc 3 _ rfl; have hf3 : w204.frozen? ⟨go, x5.toNat * 5 + 3, none⟩ = false := hfr 3; have hx4 : w204.cell? ⟨go, x5.toNat * 5 + 4, none⟩ = some (.slice A4 (rd_T54 x0 x5).f4.length c4) := hcc 4 _ rfl; have hf4 : w204.frozen? ⟨go, x5.toNat * 5 + 4, none⟩ = false := hfr 4; clear hcc hfr) | ((with_reducible refine gate_store (t := 9) (p := 41) rfl ?_); refine store_event (t := 9) (p := 41) (v := ?vo_w104) (w1 := (w204.setCell ⟨go, x5.toNat * 5 + 3, none⟩ (.string m3))) ?hg ?ho ?hn ?hr ?_; (case ho => rfl); (case hg => rfl); (case hn => rfl); (case hr => first | (go_simp; done) | (go_simp; rfl)); intro w104 hw; obtain ⟨hH, hg⟩ := hole_set HH.out P.out.1 P.out.2 (j := 3) (u := .string m3) (by decide) rfl; replace hH : Kd.H k54 54 w104 w0.heap.size P0_ (.slice (some ⟨go, 0, none⟩) x0.length co) x0 x5 oki [.string m0, .slice A1 (rd_T54 x0 x5).f1.length c1, .bool ((Int.tmod kb1 3) == 0), .string m3, .slice A4 (rd_T54 x0 x5).f4.length c4] := (by rw [hw]; exact hH); replace hg : w204.grownBy w104 (some go) := (by rw [hw]; exact hg); have n1 := Aside0.mk (Kd.R_grown hg1.out hg (fun k_ hk_ e_ => (hoki.out k_ hk_).2 (Option.some.inj e_))); have n4 := Aside0.mk (Kd.R_grown hg4.out hg (fun k_ hk_ e_ => (hoki.out k_ hk_).2 (Option.some.inj e_))); have n_b := Aside0.mk (by rw [hw]; exact below_set (HB.out) GB.out : Below w0.heap.size w0 w104); have n_k := Aside0.mk (Kept.of_grown (S := P0_) hg HK.out (fun k_ e_ => by injection e_ with e_; subst e_; exact .inl HM.out)); clear HH HB HK hg1 hg4 hx0 hf0 hx1 hf1 hx2 hf2 hx3 hf3 hx4 hf4; have HH := Aside0.mk hH; have HB := n_b; have HK := n_k; have hg1 := n1; have hg4 := n4; clear hH hg hw n_b n_k n1 n4; obtain ⟨hcc, hfr⟩ := hole_look HH.out P.out.1 P.out.2; have hx0 : w104.cell? ⟨go, x5.toNat * 5, none⟩ = some (.string m0) := hcc 0 _ rfl; have hf0 : w104.frozen? ⟨go, x5.toNat * 5, none⟩ = false := hfr 0; have hx1 : w104.cell? ⟨go, x5.toNat * 5 + 1, none⟩ = some (.slice A1 (rd_T54 x0 x5).f1.length c1) := hcc 1 _ rfl; have hf1 : w104.frozen? ⟨go, x5.toNat * 5 + 1, none⟩ = false := hfr 1; have hx2 : w104.cell? ⟨go, x5.toNat * 5 + 2, none⟩ = some (.bool ((Int.tmod kb1 3) == 0)) := hcc 2 _ rfl; have hf2 : w104.frozen? ⟨go, x5.toNat * 5 + 2, none⟩ = false := hfr 2; have hx3 : w104.cell? ⟨go, x5.toNat * 5 + 3, none⟩ = some (.string m3) := hcc 3 _ rfl; have hf3 : w104.frozen? ⟨go, x5.toNat * 5 + 3, none⟩ = false := hfr 3; have hx4 : w104.cell? ⟨go, x5.toNat * 5 + 4, none⟩ = some (.slice A4 (rd_T54 x0 x5).f4.length c4) := hcc 4 _ rfl; have hf4 : w104.frozen? ⟨go, x5.toNat * 5 + 4, none⟩ = false := hfr 4; clear hcc hfr) | ((with_reducible refine gate_callee (f := 60) rfl ?_); refine goesL_ (some 50) rfl rfl Try.func60 (by kernel_rfl) rfl #[.slice A4 (rd_T54 x0 x5).f4.length c4, .int .i64 (wrap64 ((wrap64 (kb1 + 1)) + 1))] rfl (by (try simp only [List.map_toArray, List.map_cons, List.map_nil]); first | done | rfl | (simp only [List.length_drop, List.length_take]; rfl)) ?_; (with_reducible refine (laws_markIntS.calls k1 (fun k_ => some k_ = (Value.slice A4 (rd_T54 x0 x5).f4.length c4).ownBlock) _ (rd_T54 x0 x5).f4 (wrap64 ((wrap64 (kb1 + 1)) + 1)) kb4 lb4 w0 _ HB.out ?s1 Eb4.out).mono ?_); (case s1 => exact Kd.R_tight rfl hg4.out); rintro e w105 ⟨rfl, ho_, hb_, hk_⟩; refine ⟨_, rfl, ?_⟩; have hin_ := fun k_ (e_ : some k_ = (Value.slice A4 (rd_T54 x0 x5).f4.length c4).ownBlock) => hg4.out.1 k_ e_.symm; have n4 := Aside0.mk (Kd.R_mono (Kd.R_tight rfl ho_) (ok' := oki) (fun k_ e_ => hin_ k_ e_)); have n1 := Aside0.mk (Kd.R_mono (Kd.R_kept (Kd.R_apart' hg1.out (v := Value.slice A4 (rd_T54 x0 x5).f4.length c4) (Kd.R_typed hg4.out) (by decide)) hk_ (fun k_ h_ e_ => h_.2 e_)) (fun _ h_ => h_.1)); have n_h := Aside0.mk (Kd.H_kept HH.out hk_ (fun k_ _ hn_ e_ => hn_ (hin_ k_ e_))); have n_b := Aside0.mk hb_; have n_k := Aside0.mk (Kept.then_ HK.out hk_ (fun k_ e_ => Or.inl (hoki.out k_ (hin_ k_ e_)).1)); clear HH HB HK ho_ hb_ hk_ hin_ hg1 hg4 hx0 hf0 hx1 hf1 hx2 hf2 hx3 hf3 hx4 hf4; have HH := n_h; have HB := n_b; have HK := n_k; have hg1 := n1; have hg4 := n4; clear n_h n_b n_k n1 n4; obtain ⟨hcc, hfr⟩ := hole_look HH.out P.out.1 P.out.2; have hx0 : w105.cell? ⟨go, x5.toNat * 5, none⟩ = some (.string m0) := hcc 0 _ rfl; have hf0 : w105.frozen? ⟨go, x5.toNat * 5, none⟩ = false := hfr 0; have hx1 : w105.cell? ⟨go, x5.toNat * 5 + 1, none⟩ = some (.slice A1 (rd_T54 x0 x5).f1.length c1) := hcc 1 _ rfl; have hf1 : w105.frozen? ⟨go, x5.toNat * 5 + 1, none⟩ = false := hfr 1; have hx2 : w105.cell? ⟨go, x5.toNat * 5 + 2, none⟩ = some (.bool ((Int.tmod kb1 3) == 0)) := hcc 2 _ rfl; have hf2 : w105.frozen? ⟨go, x5.toNat * 5 + 2, none⟩ = false := hfr 2; have hx3 : w105.cell? ⟨go, x5.toNat * 5 + 3, none⟩ = some (.string m3) := hcc 3 _ rfl; have hf3 : w105.frozen? ⟨go, x5.toNat * 5 + 3, none⟩ = false := hfr 3; have hx4 : w105.cell? ⟨go, x5.toNat * 5 + 4, none⟩ = some (.slice A4 (rd_T54 x0 x5).f4.length c4) := hcc 4 _ rfl; have hf4 : w105.frozen? ⟨go, x5.toNat * 5 + 4, none⟩ = false := hfr 4; clear hcc hfr))
 have RF1 := hg1.out
 have RF4 := hg4.out
 have HF := Kd.H_back HH.out (okp := oki) (x' := (⟨m0, lb1, ((Int.tmod kb1 3) == 0), m3, lb4⟩ : S54)) (k54_mkM _ _ oki (⟨m0, lb1, ((Int.tmod kb1 3) == 0), m3, lb4⟩ : S54) RF1 RF4) (fun _ hk => hk)
 have HF' := Aside0.mk HF
 clear HF RF1 RF4 HH hg1 hg4
 go_roundg k1
 case measure => have := HK1.out; omega
 case rel => exact ⟨_, _, _, (by first | rfl | (simp; done)), (by first | rfl | (simp; done)), H', ⟨by have := HK1.out; omega⟩, HF', HK, HB⟩
/-! ### laws_markSynod: function 13, by hand -/
def laws_markSynod.f (k : Nat) (l0 : List S70) (l1 : List S54) (a : Int) : Option (Int × List S70 × List S54) := (laws_markAcceptorS.f k l0 a).bind fun b0 => (laws_markProposerS.f k l1 b0.1).bind fun b1 => some (b1.1, b0.2, b1.2)
set_option maxHeartbeats 8000000 in
set_option maxRecDepth 100000 in
theorem laws_markSynod.calls (k : Nat) (P0 : Nat → Prop) (u0 : Value) (l0 : List S70) (P1 : Nat → Prop) (u1 : Value) (l1 : List S54) (a : Int) (r : Int) (r0 : List S70) (r1 : List S54) (w0 w : World) (hB : Below w0.heap.size w0 w) (ho0 : Kd.R k70 70 w w0.heap.size P0 u0 l0) (hp0_1 : ∀ k_, P0 k_ → ¬ P1 k_) (ho1 : Kd.S k54 54 w w0.heap.size P1 u1 l1) (hp1_0 : ∀ k_, P1 k_ → ¬ P0 k_) (h : laws_markSynod.f k l0 l1 a = some (r, r0, r1)) :
  Calls Try.prog 13 #[.agg #[u0, u1], .int .i64 a] w fun e w' => e = .returned (.int .i64 r) ∧ Kd.R k70 70 w' w0.heap.size P0 u0 r0 ∧ Kd.S k54 54 w' w0.heap.size P1 u1 r1 ∧ Below w0.heap.size w0 w' ∧ Kept w w' (fun k_ => P0 k_ ∨ P1 k_) := by
 unfold laws_markSynod.f at h
 replace h := Option.bind_eq_some_iff.mp h
 obtain ⟨⟨k0, q0⟩, E0, h⟩ := h
 dsimp only at h E0
 replace E0 := Aside0.mk E0
 replace h := Option.bind_eq_some_iff.mp h
 obtain ⟨⟨k1, q1⟩, E1, h⟩ := h
 dsimp only at h E1
 replace E1 := Aside0.mk E1
 simp only [Option.some.injEq, Prod.mk.injEq] at h
 obtain ⟨rfl, rfl, rfl⟩ := h
 obtain ⟨A0, c0, rfl⟩ := Kd.R_slice ho0
 have HO0 := Aside0.mk (Kd.R_mono (ok' := fun k_ => P0 k_ ∧ k_ < w.heap.size) (Kd.R_bound ho0) (fun k_ h_ => ⟨h_.1, h_.2.2.1⟩))
 obtain ⟨A1, c1, rfl⟩ := Kd.S_slice ho1
 have HO1 := Aside0.mk (Kd.S_mono (ok' := fun k_ => P1 k_ ∧ k_ < w.heap.size) (Kd.S_bound ho1) (fun k_ h_ => ⟨h_.1, h_.2.2.1⟩))
 have HB := Aside0.mk hB
 have HK := Aside0.mk (Kept.refl w (fun k_ => P0 k_ ∨ P1 k_))
 have hu := Try.underlying33
 have HP0_1 := Aside0.mk hp0_1
 have HP1_0 := Aside0.mk hp1_0
 clear hB ho0 ho1 hp0_1 hp1_0
 go_enter Try.func13, Try.ntmps13
 go_wp2_with (first | ((with_reducible refine gate_dst (N := 2) rfl ?_); refine box_event ?hg (N := 2) ?hd (cs := #[.slice A0 l0.length c0, .slice A1 l1.length c1]) (t := 33) ?hr ?_; (case hd => rfl); (case hg => rfl); (case hr => first | (go_simp; done) | (go_simp; rfl)); intro gb hg w1 hbox hb; have n_0 := Aside0.mk (Kd.R_below HO0.out hb); have n_1 := Aside0.mk (Kd.S_below HO1.out hb); have n_b := Aside0.mk (below_step HB.out hb); have n_k := Aside0.mk (Kept.below HK.out hb); have n_g := Aside0.mk (Nat.le_of_eq hg.symm); have n_x := Aside0.mk hbox; clear HB HK HO0 HO1; have HB := n_b; have HK := n_k; have HG := n_g; have BK := n_x; have HO0 := n_0; have HO1 := n_1; clear n_b n_k n_g n_x n_0 n_1 hbox hb hg; have hx0 : w1.cell? ⟨gb, 0, none⟩ = some (.slice A0 l0.length c0) := (blk_cell BK.out 0).trans rfl; have hx1 : w1.cell? ⟨gb, 1, none⟩ = some (.slice A1 l1.length c1) := (blk_cell BK.out 1).trans rfl; have hf0 := blk_frozen BK.out 0; have hf1 := blk_frozen BK.out 1) | ((with_reducible refine gate_callee (f := 35) rfl ?_); refine goesL_ (some 8) rfl rfl Try.func35 (by kernel_rfl) rfl #[.slice A0 l0.length c0, .int .i64 a] rfl (by (try simp only [List.map_toArray, List.map_cons, List.map_nil]); first | done | rfl) ?_; (with_reducible refine (laws_markAcceptorS.calls k (fun k_ => some k_ = (Value.slice A0 l0.length c0).ownBlock) _ l0 a k0 q0 w0 _ HB.out ?s1 E0.out).mono ?_); (case s1 => exact Kd.R_tight rfl HO0.out); rintro e w2 ⟨rfl, ho_, hb_, hk0_⟩; refine ⟨_, rfl, ?_⟩; have hk_ := Kept.mono (S' := fun k_ => P0 k_ ∧ k_ < w.heap.size) hk0_ (fun k_ e_ => HO0.out.1 k_ e_.symm); have n_0 := Aside0.mk (Kd.R_mono (Kd.R_tight rfl ho_) (ok' := fun k_ => P0 k_ ∧ k_ < w.heap.size) (fun k_ e_ => HO0.out.1 k_ e_.symm)); clear hk0_; have n_1 := Aside0.mk (Kd.S_kept HO1.out hk_ (fun k_ h_ h2_ => HP1_0.out k_ h_.1 h2_.1)); have n_b := Aside0.mk hb_; have n_k := Aside0.mk (Kept.then_ HK.out hk_ (fun k_ h_ => Or.inl (.inl h_.1))); have n_x := Aside0.mk (blk_kept BK.out hk_ (fun h_ => by have := HG.out; have h2_ := h_.2; omega)); clear HB HK HO0 HO1 BK ho_ hb_ hk_ hx0 hf0 hx1 hf1; have HB := n_b; have HK := n_k; have HO0 := n_0; have HO1 := n_1; have BK := n_x; clear n_b n_k n_0 n_1 n_x; have hx0 : w2.cell? ⟨gb, 0, none⟩ = some (.slice A0 l0.length c0) := (blk_cell BK.out 0).trans rfl; have hx1 : w2.cell? ⟨gb, 1, none⟩ = some (.slice A1 l1.length c1) := (blk_cell BK.out 1).trans rfl; have hf0 := blk_frozen BK.out 0; have hf1 := blk_frozen BK.out 1) | ((with_reducible refine gate_callee (f := 36) rfl ?_); refine goesL_ (some 12) rfl rfl Try.func36 (by kernel_rfl) rfl #[.slice A1 l1.length c1, .int .i64 k0] rfl (by (try simp only [List.map_toArray, List.map_cons, List.map_nil]); first | done | rfl) ?_; (with_reducible refine (laws_markProposerS.calls k (fun k_ => P1 k_ ∧ k_ < w.heap.size) _ l1 k0 k1 q1 w0 _ HB.out ?s1 E1.out).mono ?_); (case s1 => exact HO1.out); rintro e w3 ⟨rfl, ho_, hb_, hk_⟩; refine ⟨_, rfl, ?_⟩; have n_1 := Aside0.mk ho_; have n_0 := Aside0.mk (Kd.R_kept HO0.out hk_ (fun k_ h_ h2_ => HP0_1.out k_ h_.1 h2_.1)); have n_b := Aside0.mk hb_; have n_k := Aside0.mk (Kept.then_ HK.out hk_ (fun k_ h_ => Or.inl (.inr h_.1))); have n_x := Aside0.mk (blk_kept BK.out hk_ (fun h_ => by have := HG.out; have h2_ := h_.2; omega)); clear HB HK HO0 HO1 BK ho_ hb_ hk_ hx0 hf0 hx1 hf1; have HB := n_b; have HK := n_k; have HO0 := n_0; have HO1 := n_1; have BK := n_x; clear n_b n_k n_0 n_1 n_x; have hx0 : w3.cell? ⟨gb, 0, none⟩ = some (.slice A0 l0.length c0) := (blk_cell BK.out 0).trans rfl; have hx1 : w3.cell? ⟨gb, 1, none⟩ = some (.slice A1 l1.length c1) := (blk_cell BK.out 1).trans rfl; have hf0 := blk_frozen BK.out 0; have hf1 := blk_frozen BK.out 1))
 go_ret
 exact ⟨rfl, Kd.R_mono HO0.out (fun _ h_ => h_.1), Kd.S_mono HO1.out (fun _ h_ => h_.1), HB.out, HK.out⟩

end Go.Proofs.Ytjpaoeeeiklfnaa.PSY
