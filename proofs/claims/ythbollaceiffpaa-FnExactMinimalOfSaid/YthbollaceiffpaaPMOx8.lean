/- What this text proves (a hand-built part): the machine calls of the marking functions return what the plain functions say. Conditions: as each theorem says. -/
import Derived.Test.YthbollaceiffpaaPMOx0
import Derived.Test.YthbollaceiffpaaPMOx1
import Derived.Test.YthbollaceiffpaaPMOx2
import Derived.Test.YthbollaceiffpaaPMOx3
import Derived.Test.YthbollaceiffpaaPMOx4
import Derived.Test.YthbollaceiffpaaPMOx5
import Derived.Test.YthbollaceiffpaaPMOx6
import Derived.Test.YthbollaceiffpaaPMOx7
namespace Go.Proofs.Ythbollaceiffpaa.PMO
open Go.RowKit Go.Proofs.YthbollaceiffpaaW.PrintWords Go.Proofs.YthbollaceiffpaaW.PrintLast Go.Proofs.YthbollaceiffpaaW.PrintMore
attribute [local go_sem] max2_int min2_int max_two min_two max_three min_three max_four min_four   -- for this text's walks alone
set_option linter.unusedVariables false
set_option linter.unusedSimpArgs false
theorem hole_look {α : Type} {d : Kd α} {e base g n cap : Nat} {ok oki : Nat → Prop} {W : World} {xs : List α} {i : Int} {c : List Value} (h : Kd.H d e W base ok (.slice (some ⟨g, 0, none⟩) n cap) xs i oki c) (h0 : 0 ≤ i) (h1 : i < n) :
    (∀ j u, c[j]? = some u → W.cell? ⟨g, i.toNat * d.sz + j, none⟩ = some u) ∧ ∀ j, W.frozen? ⟨g, i.toNat * d.sz + j, none⟩ = false := by
  obtain ⟨rows, hl, hraw, hcl, hco, hcc, hback⟩ := Kd.H_raw h h0 h1
  obtain ⟨_, _, _, _, hfr⟩ := Kd.R_elem hraw [] i h0 h1
  exact ⟨hcc, hfr⟩
theorem hole_set {α : Type} {d : Kd α} {e base g n cap : Nat} {ok oki : Nat → Prop} {W : World} {xs : List α} {i : Int} {c : List Value} (h : Kd.H d e W base ok (.slice (some ⟨g, 0, none⟩) n cap) xs i oki c) (h0 : 0 ≤ i) (h1 : i < n) {j : Nat} {u : Value} (hj : j + 1 ≤ d.sz) (hu : u.oneCell' = true) :
    Kd.H d e (W.setCells g (i.toNat * d.sz + j) [u]) base ok (.slice (some ⟨g, 0, none⟩) n cap) xs i oki (c.take j ++ [u] ++ c.drop (j + 1)) ∧ W.grownBy (W.setCells g (i.toNat * d.sz + j) [u]) (some g) :=
  Kd.H_seg h h0 h1 (seg := [u]) hj (fun q hq => by rw [List.mem_singleton.1 hq]; exact hu)
/-! ### laws_markGroupS: function 43, by hand -/
def laws_markGroupS.l0 : Nat → List S28 → Int → Int → Option (Int × List S28)
 | 0, _, _, _ => none
 | k + 1, x0, x1, x5 => if x5 < (x0.length : Int) then (if 0 ≤ x5 then ((laws_markIntS.f k (rd_T28 x0 x5).f0 x1).bind fun b0 => laws_markGroupS.l0 k (x0.set (x5 : Int).toNat (⟨b0.2⟩ : S28)) b0.1 (wrap64 (x5 + 1))) else none) else some (x1, x0)
def laws_markGroupS.f (k : Nat) (l0 : List S28) (a1 : Int) : Option (Int × List S28) := laws_markGroupS.l0 k l0 a1 0
set_option maxHeartbeats 8000000 in
set_option maxRecDepth 100000 in
theorem laws_markGroupS.calls (k : Nat) (P0_ : Nat → Prop) (u : Value) (l0 : List S28) (a1 : Int) (r1 : Int) (r2 : List S28) (w0 w : World) (hB : Below w0.heap.size w0 w) (ho0 : Kd.S k28 28 w w0.heap.size P0_ u l0) (h : laws_markGroupS.f k l0 a1 = some (r1, r2)) :
  Calls Try.prog 43 #[u, .int .i64 a1] w fun e w' => e = .returned (.int .i64 r1) ∧ Kd.S k28 28 w' w0.heap.size P0_ u r2 ∧ Below w0.heap.size w0 w' ∧ Kept w w' P0_ := by
 have HO0 := Aside0.mk (show Kd.S k28 28 w w0.heap.size P0_ u l0 from ho0)
 have HK := Aside0.mk (Kept.refl w P0_)
 have HW0 := Aside0.mk hB.size
 have HB := Aside0.mk hB
 clear hB ho0
 have H' := Aside0.mk (show laws_markGroupS.l0 k l0 a1 0 = some (r1, r2) from h)
 clear h
 go_enter Try.func43, Try.ntmps43
 go_wp2
 go_loopg [1, 5] k (fun kq v1 v5 w' => ∃ (x0 : List S28) (x1 : Int) (x5 : Int), v1 = .int .i64 x1 ∧ v5 = .int .i64 x5 ∧ Aside0 (laws_markGroupS.l0 kq x0 x1 x5 = some (r1, r2)) ∧ Aside0 (kq ≤ k) ∧ Aside0 (Kd.S k28 28 w' w0.heap.size P0_ u x0) ∧ Aside0 (Kept w w' P0_) ∧ Aside0 (Below w0.heap.size w0 w'))
 case atStart => exact ⟨l0, a1, 0, (by first | rfl | (simp; done)), (by first | rfl | (simp; done)), H', ⟨Nat.le_refl _⟩, HO0, HK, HB⟩
 clear H'
 obtain ⟨x0, x1, x5, rfl, rfl, HA, HK1, HO, HK, HB⟩ := hrel
 cases gk with
 | zero => exact absurd HA.out (by simp [laws_markGroupS.l0])
 | succ k1 => ?_
 have H := HA.out
 clear HA
 simp only [laws_markGroupS.l0] at H
 by_cases c3 : x5 < (x0.length : Int)
 rotate_left
 · rw [if_neg c3] at H
   have c3b0 : decide (x5 < (x0.length : Int)) = false := decide_eq_false c3
   clear c3
   simp only [Option.some.injEq, Prod.mk.injEq] at H
   obtain ⟨rfl, rfl⟩ := H
   obtain ⟨Ao, co, eo⟩ := Kd.S_slice HO.out
   subst eo
   go_wp2
   go_ret
   exact ⟨rfl, HO.out, HB.out, HK.out⟩
 rw [if_pos c3] at H
 have c3b0 : decide (x5 < (x0.length : Int)) = true := decide_eq_true c3
 by_cases c4 : 0 ≤ x5
 rotate_left
 · rw [if_neg c4] at H
   exact absurd H (by simp)
 rw [if_pos c4] at H
 have c4b0 : decide (0 ≤ x5) = true := decide_eq_true c4
 replace H := Option.bind_eq_some_iff.mp H
 obtain ⟨⟨kb0, lb0⟩, Eb0, H⟩ := H
 dsimp only at H
 replace Eb0 := Aside0.mk Eb0
 have H' := Aside0.mk H
 clear H
 obtain ⟨go, co, eo, gb, gl, cl, HG⟩ := Kd.S_form HO.out (by omega)
 subst eo
 have P := Aside0.mk (show 0 ≤ x5 ∧ x5 < ((x0.length : Nat) : Int) from ⟨c4, c3⟩)
 clear c3 c4
 have GB := Aside0.mk gb
 have HM := Aside0.mk (show P0_ go from (Kd.S_R HO.out).1 _ rfl)
 obtain ⟨oki, ce, hcl, hM, hcc, hfr, hoki0, hH⟩ := Kd.S_elem HO.out z28 x5 P.out.1 P.out.2
 have hoki := Aside0.mk hoki0
 obtain ⟨v0, rfl, hg0⟩ := k28_openM hM
 have HH := Aside0.mk hH

 have p5 := eq_true P.out.1
 have q5 := eq_true P.out.2
 clear hH hM hcl hoki0 gb gl HG cl HO hfr
 obtain ⟨A0, c0, ev0⟩ := Kd.R_slice hg0
 subst ev0
 replace hg0 := Aside0.mk hg0
 clear hcc
 obtain ⟨hcc, hfr⟩ := hole_look HH.out P.out.1 P.out.2
 have hx0 : wr.cell? ⟨go, x5.toNat, none⟩ = some (.slice A0 (rd_T28 x0 x5).f0.length c0) := (by have h_ := hcc 0 _ rfl; simp only [show (k28).sz = 1 from rfl, Nat.mul_one, Nat.add_zero] at h_; exact h_)
 have hf0 : wr.frozen? ⟨go, x5.toNat, none⟩ = false := (by have h_ := hfr 0; simp only [show (k28).sz = 1 from rfl, Nat.mul_one, Nat.add_zero] at h_; exact h_)
 clear hcc hfr
 go_wp2_with (first | ((with_reducible refine gate_callee (f := 59) rfl ?_); refine goesL_ (some 18) rfl rfl Try.func59 (by kernel_rfl) rfl #[.slice A0 (rd_T28 x0 x5).f0.length c0, .int .i64 (x1)] rfl (by (try simp only [List.map_toArray, List.map_cons, List.map_nil]); first | done | rfl | (simp only [List.length_drop, List.length_take]; rfl)) ?_; (with_reducible refine (laws_markIntS.calls k1 (fun k_ => some k_ = (Value.slice A0 (rd_T28 x0 x5).f0.length c0).ownBlock) _ (rd_T28 x0 x5).f0 (x1) kb0 lb0 w0 _ HB.out ?s1 Eb0.out).mono ?_); (case s1 => exact Kd.R_tight rfl hg0.out); rintro e w101 ⟨rfl, ho_, hb_, hk_⟩; refine ⟨_, rfl, ?_⟩; have hin_ := fun k_ (e_ : some k_ = (Value.slice A0 (rd_T28 x0 x5).f0.length c0).ownBlock) => hg0.out.1 k_ e_.symm; have n0 := Aside0.mk (Kd.R_mono (Kd.R_tight rfl ho_) (ok' := oki) (fun k_ e_ => hin_ k_ e_)); have n_h := Aside0.mk (Kd.H_kept HH.out hk_ (fun k_ _ hn_ e_ => hn_ (hin_ k_ e_))); have n_b := Aside0.mk hb_; have n_k := Aside0.mk (Kept.then_ HK.out hk_ (fun k_ e_ => Or.inl (hoki.out k_ (hin_ k_ e_)).1)); clear HH HB HK ho_ hb_ hk_ hin_ hg0 hx0 hf0; have HH := n_h; have HB := n_b; have HK := n_k; have hg0 := n0; clear n_h n_b n_k n0; obtain ⟨hcc, hfr⟩ := hole_look HH.out P.out.1 P.out.2; have hx0 : w101.cell? ⟨go, x5.toNat, none⟩ = some (.slice A0 (rd_T28 x0 x5).f0.length c0) := (by have h_ := hcc 0 _ rfl; simp only [show (k28).sz = 1 from rfl, Nat.mul_one, Nat.add_zero] at h_; exact h_); have hf0 : w101.frozen? ⟨go, x5.toNat, none⟩ = false := (by have h_ := hfr 0; simp only [show (k28).sz = 1 from rfl, Nat.mul_one, Nat.add_zero] at h_; exact h_); clear hcc hfr))
 have RF0 := hg0.out
 have HF := Kd.H_back HH.out (okp := oki) (x' := (⟨lb0⟩ : S28)) (k28_mkM _ _ oki (⟨lb0⟩ : S28) RF0) (fun _ hk => hk)
 have HF' := Aside0.mk HF
 clear HF RF0 HH hg0
 go_roundg k1
 case measure => have := HK1.out; omega
 case rel => exact ⟨_, _, _, (by first | rfl | (simp; done)), (by first | rfl | (simp; done)), H', ⟨by have := HK1.out; omega⟩, HF', HK, HB⟩

end Go.Proofs.Ythbollaceiffpaa.PMO
