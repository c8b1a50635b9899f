/- What this text proves: laws.FnExactNewLeases, told as plain functions of numbers and lists, answers true for all arguments.
   Conditions: the bounds that the typed reading gives. -/
import Derived.Test.YtbnadnfggpnbgaaPFnExactNewLeasesx3
import Derived.Test.YtbnadnfggpnbgaaOpen
import Derived.Test.YtbnadnfggpnbgaaBase
namespace Go.Proofs.Ytbnadnfggpnbgaa.PFnExactNewLeases
open Go.RowKit Go.Proofs.Ytbnadnfggpnbgaa.Base Go.Proofs.Ytbnadnfggpnbgaa.Open Go.Proofs.YtbnadnfggpnbgaaW.PrintWords Go.Proofs.YtbnadnfggpnbgaaW.PrintLast Go.Proofs.YtbnadnfggpnbgaaW.PrintMore
set_option linter.unusedVariables false
set_option linter.unusedSimpArgs false
theorem spec_l1In.ev (n a b : Int) : spec_l1In.f n a b = some (inB n a b) := by
  unfold spec_l1In.f inB
  by_cases h : a ≤ n
  · rw [if_pos h]; simp [h]
  · rw [if_neg h]; simp [h]

theorem spec_l8Nodes.ev (n : Int) : spec_l8Nodes.f n = some (inB n 1 12) := by
  unfold spec_l8Nodes.f; rw [spec_l1In.ev]; rfl

def newL (n sk : Int) : Int × Int × List Int × Int × Int × List Int × Bool :=
  if inB n 1 12 && inB sk 0 1000 then (sk, 0, List.replicate n.toNat 0, -1, 0, List.replicate n.toNat 0, true) else (0, 0, [], 0, 0, [], false)
theorem spec_NewLeases.ev (n sk : Int) : spec_NewLeases.f n sk = some (newL n sk) := by
  unfold spec_NewLeases.f newL
  rw [spec_l8Nodes.ev]
  cases h1 : inB n 1 12 with
  | false => simp
  | true =>
    simp only [Option.bind_some, if_true, spec_l1In.ev]
    rw [inB_iff] at h1
    cases h2 : inB sk 0 1000 with
    | false => simp
    | true => simp only [Bool.and_true, if_true]; rw [if_pos (by omega), if_pos (by omega)]
theorem newL_length (n sk : Int) : (newL n sk).2.2.1.length ≤ 12 ∧ (newL n sk).2.2.2.2.2.1.length ≤ 12 := by
  unfold newL
  split
  · rename_i h
    simp only [Bool.and_eq_true, inB_iff] at h
    simp; omega
  · simp

theorem impl_in.ev (n a b : Int) : impl_in.f n a b = some (inB n a b) := by
  unfold impl_in.f inB
  by_cases h : a ≤ n
  · rw [if_pos h]; simp [h]
  · rw [if_neg h]; simp [h]

theorem impl_newLeases.ev (n sk : Int) : impl_newLeases.f n sk = some (newL n sk) := by
  unfold impl_newLeases.f newL
  rw [impl_in.ev]
  cases h1 : inB n 1 12 with
  | false => simp
  | true =>
    simp only [Option.bind_some, if_true, impl_in.ev]
    rw [inB_iff] at h1
    cases h2 : inB sk 0 1000 with
    | false => simp
    | true => simp only [Bool.and_true, if_true]; rw [if_pos (by omega), if_pos (by omega)]

theorem impl_NewLeases.ev (n sk : Int) : impl_NewLeases.f n sk = some (newL n sk) := by
  unfold impl_NewLeases.f
  rw [impl_newLeases.ev]; rfl

theorem laws_eqIntS.ev (x y : List Int) (hx : x.length ≤ 9223372036854775807) : Ev (fun k => laws_eqIntS.f k x y) (decide (x = y)) := by
  unfold laws_eqIntS.f
  refine Ev.cases (fun hl => ?_) (fun hl => Ev.some ?_)
  · have hl' : x.length = y.length := by omega
    refine Ev.eq (Ev.up (g := fun k i => laws_eqIntS.l0 k x y i) x.length (fun i => decide (x.drop i = y.drop i)) ?_) (by simp)
    intro i hi ih
    refine Ev.step (fun k => by rw [laws_eqIntS.l0]) ?_
    by_cases hlt : i < x.length
    · refine Ev.pos (by omega) (Ev.pos (by omega) (Ev.pos (by omega) ?_))
      rw [rd_get hlt, rd_get (by omega : i < y.length), w64_succ hlt hx]
      have e : decide (x.drop i = y.drop i) = (decide (x[i] = y[i]) && decide (x.drop (i + 1) = y.drop (i + 1))) := drop_eq_step hlt (by omega)
      rw [e]
      refine Ev.cases (fun he => ?_) (fun he => Ev.some (by rw [decide_eq_false he]; rfl))
      exact Ev.eq (ih hlt) (by rw [decide_eq_true he]; rfl)
    · refine Ev.neg (by omega) (Ev.some ?_)
      rw [List.drop_of_length_le (by omega), List.drop_of_length_le (by omega)]
      simp
  · have : x ≠ y := fun h => hl (by rw [h])
    simp [this]

theorem laws_eqLeases.ev (a b c d : Int) (x y : List Int) (a' b' c' d' : Int) (x' y' : List Int) (hx : x.length ≤ 9223372036854775807) (hy : y.length ≤ 9223372036854775807) :
    Ev (fun k => laws_eqLeases.f k a b x c d y a' b' x' c' d' y') (decide ((a, b, x, c, d, y) = (a', b', x', c', d', y'))) := by
  unfold laws_eqLeases.f
  refine Ev.cases (fun h1 => ?_) (fun h1 => Ev.some (by simp [h1]))
  refine Ev.cases (fun h2 => ?_) (fun h2 => Ev.some (by simp [h2]))
  refine Ev.bind (laws_eqIntS.ev x x' hx) ?_
  refine Ev.cases (fun h3 => ?_) (fun h3 => Ev.some (by simp at h3; simp [h3]))
  refine Ev.cases (fun h4 => ?_) (fun h4 => Ev.some (by simp [h4]))
  refine Ev.cases (fun h5 => ?_) (fun h5 => Ev.some (by simp [h5]))
  refine Ev.bind (laws_eqIntS.ev y y' hy) ?_
  refine Ev.cases (fun h6 => Ev.some ?_) (fun h6 => Ev.some (by simp at h6; simp [h6]))
  simp at h3 h6; simp [h1, h2, h3, h4, h5, h6]

theorem laws_markIntS.ev (l : List Int) (k0 : Int) (h0 : 0 ≤ k0) (h1 : k0 + l.length ≤ 9223372036854775807) : Ev (fun k => laws_markIntS.f k l k0) (k0 + l.length, marks k0 l.length) := by
  unfold laws_markIntS.f
  by_cases hb : (l.length : Int) ≤ 9223372036854775807
  · refine Ev.eq (Ev.congr (fun k => ?_) (Ev.up (g := fun k i => laws_markIntS.l0 k (marks k0 i.toNat ++ l.drop i.toNat) (k0 + i) i) l.length (fun _ => (k0 + l.length, marks k0 l.length)) ?_)) rfl
    · simp [marks]
    intro i hi ih
    refine Ev.step (fun k => by rw [laws_markIntS.l0]) ?_
    by_cases hlt : i < l.length
    · refine Ev.pos (by simp [marks_length]; omega) (Ev.pos (by omega) ?_)
      have h2 := ih hlt
      simp only [Int.toNat_natCast] at h2 ⊢
      rw [w64_succ hlt (by omega), w64 (by omega) (by omega), set_mark _ _ _ (marks_length _ _) hlt, ← marks_succ]
      refine Ev.congr (fun k => ?_) h2
      rw [show k0 + (i : Int) + 1 = k0 + ((i + 1 : Nat) : Int) by omega]
    · have : i = l.length := by omega
      subst this
      refine Ev.neg (by simp [marks_length]) (Ev.some ?_)
      simp
  · omega

theorem laws_markLeases.ev (a b c d : Int) (x y : List Int) (k0 : Int) (h0 : 0 ≤ k0) (h1 : k0 + x.length + y.length ≤ 9223372036854775807) :
    Ev (fun k => laws_markLeases.f k a b x c d y k0) (k0 + x.length + y.length, marks k0 x.length, marks (k0 + x.length) y.length) := by
  unfold laws_markLeases.f
  refine Ev.bind (laws_markIntS.ev x k0 (by omega) (by omega)) ?_
  refine Ev.bind (laws_markIntS.ev y (k0 + x.length) (by omega) (by omega)) ?_
  exact Ev.now _

theorem laws_heldIntS.ev (n : Nat) (k0 : Int) (h0 : -9223372036854775808 ≤ k0) (h1 : k0 + n ≤ 9223372036854775807) (hn : n ≤ 9223372036854775807) : Ev (fun k => laws_heldIntS.f k (marks k0 n) k0) (k0 + n) := by
  unfold laws_heldIntS.f
  refine Ev.eq (Ev.congr (fun k => ?_) (Ev.up (g := fun k i => laws_heldIntS.l0 k (marks k0 n) (k0 + i) i) n (fun _ => k0 + (n : Int)) ?_)) rfl
  · simp
  intro i hi ih
  refine Ev.step (fun k => by rw [laws_heldIntS.l0]) ?_
  by_cases hlt : i < n
  · refine Ev.pos (by rw [marks_length]; omega) (Ev.pos (by omega) (Ev.pos (marks_get hlt) ?_))
    have h2 := ih hlt
    rw [w64_succ hlt hn, w64 (by omega) (by omega)]
    refine Ev.congr (fun k => ?_) h2
    rw [show k0 + (i : Int) + 1 = k0 + ((i + 1 : Nat) : Int) by omega]
  · have : i = n := by omega
    subst this
    exact Ev.neg (by rw [marks_length]; omega) (Ev.some rfl)

theorem laws_heldLeases.ev (a b c d : Int) (m n : Nat) (k0 : Int) (h0 : 0 ≤ k0) (h1 : k0 + m + n ≤ 9223372036854775807) :
    Ev (fun k => laws_heldLeases.f k a b (marks k0 m) c d (marks (k0 + m) n) k0) (k0 + m + n) := by
  unfold laws_heldLeases.f
  refine Ev.bind (laws_heldIntS.ev m k0 (by omega) (by omega) (by omega)) ?_
  refine Ev.neg (by omega) ?_
  refine Ev.bind (laws_heldIntS.ev n (k0 + m) (by omega) (by omega) (by omega)) ?_
  exact Ev.neg (by omega) (Ev.now _)

theorem holds_ev (a0 a1 : Int) : Ev (fun k => laws_FnExactNewLeases.f k a0 a1) true := by
  unfold laws_FnExactNewLeases.f
  refine Ev.bindS (spec_NewLeases.ev _ _) (Ev.bindS (impl_NewLeases.ev _ _) ?_)
  have im := impl_NewLeases.ev a0 a1
  obtain ⟨hl1, hl2⟩ := newL_length a0 a1
  generalize newL a0 a1 = b at im hl1 hl2 ⊢
  obtain ⟨a, b, x, c, d, y, e⟩ := b
  have hl1 : x.length ≤ 12 := hl1
  have hl2 : y.length ≤ 12 := hl2
  dsimp only
  refine Ev.bind (laws_eqLeases.ev _ _ _ _ _ _ _ _ _ _ _ _ (by omega) (by omega)) ?_
  refine Ev.pos (decide_eq_true rfl) ?_
  refine Ev.step (fun k => by rw [laws_FnExactNewLeases.j0]) (Ev.neg (by simp) ?_)
  refine Ev.bind (laws_markLeases.ev _ _ _ _ _ _ 1 (by omega) (by omega)) ?_
  dsimp only
  refine Ev.bind (laws_heldLeases.ev _ _ _ _ _ _ 1 (by omega) (by omega)) (Ev.neg (by omega) (Ev.pos rfl ?_))
  refine Ev.bindS im ?_
  dsimp only
  refine Ev.bind (laws_eqLeases.ev _ _ _ _ _ _ _ _ _ _ _ _ (by omega) (by omega)) ?_
  refine Ev.pos (decide_eq_true rfl) ?_
  refine Ev.step (fun k => by rw [laws_FnExactNewLeases.j1]) (Ev.neg (by simp) ?_)
  exact Ev.bind (laws_heldLeases.ev _ _ _ _ _ _ 1 (by omega) (by omega)) (Ev.neg (by omega) (Ev.pos rfl (Ev.now _)))

end Go.Proofs.Ytbnadnfggpnbgaa.PFnExactNewLeases
namespace Go.Proofs.Ytbnadnfggpnbgaa.PureFnExactNewLeases
open Go.RowKit Go.Proofs.Ytbnadnfggpnbgaa.PFnExactNewLeases Go.Proofs.Ytbnadnfggpnbgaa.Base Go.Proofs.Ytbnadnfggpnbgaa.Open Go.Proofs.YtbnadnfggpnbgaaW.PrintWords Go.Proofs.YtbnadnfggpnbgaaW.PrintLast
theorem holds (a0 : Int) (a1 : Int) (w0 : (Lit.int .i64 a0).wf = true) (w1 : (Lit.int .i64 a1).wf = true) : ∃ k, Go.Proofs.Ytbnadnfggpnbgaa.PFnExactNewLeases.laws_FnExactNewLeases.f k a0 a1 = some true := by
  have _h := And.intro w0 w1
  exact (holds_ev a0 a1).rounds
end Go.Proofs.Ytbnadnfggpnbgaa.PureFnExactNewLeases
