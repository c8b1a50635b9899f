/- What this text proves: laws.FnExactBelieversOf, told as plain functions of numbers and lists, answers true for all arguments.
   Conditions: the bounds that the typed reading gives. -/
import Derived.Test.YtbnadnfggpnbgaaPFnExactBelieversOfx6
import Derived.Test.YtbnadnfggpnbgaaOpen
import Derived.Test.YtbnadnfggpnbgaaBase
namespace Go.Proofs.Ytbnadnfggpnbgaa.PFnExactBelieversOf
open Go.RowKit Go.Proofs.Ytbnadnfggpnbgaa.Base Go.Proofs.Ytbnadnfggpnbgaa.Open Go.Proofs.YtbnadnfggpnbgaaW.PrintWords Go.Proofs.YtbnadnfggpnbgaaW.PrintLast Go.Proofs.YtbnadnfggpnbgaaW.PrintMore
set_option linter.unusedVariables false
set_option linter.unusedSimpArgs false
theorem laws_eqIntS.ev (x y : List Int) (hx : x.length ≤ 9223372036854775807) : Ev (fun k => laws_eqIntS.f k x y) (decide (x = y)) := by
  unfold laws_eqIntS.f
  refine Ev.cases (fun hl => ?_) (fun hl => Ev.some ?_)
  · have hl' : x.length = y.length := by omega
    refine Ev.eq (Ev.up (g := fun k i => laws_eqIntS.l0 k x y i) x.length (fun i => decide (x.drop i = y.drop i)) ?_) (by simp)
    intro i hi ih
    refine Ev.step (fun k => by rw [laws_eqIntS.l0]) ?_
    by_cases hlt : i < x.length
    · refine Ev.pos (by omega) (Ev.pos (by omega) (Ev.pos (by omega) ?_))
      rw [rd_get hlt, rd_get (by omega : i < y.length), w64_succ hlt hx]
      have e : decide (x.drop i = y.drop i) = (decide (x[i] = y[i]) && decide (x.drop (i + 1) = y.drop (i + 1))) := drop_eq_step hlt (by omega)
      rw [e]
      refine Ev.cases (fun he => ?_) (fun he => Ev.some (by rw [decide_eq_false he]; rfl))
      exact Ev.eq (ih hlt) (by rw [decide_eq_true he]; rfl)
    · refine Ev.neg (by omega) (Ev.some ?_)
      rw [List.drop_of_length_le (by omega), List.drop_of_length_le (by omega)]
      simp
  · have : x ≠ y := fun h => hl (by rw [h])
    simp [this]

theorem laws_eqLeases.ev (a b c d : Int) (x y : List Int) (a' b' c' d' : Int) (x' y' : List Int) (hx : x.length ≤ 9223372036854775807) (hy : y.length ≤ 9223372036854775807) :
    Ev (fun k => laws_eqLeases.f k a b x c d y a' b' x' c' d' y') (decide ((a, b, x, c, d, y) = (a', b', x', c', d', y'))) := by
  unfold laws_eqLeases.f
  refine Ev.cases (fun h1 => ?_) (fun h1 => Ev.some (by simp [h1]))
  refine Ev.cases (fun h2 => ?_) (fun h2 => Ev.some (by simp [h2]))
  refine Ev.bind (laws_eqIntS.ev x x' hx) ?_
  refine Ev.cases (fun h3 => ?_) (fun h3 => Ev.some (by simp at h3; simp [h3]))
  refine Ev.cases (fun h4 => ?_) (fun h4 => Ev.some (by simp [h4]))
  refine Ev.cases (fun h5 => ?_) (fun h5 => Ev.some (by simp [h5]))
  refine Ev.bind (laws_eqIntS.ev y y' hy) ?_
  refine Ev.cases (fun h6 => Ev.some ?_) (fun h6 => Ev.some (by simp at h6; simp [h6]))
  simp at h3 h6; simp [h1, h2, h3, h4, h5, h6]

theorem laws_markIntS.ev (l : List Int) (k0 : Int) (h0 : 0 ≤ k0) (h1 : k0 + l.length ≤ 9223372036854775807) : Ev (fun k => laws_markIntS.f k l k0) (k0 + l.length, marks k0 l.length) := by
  unfold laws_markIntS.f
  by_cases hb : (l.length : Int) ≤ 9223372036854775807
  · refine Ev.eq (Ev.congr (fun k => ?_) (Ev.up (g := fun k i => laws_markIntS.l0 k (marks k0 i.toNat ++ l.drop i.toNat) (k0 + i) i) l.length (fun _ => (k0 + l.length, marks k0 l.length)) ?_)) rfl
    · simp [marks]
    intro i hi ih
    refine Ev.step (fun k => by rw [laws_markIntS.l0]) ?_
    by_cases hlt : i < l.length
    · refine Ev.pos (by simp [marks_length]; omega) (Ev.pos (by omega) ?_)
      have h2 := ih hlt
      simp only [Int.toNat_natCast] at h2 ⊢
      rw [w64_succ hlt (by omega), w64 (by omega) (by omega), set_mark _ _ _ (marks_length _ _) hlt, ← marks_succ]
      refine Ev.congr (fun k => ?_) h2
      rw [show k0 + (i : Int) + 1 = k0 + ((i + 1 : Nat) : Int) by omega]
    · have : i = l.length := by omega
      subst this
      refine Ev.neg (by simp [marks_length]) (Ev.some ?_)
      simp
  · omega

theorem laws_markLeases.ev (a b c d : Int) (x y : List Int) (k0 : Int) (h0 : 0 ≤ k0) (h1 : k0 + x.length + y.length ≤ 9223372036854775807) :
    Ev (fun k => laws_markLeases.f k a b x c d y k0) (k0 + x.length + y.length, marks k0 x.length, marks (k0 + x.length) y.length) := by
  unfold laws_markLeases.f
  refine Ev.bind (laws_markIntS.ev x k0 (by omega) (by omega)) ?_
  refine Ev.bind (laws_markIntS.ev y (k0 + x.length) (by omega) (by omega)) ?_
  exact Ev.now _

/-- What is left of a size, -1 where nothing is. -/
def lessSz (a : Int) (n : Nat) : Int := if a < n then -1 else a - n
theorem laws_szIntS.ev (l : List Int) (a : Int) (h0 : 0 ≤ a) (h1 : a ≤ 1048576) (hl : l.length ≤ 9223372036854775807) : laws_szIntS.f l a = some (lessSz a l.length) := by
  unfold laws_szIntS.f lessSz
  rw [w64 (by omega) (by omega)]
  by_cases h : a < l.length
  · rw [if_pos (by omega), if_pos h]
  · rw [if_neg (by omega), if_neg h]

theorem laws_szLeases.ev (a b c d : Int) (x y : List Int) (hx : x.length ≤ 9223372036854775807) (hy : y.length ≤ 9223372036854775807) :
    ∃ r, laws_szLeases.f a b x c d y 1048576 = some r ∧ (0 ≤ r → x.length + y.length ≤ 1048576) := by
  unfold laws_szLeases.f
  rw [laws_szIntS.ev x _ (by omega) (by omega) hx]
  simp only [Option.bind_some]
  unfold lessSz
  by_cases h : (1048576 : Int) < x.length
  · exact ⟨-1, by simp [h], fun h => by omega⟩
  · rw [if_neg h, if_neg (by omega), laws_szIntS.ev y _ (by omega) (by omega) hy]
    simp only [Option.bind_some]
    unfold lessSz
    by_cases h2 : (1048576 : Int) - x.length < y.length
    · exact ⟨-1, by simp [h2], fun h => by omega⟩
    · exact ⟨_, by rw [if_neg h2, if_neg (by omega)], fun _ => by omega⟩

theorem laws_toIntS.ev (l : List Int) (hl : l.length ≤ 1048576) : Ev (fun k => laws_toIntS.f k l) l := by
  unfold laws_toIntS.f
  refine Ev.pos (by omega) (Ev.pos (by omega) ?_)
  refine Ev.eq (Ev.up (g := fun k i => laws_toIntS.l0 k l (l.take i.toNat ++ List.replicate (l.length - i.toNat) 0) i) l.length (fun _ => l) ?_) rfl
  intro i hi ih
  refine Ev.step (fun k => by rw [laws_toIntS.l0]) ?_
  by_cases hlt : i < l.length
  · refine Ev.pos (by omega) (Ev.pos (by omega) (Ev.pos (by simp; omega) ?_))
    rw [rd_get hlt, w64_succ hlt (by omega)]
    have h2 := ih hlt
    simp only [Int.toNat_natCast] at h2 ⊢
    rw [set_fill l 0 hlt]
    exact h2
  · refine Ev.neg (by omega) (Ev.some ?_)
    simp only [Int.toNat_natCast]
    have : i = l.length := by omega
    subst this
    simp

theorem laws_toLeases.ev (a b c d : Int) (x y : List Int) (h : x.length + y.length ≤ 1048576) : Ev (fun k => laws_toLeases.f k a b x c d y) (a, b, x, c, d, y) := by
  unfold laws_toLeases.f
  refine Ev.bind (laws_toIntS.ev x (by omega)) ?_
  refine Ev.bind (laws_toIntS.ev y (by omega)) ?_
  exact Ev.now _

theorem spec_l1In.ev (n a b : Int) : spec_l1In.f n a b = some (inB n a b) := by
  unfold spec_l1In.f inB
  by_cases h : a ≤ n
  · rw [if_pos h]; simp [h]
  · rw [if_neg h]; simp [h]

theorem spec_l8Nodes.ev (n : Int) : spec_l8Nodes.f n = some (inB n 1 12) := by
  unfold spec_l8Nodes.f; rw [spec_l1In.ev]; rfl

/-- One node's clock and what it knows are as said. -/
def okNode (sk nw ho un : Int) (cl kn : List Int) (i : Nat) : Bool := inB (rd cl (i : Int)) (max (nw - sk) 0) (nw + sk) && inB (rd kn i) 0 un && (decide ((i : Int) = ho) || decide (rd kn i ≤ nw))
/-- Leases are good. -/
def goodL (sk nw : Int) (cl : List Int) (ho un : Int) (kn : List Int) : Bool :=
  inB sk 0 1000 && inB nw 0 1000000 && inB cl.length 1 12 && inB ho (-1) (cl.length - 1) && inB un 0 2000000 && decide (kn.length = cl.length) && allFrom (okNode sk nw ho un cl kn) cl.length 0
theorem spec_GoodLeases.ev (sk nw : Int) (cl : List Int) (ho un : Int) (kn : List Int) (hc : cl.length ≤ 9223372036854775807) : Ev (fun k => spec_GoodLeases.f k sk nw cl ho un kn) (goodL sk nw cl ho un kn) := by
  have hj : Ev (fun k => spec_GoodLeases.j0 k true sk nw cl ho un kn) false := Ev.step (fun k => by rw [spec_GoodLeases.j0]) (Ev.pos rfl (Ev.now _))
  unfold spec_GoodLeases.f goodL
  refine Ev.bindS (spec_l1In.ev _ _ _) ?_
  refine Ev.cases (fun h1 => ?_) (fun h1 => Ev.eq hj (by simp at h1; simp [h1]))
  refine Ev.bindS (spec_l1In.ev _ _ _) ?_
  refine Ev.cases (fun h2 => ?_) (fun h2 => Ev.eq hj (by simp at h2; simp [h2]))
  refine Ev.bindS (spec_l8Nodes.ev _) ?_
  refine Ev.cases (fun h3 => ?_) (fun h3 => Ev.eq hj (by simp at h3; simp [h3]))
  rw [inB_iff] at h1 h2 h3
  rw [w64 (by omega) (by omega)]
  refine Ev.cases (fun h4 => ?_) (fun h4 => Ev.eq hj (by have : ¬ kn.length = cl.length := by omega
                                                         simp [this]))
  refine Ev.bindS (spec_l1In.ev _ _ _) ?_
  refine Ev.cases (fun h5 => ?_) (fun h5 => Ev.eq hj (by simp at h5; simp [h5]))
  refine Ev.bindS (spec_l1In.ev _ _ _) ?_
  cases h6 : inB un 0 2000000 with
  | false => exact Ev.eq hj (by simp)
  | true =>
    rw [inB_iff] at h5 h6
    have e1 := inB_iff.2 h1; have e2 := inB_iff.2 h2; have e3 := inB_iff.2 h3; have e5 := inB_iff.2 h5
    rw [e1, e2, e3, e5, decide_eq_true (by omega : kn.length = cl.length)]
    refine Ev.step (fun k => by rw [spec_GoodLeases.j0]) (Ev.neg (by simp) ?_)
    refine Ev.eq (Ev.up (g := fun k i => spec_GoodLeases.l0 k cl (cl.length : Int) i sk nw cl ho un kn) cl.length (fun i => allFrom (okNode sk nw ho un cl kn) cl.length i) ?_) (by simp)
    intro i hi ih
    refine Ev.step (fun k => by rw [spec_GoodLeases.l0]) ?_
    by_cases hlt : i < cl.length
    · refine Ev.pos (by omega) (Ev.pos (by omega) (Ev.pos (by omega) ?_))
      rw [w64_succ hlt hc, w64 (by omega) (by omega), w64 (by omega) (by omega), allFrom_step hlt]
      have ih := ih hlt
      generalize hq : allFrom (okNode sk nw ho un cl kn) cl.length (i + 1) = q at ih ⊢
      unfold okNode
      refine Ev.cases (fun h7 => Ev.some ?_) (fun h7 => ?_)
      · have : inB (rd cl (i : Int)) (max (nw - sk) 0) (nw + sk) = false := inB_not.2 (by omega)
        rw [this]; simp
      have e7 : inB (rd cl (i : Int)) (max (nw - sk) 0) (nw + sk) = inB (rd cl i) (nw - sk) (nw + sk) := by
        rw [Bool.eq_iff_iff, inB_iff, inB_iff]; omega
      rw [e7]
      refine Ev.bindS (spec_l1In.ev _ _ _) ?_
      refine Ev.cases (fun h8 => ?_) (fun h8 => Ev.some (by simp at h8; simp [h8]))
      refine Ev.pos (by omega) (Ev.bindS (spec_l1In.ev _ _ _) ?_)
      refine Ev.cases (fun h9 => ?_) (fun h9 => Ev.some (by simp at h9; simp [h9]))
      refine Ev.cases (fun h10 => Ev.eq ih (by rw [h8, h9, decide_eq_true h10]; rfl)) (fun h10 => ?_)
      refine Ev.cases (fun h11 => Ev.some (by rw [h8, h9, decide_eq_false h10, decide_eq_false (by omega)]; rfl)) (fun h11 => Ev.eq ih (by rw [h8, h9, decide_eq_true (by omega : rd kn i ≤ nw)]; simp))
    · have : i = cl.length := by omega
      subst this
      exact Ev.neg (by omega) (Ev.some (by rw [allFrom_end]))
theorem goodL_len {sk nw : Int} {cl : List Int} {ho un : Int} {kn : List Int} (h : goodL sk nw cl ho un kn = true) : 0 ≤ sk ∧ sk ≤ 1000 ∧ 0 ≤ nw ∧ nw ≤ 1000000 ∧ cl.length ≤ 12 ∧ kn.length = cl.length ∧ 0 ≤ un ∧ un ≤ 2000000 ∧ ∀ i : Nat, i < cl.length → 0 ≤ rd kn i ∧ rd kn i ≤ un ∧ 0 ≤ rd cl i ∧ rd cl i ≤ nw + sk := by
  simp only [goodL, Bool.and_eq_true, decide_eq_true_eq, inB_iff] at h
  obtain ⟨⟨⟨⟨⟨⟨h1, h2⟩, h3⟩, h4⟩, h5⟩, h6⟩, h7⟩ := h
  refine ⟨by omega, by omega, by omega, by omega, by omega, h6, by omega, by omega, fun i hi => ?_⟩
  have h8 := allFrom_iff.1 h7 i (by omega) hi
  simp only [okNode, Bool.and_eq_true, inB_iff] at h8
  omega

/-- The nodes below i whose clock is safely behind what they know. -/
def believe (sk : Int) (cl kn : List Int) (i : Nat) : List Int := ((List.range i).filter (fun j : Nat => decide (rd cl j + sk < rd kn j))).map (fun j : Nat => (j : Int))
theorem believe_succ (sk : Int) (cl kn : List Int) (i : Nat) : believe sk cl kn (i + 1) = if rd cl i + sk < rd kn i then believe sk cl kn i ++ [(i : Int)] else believe sk cl kn i := by
  unfold believe
  rw [List.range_succ, List.filter_append]
  by_cases h : rd cl i + sk < rd kn i <;> simp [h]
theorem believe_length (sk : Int) (cl kn : List Int) (i : Nat) : (believe sk cl kn i).length ≤ i := by
  unfold believe
  rw [List.length_map]
  exact Nat.le_trans (List.length_filter_le _ _) (by simp)
theorem spec_l11Believers.ev {sk nw : Int} {cl : List Int} {ho un : Int} {kn : List Int} (hg : goodL sk nw cl ho un kn = true) : Ev (fun k => spec_l11Believers.f k sk nw cl ho un kn) (believe sk cl kn cl.length) := by
  obtain ⟨g1, g2, g3, g4, g5, g6, g7, g8, g9⟩ := goodL_len hg
  unfold spec_l11Believers.f
  refine Ev.eq (Ev.congr (fun k => ?_) (Ev.up (g := fun k i => spec_l11Believers.l0 k (believe sk cl kn i.toNat) cl (cl.length : Int) i sk nw cl ho un kn) cl.length (fun _ => believe sk cl kn cl.length) ?_)) rfl
  · rfl
  intro i hi ih
  refine Ev.step (fun k => by rw [spec_l11Believers.l0]) ?_
  by_cases hlt : i < cl.length
  · have g := g9 i hlt
    have h2 := ih hlt
    have hl := believe_length sk cl kn i
    simp only [Int.toNat_natCast] at h2 ⊢
    rw [believe_succ] at h2
    refine Ev.pos (by omega) (Ev.pos (by omega) (Ev.pos (by omega) (Ev.pos (by omega) ?_)))
    rw [w64 (by omega) (by omega), w64_succ hlt (by omega)]
    refine Ev.cases (fun h => Ev.pos (by omega) ?_) (fun h => ?_)
    · rw [if_pos h] at h2; exact h2
    · rw [if_neg h] at h2; exact h2
  · have : i = cl.length := by omega
    subst this
    exact Ev.neg (by omega) (Ev.some (by simp))

def believersL (sk nw : Int) (cl : List Int) (ho un : Int) (kn : List Int) : List Int × Bool :=
  if goodL sk nw cl ho un kn then (believe sk cl kn cl.length, true) else ([], false)
theorem spec_BelieversOf.ev (sk nw : Int) (cl : List Int) (ho un : Int) (kn : List Int) (hc : cl.length ≤ 9223372036854775807) : Ev (fun k => spec_BelieversOf.f k sk nw cl ho un kn) (believersL sk nw cl ho un kn) := by
  unfold spec_BelieversOf.f believersL
  refine Ev.bind (spec_GoodLeases.ev sk nw cl ho un kn hc) ?_
  refine Ev.cases (fun h1 => ?_) (fun h1 => Ev.some (by rw [if_neg h1]))
  rw [if_pos h1]
  exact Ev.bind (spec_l11Believers.ev h1) (Ev.now _)
theorem believersL_length (sk nw : Int) (cl : List Int) (ho un : Int) (kn : List Int) : (believersL sk nw cl ho un kn).1.length ≤ cl.length := by
  unfold believersL
  split
  · exact believe_length _ _ _ _
  · simp

theorem impl_in.ev (n a b : Int) : impl_in.f n a b = some (inB n a b) := by
  unfold impl_in.f inB
  by_cases h : a ≤ n
  · rw [if_pos h]; simp [h]
  · rw [if_neg h]; simp [h]

theorem mx0 (a b : Int) : mx a b = max a b := by unfold mx; omega
theorem impl_areLeases.ev (sk nw : Int) (cl : List Int) (ho un : Int) (kn : List Int) (hc : cl.length ≤ 9223372036854775807) : Ev (fun k => impl_areLeases.f k sk nw cl ho un kn) (goodL sk nw cl ho un kn) := by
  have hj : Ev (fun k => impl_areLeases.j0 k true sk nw cl ho un kn) false := Ev.step (fun k => by rw [impl_areLeases.j0]) (Ev.pos rfl (Ev.now _))
  unfold impl_areLeases.f goodL
  refine Ev.bindS (impl_in.ev _ _ _) ?_
  refine Ev.cases (fun h1 => ?_) (fun h1 => Ev.eq hj (by simp at h1; simp [h1]))
  refine Ev.bindS (impl_in.ev _ _ _) ?_
  refine Ev.cases (fun h2 => ?_) (fun h2 => Ev.eq hj (by simp at h2; simp [h2]))
  refine Ev.bindS (impl_in.ev _ _ _) ?_
  refine Ev.cases (fun h3 => ?_) (fun h3 => Ev.eq hj (by simp at h3; simp [h3]))
  rw [inB_iff] at h1 h2 h3
  rw [w64 (by omega) (by omega)]
  refine Ev.bindS (impl_in.ev _ _ _) ?_
  refine Ev.cases (fun h5 => ?_) (fun h5 => Ev.eq hj (by simp at h5; simp [h5]))
  refine Ev.bindS (impl_in.ev _ _ _) ?_
  refine Ev.cases (fun h6 => ?_) (fun h6 => Ev.eq hj (by simp at h6; simp [h6]))
  by_cases h4 : kn.length = cl.length
  · have e4 : ((kn.length : Int) != (cl.length : Int)) = false := by rw [h4]; simp
    rw [inB_iff] at h5 h6
    have e1 := inB_iff.2 h1; have e2 := inB_iff.2 h2; have e3 := inB_iff.2 h3; have e5 := inB_iff.2 h5; have e6 := inB_iff.2 h6
    rw [e1, e2, e3, e5, e6, decide_eq_true h4, e4]
    refine Ev.step (fun k => by rw [impl_areLeases.j0]) (Ev.neg (by simp) ?_)
    refine Ev.eq (Ev.up (g := fun k i => impl_areLeases.l0 k cl (cl.length : Int) i sk nw cl ho un kn) cl.length (fun i => allFrom (okNode sk nw ho un cl kn) cl.length i) ?_) (by simp)
    intro i hi ih
    refine Ev.step (fun k => by rw [impl_areLeases.l0]) ?_
    by_cases hlt : i < cl.length
    · refine Ev.pos (by omega) (Ev.pos (by omega) (Ev.pos (by omega) ?_))
      rw [w64_succ hlt hc, w64 (by omega) (by omega), w64 (by omega) (by omega), mx0, allFrom_step hlt]
      have ih := ih hlt
      generalize hq : allFrom (okNode sk nw ho un cl kn) cl.length (i + 1) = q at ih ⊢
      unfold okNode
      refine Ev.bindS (impl_in.ev _ _ _) ?_
      refine Ev.cases (fun h8 => ?_) (fun h8 => Ev.some (by simp at h8; simp [h8]))
      refine Ev.pos (by omega) (Ev.bindS (impl_in.ev _ _ _) ?_)
      refine Ev.cases (fun h9 => ?_) (fun h9 => Ev.some (by simp at h9; simp [h9]))
      refine Ev.cases (fun h10 => Ev.eq ih (by rw [h8, h9, decide_eq_true h10]; rfl)) (fun h10 => ?_)
      refine Ev.cases (fun h11 => Ev.some (by rw [h8, h9, decide_eq_false h10, decide_eq_false (by omega)]; rfl)) (fun h11 => Ev.eq ih (by rw [h8, h9, decide_eq_true (by omega : rd kn i ≤ nw)]; simp))
    · have : i = cl.length := by omega
      subst this
      exact Ev.neg (by omega) (Ev.some (by rw [allFrom_end]))
  · have e4 : ((kn.length : Int) != (cl.length : Int)) = true := by simp; omega
    rw [e4]
    exact Ev.eq hj (by simp [h4])

theorem impl_Leases_believers.ev {sk nw : Int} {cl : List Int} {ho un : Int} {kn : List Int} (hg : goodL sk nw cl ho un kn = true) : Ev (fun k => impl_Leases_believers.f k sk nw cl ho un kn) (believe sk cl kn cl.length) := by
  obtain ⟨g1, g2, g3, g4, g5, g6, g7, g8, g9⟩ := goodL_len hg
  unfold impl_Leases_believers.f
  refine Ev.eq (Ev.congr (fun k => ?_) (Ev.up (g := fun k i => impl_Leases_believers.l0 k (believe sk cl kn i.toNat) cl (cl.length : Int) i sk nw cl ho un kn) cl.length (fun _ => believe sk cl kn cl.length) ?_)) rfl
  · rfl
  intro i hi ih
  refine Ev.step (fun k => by rw [impl_Leases_believers.l0]) ?_
  by_cases hlt : i < cl.length
  · have g := g9 i hlt
    have h2 := ih hlt
    have hl := believe_length sk cl kn i
    simp only [Int.toNat_natCast] at h2 ⊢
    rw [believe_succ] at h2
    refine Ev.pos (by omega) (Ev.pos (by omega) (Ev.pos (by omega) (Ev.pos (by omega) ?_)))
    rw [w64 (by omega) (by omega), w64_succ hlt (by omega)]
    refine Ev.cases (fun h => Ev.pos (by omega) ?_) (fun h => ?_)
    · rw [if_pos h] at h2; exact h2
    · rw [if_neg h] at h2; exact h2
  · have : i = cl.length := by omega
    subst this
    exact Ev.neg (by omega) (Ev.some (by simp))

theorem impl_BelieversOf.ev (sk nw : Int) (cl : List Int) (ho un : Int) (kn : List Int) (hc : cl.length ≤ 9223372036854775807) : Ev (fun k => impl_BelieversOf.f k sk nw cl ho un kn) (believersL sk nw cl ho un kn) := by
  unfold impl_BelieversOf.f believersL
  refine Ev.bind (impl_areLeases.ev sk nw cl ho un kn hc) ?_
  refine Ev.cases (fun h1 => ?_) (fun h1 => Ev.some (by rw [if_neg h1]))
  rw [if_pos h1]
  exact Ev.bind (impl_Leases_believers.ev h1) (Ev.now _)

theorem laws_heldIntS.ev (n : Nat) (k0 : Int) (h0 : -9223372036854775808 ≤ k0) (h1 : k0 + n ≤ 9223372036854775807) (hn : n ≤ 9223372036854775807) : Ev (fun k => laws_heldIntS.f k (marks k0 n) k0) (k0 + n) := by
  unfold laws_heldIntS.f
  refine Ev.eq (Ev.congr (fun k => ?_) (Ev.up (g := fun k i => laws_heldIntS.l0 k (marks k0 n) (k0 + i) i) n (fun _ => k0 + (n : Int)) ?_)) rfl
  · simp
  intro i hi ih
  refine Ev.step (fun k => by rw [laws_heldIntS.l0]) ?_
  by_cases hlt : i < n
  · refine Ev.pos (by rw [marks_length]; omega) (Ev.pos (by omega) (Ev.pos (marks_get hlt) ?_))
    have h2 := ih hlt
    rw [w64_succ hlt hn, w64 (by omega) (by omega)]
    refine Ev.congr (fun k => ?_) h2
    rw [show k0 + (i : Int) + 1 = k0 + ((i + 1 : Nat) : Int) by omega]
  · have : i = n := by omega
    subst this
    exact Ev.neg (by rw [marks_length]; omega) (Ev.some rfl)

theorem holds_ev (a0_0 : Int) (a0_1 : Int) (l0_2 : List Int) (a0_3 : Int) (a0_4 : Int) (l0_5 : List Int) (h2 : l0_2.length ≤ 9223372036854775807) (h5 : l0_5.length ≤ 9223372036854775807) : Ev (fun k => laws_FnExactBelieversOf.f k a0_0 a0_1 l0_2 a0_3 a0_4 l0_5) true := by
  obtain ⟨r, hr, hsz⟩ := laws_szLeases.ev a0_0 a0_1 a0_3 a0_4 l0_2 l0_5 h2 h5
  unfold laws_FnExactBelieversOf.f
  refine Ev.bindS hr (Ev.cases (fun _ => Ev.now _) (fun hn => ?_))
  have hsz := hsz (by omega)
  have tt := laws_toLeases.ev a0_0 a0_1 a0_3 a0_4 l0_2 l0_5 hsz
  have im := impl_BelieversOf.ev a0_0 a0_1 l0_2 a0_3 a0_4 l0_5 h2
  have hl := believersL_length a0_0 a0_1 l0_2 a0_3 a0_4 l0_5
  refine Ev.bind tt (Ev.bind (spec_BelieversOf.ev _ _ _ _ _ _ h2) (Ev.bind tt (Ev.bind im ?_)))
  generalize believersL a0_0 a0_1 l0_2 a0_3 a0_4 l0_5 = b at im hl ⊢
  obtain ⟨bl, bb⟩ := b
  have hl : bl.length ≤ l0_2.length := hl
  dsimp only
  refine Ev.bind (laws_eqIntS.ev _ _ (by omega)) (Ev.pos (by simp) ?_)
  refine Ev.step (fun k => by rw [laws_FnExactBelieversOf.j0]) (Ev.neg (by simp) (Ev.bind tt (Ev.bind (laws_eqLeases.ev _ _ _ _ _ _ _ _ _ _ _ _ h2 h5) ?_)))
  refine Ev.pos (decide_eq_true rfl) ?_
  refine Ev.bind (laws_markLeases.ev _ _ _ _ _ _ 1 (by omega) (by omega)) (Ev.neg (by omega) ?_)
  refine Ev.bind (laws_eqIntS.ev _ _ (by omega)) (Ev.pos (by simp) ?_)
  refine Ev.step (fun k => by rw [laws_FnExactBelieversOf.j1]) (Ev.neg (by simp) ?_)
  refine Ev.bind (laws_markIntS.ev bl 1 (by omega) (by omega)) ?_
  refine Ev.bind (laws_heldIntS.ev bl.length 1 (by omega) (by omega) (by omega)) (Ev.neg (by omega) (Ev.pos rfl ?_))
  refine Ev.bind tt (Ev.bind im (Ev.bind (laws_eqIntS.ev _ _ (show bl.length ≤ 9223372036854775807 by omega)) (Ev.pos (by simp) ?_)))
  refine Ev.step (fun k => by rw [laws_FnExactBelieversOf.j2]) (Ev.neg (by simp) ?_)
  exact Ev.bind (laws_heldIntS.ev bl.length 1 (by omega) (by omega) (by omega)) (Ev.neg (by omega) (Ev.pos rfl (Ev.now _)))

end Go.Proofs.Ytbnadnfggpnbgaa.PFnExactBelieversOf
namespace Go.Proofs.Ytbnadnfggpnbgaa.PureFnExactBelieversOf
open Go.RowKit Go.Proofs.Ytbnadnfggpnbgaa.PFnExactBelieversOf Go.Proofs.Ytbnadnfggpnbgaa.Base Go.Proofs.Ytbnadnfggpnbgaa.Open Go.Proofs.YtbnadnfggpnbgaaW.PrintWords Go.Proofs.YtbnadnfggpnbgaaW.PrintLast
theorem holds (a0_0 : Int) (a0_1 : Int) (l0_2 : List Int) (a0_3 : Int) (a0_4 : Int) (l0_5 : List Int) (w0 : ((Lit.int .i64 a0_0).wf = true ∧ (Lit.int .i64 a0_1).wf = true ∧ (l0_2.length ≤ 9223372036854775807 ∧ ∀ z ∈ l0_2, (Lit.int .i64 z).wf = true) ∧ (Lit.int .i64 a0_3).wf = true ∧ (Lit.int .i64 a0_4).wf = true ∧ (l0_5.length ≤ 9223372036854775807 ∧ ∀ z ∈ l0_5, (Lit.int .i64 z).wf = true))) : ∃ k, Go.Proofs.Ytbnadnfggpnbgaa.PFnExactBelieversOf.laws_FnExactBelieversOf.f k a0_0 a0_1 l0_2 a0_3 a0_4 l0_5 = some true := by
  exact (holds_ev _ _ _ _ _ _ w0.2.2.1.1 w0.2.2.2.2.2.1).rounds
end Go.Proofs.Ytbnadnfggpnbgaa.PureFnExactBelieversOf
