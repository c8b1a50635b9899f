/- What this text proves: laws.FnExactStepLease, told as plain functions of numbers and lists, answers true for all arguments.
   Conditions: the bounds that the typed reading gives. -/
import Derived.Test.YtbnadnfggpnbgaaPSLx11
import Derived.Test.YtbnadnfggpnbgaaOpen
import Derived.Test.YtbnadnfggpnbgaaBase
namespace Go.Proofs.Ytbnadnfggpnbgaa.PSL
open Go.RowKit Go.Proofs.Ytbnadnfggpnbgaa.Base Go.Proofs.Ytbnadnfggpnbgaa.Open Go.Proofs.YtbnadnfggpnbgaaW.PrintWords Go.Proofs.YtbnadnfggpnbgaaW.PrintLast Go.Proofs.YtbnadnfggpnbgaaW.PrintMore
set_option linter.unusedVariables false
set_option linter.unusedSimpArgs false
theorem u3 : Opens Try.prog 3 (Kd.int .i64) (fun x => (Lit.int .i64 x).wf = true) := Opens.int Try.underlying3 (by kernel_rfl)
theorem u22 : Opens Try.prog 22 (Kd.slice 3 (Kd.int .i64)) (fun x => (x.length ≤ 9223372036854775807 ∧ ∀ z ∈ x, (Lit.int .i64 z).wf = true)) := Opens.slice Try.underlying22 (by kernel_rfl) u3
theorem laws_eqIntS.ev (x y : List Int) (hx : x.length ≤ 9223372036854775807) : Ev (fun k => laws_eqIntS.f k x y) (decide (x = y)) := by
  unfold laws_eqIntS.f
  refine Ev.cases (fun hl => ?_) (fun hl => Ev.some ?_)
  · have hl' : x.length = y.length := by omega
    refine Ev.eq (Ev.up (g := fun k i => laws_eqIntS.l0 k x y i) x.length (fun i => decide (x.drop i = y.drop i)) ?_) (by simp)
    intro i hi ih
    refine Ev.step (fun k => by rw [laws_eqIntS.l0]) ?_
    by_cases hlt : i < x.length
    · refine Ev.pos (by omega) (Ev.pos (by omega) (Ev.pos (by omega) ?_))
      rw [rd_get hlt, rd_get (by omega : i < y.length), w64_succ hlt hx]
      have e : decide (x.drop i = y.drop i) = (decide (x[i] = y[i]) && decide (x.drop (i + 1) = y.drop (i + 1))) := drop_eq_step hlt (by omega)
      rw [e]
      refine Ev.cases (fun he => ?_) (fun he => Ev.some (by rw [decide_eq_false he]; rfl))
      exact Ev.eq (ih hlt) (by rw [decide_eq_true he]; rfl)
    · refine Ev.neg (by omega) (Ev.some ?_)
      rw [List.drop_of_length_le (by omega), List.drop_of_length_le (by omega)]
      simp
  · have : x ≠ y := fun h => hl (by rw [h])
    simp [this]

theorem laws_eqLeases.ev (a b c d : Int) (x y : List Int) (a' b' c' d' : Int) (x' y' : List Int) (hx : x.length ≤ 9223372036854775807) (hy : y.length ≤ 9223372036854775807) :
    Ev (fun k => laws_eqLeases.f k a b x c d y a' b' x' c' d' y') (decide ((a, b, x, c, d, y) = (a', b', x', c', d', y'))) := by
  unfold laws_eqLeases.f
  refine Ev.cases (fun h1 => ?_) (fun h1 => Ev.some (by simp [h1]))
  refine Ev.cases (fun h2 => ?_) (fun h2 => Ev.some (by simp [h2]))
  refine Ev.bind (laws_eqIntS.ev x x' hx) ?_
  refine Ev.cases (fun h3 => ?_) (fun h3 => Ev.some (by simp at h3; simp [h3]))
  refine Ev.cases (fun h4 => ?_) (fun h4 => Ev.some (by simp [h4]))
  refine Ev.cases (fun h5 => ?_) (fun h5 => Ev.some (by simp [h5]))
  refine Ev.bind (laws_eqIntS.ev y y' hy) ?_
  refine Ev.cases (fun h6 => Ev.some ?_) (fun h6 => Ev.some (by simp at h6; simp [h6]))
  simp at h3 h6; simp [h1, h2, h3, h4, h5, h6]

theorem laws_markIntS.ev (l : List Int) (k0 : Int) (h0 : 0 ≤ k0) (h1 : k0 + l.length ≤ 9223372036854775807) : Ev (fun k => laws_markIntS.f k l k0) (k0 + l.length, marks k0 l.length) := by
  unfold laws_markIntS.f
  by_cases hb : (l.length : Int) ≤ 9223372036854775807
  · refine Ev.eq (Ev.congr (fun k => ?_) (Ev.up (g := fun k i => laws_markIntS.l0 k (marks k0 i.toNat ++ l.drop i.toNat) (k0 + i) i) l.length (fun _ => (k0 + l.length, marks k0 l.length)) ?_)) rfl
    · simp [marks]
    intro i hi ih
    refine Ev.step (fun k => by rw [laws_markIntS.l0]) ?_
    by_cases hlt : i < l.length
    · refine Ev.pos (by simp [marks_length]; omega) (Ev.pos (by omega) ?_)
      have h2 := ih hlt
      simp only [Int.toNat_natCast] at h2 ⊢
      rw [w64_succ hlt (by omega), w64 (by omega) (by omega), set_mark _ _ _ (marks_length _ _) hlt, ← marks_succ]
      refine Ev.congr (fun k => ?_) h2
      rw [show k0 + (i : Int) + 1 = k0 + ((i + 1 : Nat) : Int) by omega]
    · have : i = l.length := by omega
      subst this
      refine Ev.neg (by simp [marks_length]) (Ev.some ?_)
      simp
  · omega

theorem laws_markLeases.ev (a b c d : Int) (x y : List Int) (k0 : Int) (h0 : 0 ≤ k0) (h1 : k0 + x.length + y.length ≤ 9223372036854775807) :
    Ev (fun k => laws_markLeases.f k a b x c d y k0) (k0 + x.length + y.length, marks k0 x.length, marks (k0 + x.length) y.length) := by
  unfold laws_markLeases.f
  refine Ev.bind (laws_markIntS.ev x k0 (by omega) (by omega)) ?_
  refine Ev.bind (laws_markIntS.ev y (k0 + x.length) (by omega) (by omega)) ?_
  exact Ev.now _

theorem laws_heldIntS.ev (n : Nat) (k0 : Int) (h0 : -9223372036854775808 ≤ k0) (h1 : k0 + n ≤ 9223372036854775807) (hn : n ≤ 9223372036854775807) : Ev (fun k => laws_heldIntS.f k (marks k0 n) k0) (k0 + n) := by
  unfold laws_heldIntS.f
  refine Ev.eq (Ev.congr (fun k => ?_) (Ev.up (g := fun k i => laws_heldIntS.l0 k (marks k0 n) (k0 + i) i) n (fun _ => k0 + (n : Int)) ?_)) rfl
  · simp
  intro i hi ih
  refine Ev.step (fun k => by rw [laws_heldIntS.l0]) ?_
  by_cases hlt : i < n
  · refine Ev.pos (by rw [marks_length]; omega) (Ev.pos (by omega) (Ev.pos (marks_get hlt) ?_))
    have h2 := ih hlt
    rw [w64_succ hlt hn, w64 (by omega) (by omega)]
    refine Ev.congr (fun k => ?_) h2
    rw [show k0 + (i : Int) + 1 = k0 + ((i + 1 : Nat) : Int) by omega]
  · have : i = n := by omega
    subst this
    exact Ev.neg (by rw [marks_length]; omega) (Ev.some rfl)

theorem laws_heldLeases.ev (a b c d : Int) (m n : Nat) (k0 : Int) (h0 : 0 ≤ k0) (h1 : k0 + m + n ≤ 9223372036854775807) :
    Ev (fun k => laws_heldLeases.f k a b (marks k0 m) c d (marks (k0 + m) n) k0) (k0 + m + n) := by
  unfold laws_heldLeases.f
  refine Ev.bind (laws_heldIntS.ev m k0 (by omega) (by omega) (by omega)) ?_
  refine Ev.neg (by omega) ?_
  refine Ev.bind (laws_heldIntS.ev n (k0 + m) (by omega) (by omega) (by omega)) ?_
  exact Ev.neg (by omega) (Ev.now _)

/-- What is left of a size, -1 where nothing is. -/
def lessSz (a : Int) (n : Nat) : Int := if a < n then -1 else a - n
theorem laws_szIntS.ev (l : List Int) (a : Int) (h0 : 0 ≤ a) (h1 : a ≤ 1048576) (hl : l.length ≤ 9223372036854775807) : laws_szIntS.f l a = some (lessSz a l.length) := by
  unfold laws_szIntS.f lessSz
  rw [w64 (by omega) (by omega)]
  by_cases h : a < l.length
  · rw [if_pos (by omega), if_pos h]
  · rw [if_neg (by omega), if_neg h]

theorem laws_szLeases.ev (a b c d : Int) (x y : List Int) (hx : x.length ≤ 9223372036854775807) (hy : y.length ≤ 9223372036854775807) :
    ∃ r, laws_szLeases.f a b x c d y 1048576 = some r ∧ (0 ≤ r → x.length + y.length ≤ 1048576) := by
  unfold laws_szLeases.f
  rw [laws_szIntS.ev x _ (by omega) (by omega) hx]
  simp only [Option.bind_some]
  unfold lessSz
  by_cases h : (1048576 : Int) < x.length
  · exact ⟨-1, by simp [h], fun h => by omega⟩
  · rw [if_neg h, if_neg (by omega), laws_szIntS.ev y _ (by omega) (by omega) hy]
    simp only [Option.bind_some]
    unfold lessSz
    by_cases h2 : (1048576 : Int) - x.length < y.length
    · exact ⟨-1, by simp [h2], fun h => by omega⟩
    · exact ⟨_, by rw [if_neg h2, if_neg (by omega)], fun _ => by omega⟩

theorem laws_toIntS.ev (l : List Int) (hl : l.length ≤ 1048576) : Ev (fun k => laws_toIntS.f k l) l := by
  unfold laws_toIntS.f
  refine Ev.pos (by omega) (Ev.pos (by omega) ?_)
  refine Ev.eq (Ev.up (g := fun k i => laws_toIntS.l0 k l (l.take i.toNat ++ List.replicate (l.length - i.toNat) 0) i) l.length (fun _ => l) ?_) rfl
  intro i hi ih
  refine Ev.step (fun k => by rw [laws_toIntS.l0]) ?_
  by_cases hlt : i < l.length
  · refine Ev.pos (by omega) (Ev.pos (by omega) (Ev.pos (by simp; omega) ?_))
    rw [rd_get hlt, w64_succ hlt (by omega)]
    have h2 := ih hlt
    simp only [Int.toNat_natCast] at h2 ⊢
    rw [set_fill l 0 hlt]
    exact h2
  · refine Ev.neg (by omega) (Ev.some ?_)
    simp only [Int.toNat_natCast]
    have : i = l.length := by omega
    subst this
    simp

theorem laws_toLeases.ev (a b c d : Int) (x y : List Int) (h : x.length + y.length ≤ 1048576) : Ev (fun k => laws_toLeases.f k a b x c d y) (a, b, x, c, d, y) := by
  unfold laws_toLeases.f
  refine Ev.bind (laws_toIntS.ev x (by omega)) ?_
  refine Ev.bind (laws_toIntS.ev y (by omega)) ?_
  exact Ev.now _

theorem spec_l1In.ev (n a b : Int) : spec_l1In.f n a b = some (inB n a b) := by
  unfold spec_l1In.f inB
  by_cases h : a ≤ n
  · rw [if_pos h]; simp [h]
  · rw [if_neg h]; simp [h]

theorem spec_l8Nodes.ev (n : Int) : spec_l8Nodes.f n = some (inB n 1 12) := by
  unfold spec_l8Nodes.f; rw [spec_l1In.ev]; rfl

/-- One node's clock and what it knows are as said. -/
def okNode (sk nw ho un : Int) (cl kn : List Int) (i : Nat) : Bool := inB (rd cl (i : Int)) (max (nw - sk) 0) (nw + sk) && inB (rd kn i) 0 un && (decide ((i : Int) = ho) || decide (rd kn i ≤ nw))
/-- Leases are good. -/
def goodL (sk nw : Int) (cl : List Int) (ho un : Int) (kn : List Int) : Bool :=
  inB sk 0 1000 && inB nw 0 1000000 && inB cl.length 1 12 && inB ho (-1) (cl.length - 1) && inB un 0 2000000 && decide (kn.length = cl.length) && allFrom (okNode sk nw ho un cl kn) cl.length 0
theorem spec_GoodLeases.ev (sk nw : Int) (cl : List Int) (ho un : Int) (kn : List Int) (hc : cl.length ≤ 9223372036854775807) : Ev (fun k => spec_GoodLeases.f k sk nw cl ho un kn) (goodL sk nw cl ho un kn) := by
  have hj : Ev (fun k => spec_GoodLeases.j0 k true sk nw cl ho un kn) false := Ev.step (fun k => by rw [spec_GoodLeases.j0]) (Ev.pos rfl (Ev.now _))
  unfold spec_GoodLeases.f goodL
  refine Ev.bindS (spec_l1In.ev _ _ _) ?_
  refine Ev.cases (fun h1 => ?_) (fun h1 => Ev.eq hj (by simp at h1; simp [h1]))
  refine Ev.bindS (spec_l1In.ev _ _ _) ?_
  refine Ev.cases (fun h2 => ?_) (fun h2 => Ev.eq hj (by simp at h2; simp [h2]))
  refine Ev.bindS (spec_l8Nodes.ev _) ?_
  refine Ev.cases (fun h3 => ?_) (fun h3 => Ev.eq hj (by simp at h3; simp [h3]))
  rw [inB_iff] at h1 h2 h3
  rw [w64 (by omega) (by omega)]
  refine Ev.cases (fun h4 => ?_) (fun h4 => Ev.eq hj (by have : ¬ kn.length = cl.length := by omega
                                                         simp [this]))
  refine Ev.bindS (spec_l1In.ev _ _ _) ?_
  refine Ev.cases (fun h5 => ?_) (fun h5 => Ev.eq hj (by simp at h5; simp [h5]))
  refine Ev.bindS (spec_l1In.ev _ _ _) ?_
  cases h6 : inB un 0 2000000 with
  | false => exact Ev.eq hj (by simp)
  | true =>
    rw [inB_iff] at h5 h6
    have e1 := inB_iff.2 h1; have e2 := inB_iff.2 h2; have e3 := inB_iff.2 h3; have e5 := inB_iff.2 h5
    rw [e1, e2, e3, e5, decide_eq_true (by omega : kn.length = cl.length)]
    refine Ev.step (fun k => by rw [spec_GoodLeases.j0]) (Ev.neg (by simp) ?_)
    refine Ev.eq (Ev.up (g := fun k i => spec_GoodLeases.l0 k cl (cl.length : Int) i sk nw cl ho un kn) cl.length (fun i => allFrom (okNode sk nw ho un cl kn) cl.length i) ?_) (by simp)
    intro i hi ih
    refine Ev.step (fun k => by rw [spec_GoodLeases.l0]) ?_
    by_cases hlt : i < cl.length
    · refine Ev.pos (by omega) (Ev.pos (by omega) (Ev.pos (by omega) ?_))
      rw [w64_succ hlt hc, w64 (by omega) (by omega), w64 (by omega) (by omega), allFrom_step hlt]
      have ih := ih hlt
      generalize hq : allFrom (okNode sk nw ho un cl kn) cl.length (i + 1) = q at ih ⊢
      unfold okNode
      refine Ev.cases (fun h7 => Ev.some ?_) (fun h7 => ?_)
      · have : inB (rd cl (i : Int)) (max (nw - sk) 0) (nw + sk) = false := inB_not.2 (by omega)
        rw [this]; simp
      have e7 : inB (rd cl (i : Int)) (max (nw - sk) 0) (nw + sk) = inB (rd cl i) (nw - sk) (nw + sk) := by
        rw [Bool.eq_iff_iff, inB_iff, inB_iff]; omega
      rw [e7]
      refine Ev.bindS (spec_l1In.ev _ _ _) ?_
      refine Ev.cases (fun h8 => ?_) (fun h8 => Ev.some (by simp at h8; simp [h8]))
      refine Ev.pos (by omega) (Ev.bindS (spec_l1In.ev _ _ _) ?_)
      refine Ev.cases (fun h9 => ?_) (fun h9 => Ev.some (by simp at h9; simp [h9]))
      refine Ev.cases (fun h10 => Ev.eq ih (by rw [h8, h9, decide_eq_true h10]; rfl)) (fun h10 => ?_)
      refine Ev.cases (fun h11 => Ev.some (by rw [h8, h9, decide_eq_false h10, decide_eq_false (by omega)]; rfl)) (fun h11 => Ev.eq ih (by rw [h8, h9, decide_eq_true (by omega : rd kn i ≤ nw)]; simp))
    · have : i = cl.length := by omega
      subst this
      exact Ev.neg (by omega) (Ev.some (by rw [allFrom_end]))
theorem goodL_len {sk nw : Int} {cl : List Int} {ho un : Int} {kn : List Int} (h : goodL sk nw cl ho un kn = true) : 0 ≤ sk ∧ sk ≤ 1000 ∧ 0 ≤ nw ∧ nw ≤ 1000000 ∧ cl.length ≤ 12 ∧ kn.length = cl.length ∧ 0 ≤ un ∧ un ≤ 2000000 ∧ ∀ i : Nat, i < cl.length → 0 ≤ rd kn i ∧ rd kn i ≤ un ∧ 0 ≤ rd cl i ∧ rd cl i ≤ nw + sk := by
  simp only [goodL, Bool.and_eq_true, decide_eq_true_eq, inB_iff] at h
  obtain ⟨⟨⟨⟨⟨⟨h1, h2⟩, h3⟩, h4⟩, h5⟩, h6⟩, h7⟩ := h
  refine ⟨by omega, by omega, by omega, by omega, by omega, h6, by omega, by omega, fun i hi => ?_⟩
  have h8 := allFrom_iff.1 h7 i (by omega) hi
  simp only [okNode, Bool.and_eq_true, inB_iff] at h8
  omega

abbrev LzR := Int × Int × List Int × Int × Int × List Int × Bool
def nullL : LzR := (0, 0, [], 0, 0, [], false)
def finL (sk nw : Int) (cl : List Int) (ho un : Int) (kn : List Int) : LzR := if goodL sk nw cl ho un kn = true then (sk, nw, cl, ho, un, kn, true) else nullL
def toR (r : LzR) : LzR := if r.2.2.2.2.2.2 = true then r else nullL
def stepR (sk nw : Int) (cl : List Int) (ho un : Int) (kn : List Int) (kind nd n : Int) : LzR :=
  if kind = 3 then (if inB n 1 1000000 = true then finL sk (nw + n) cl ho un kn else nullL)
  else if kind = 1 then (if (inB nd 0 ((cl.length : Int) - 1) && inB n 1 1000000 && (decide (ho = nd) || decide (un ≤ nw))) = true then finL sk nw cl nd (if ho = nd then max (nw + n) un else nw + n) kn else nullL)
  else if kind = 2 then (if (inB nd 0 ((cl.length : Int) - 1) && decide (ho = nd)) = true then finL sk nw cl ho un (kn.set nd.toNat un) else nullL)
  else if kind = 4 then (if (inB nd 0 ((cl.length : Int) - 1) && inB n (-1000) 1000000) = true then finL sk nw (cl.set nd.toNat (rd cl nd + n)) ho un kn else nullL)
  else nullL
theorem toR_fin (sk nw : Int) (cl : List Int) (ho un : Int) (kn : List Int) : toR (sk, nw, cl, ho, un, kn, goodL sk nw cl ho un kn) = finL sk nw cl ho un kn := by
  unfold toR finL; dsimp only
  cases goodL sk nw cl ho un kn <;> rfl
theorem toR_no (sk nw : Int) (cl : List Int) (ho un : Int) (kn : List Int) : toR (sk, nw, cl, ho, un, kn, false) = nullL := rfl
theorem finL_len (sk nw : Int) (cl : List Int) (ho un : Int) (kn : List Int) : (finL sk nw cl ho un kn).2.2.1.length ≤ 12 ∧ (finL sk nw cl ho un kn).2.2.2.2.2.1.length ≤ 12 := by
  unfold finL
  split
  · rename_i h
    have := goodL_len h
    simp only []; omega
  · exact ⟨by decide, by decide⟩
theorem nullL_len : nullL.2.2.1.length ≤ 12 ∧ nullL.2.2.2.2.2.1.length ≤ 12 := ⟨by decide, by decide⟩
theorem stepR_len (sk nw : Int) (cl : List Int) (ho un : Int) (kn : List Int) (kind nd n : Int) : (stepR sk nw cl ho un kn kind nd n).2.2.1.length ≤ 12 ∧ (stepR sk nw cl ho un kn kind nd n).2.2.2.2.2.1.length ≤ 12 := by
  unfold stepR
  repeat' split
  all_goals first | exact finL_len _ _ _ _ _ _ | exact nullL_len
theorem rd_node {l : List Int} {a : Int} {lo hi : Int} (h0 : 0 ≤ a) (h1 : a < l.length) (h : ∀ i : Nat, i < l.length → lo ≤ rd l i ∧ rd l i ≤ hi) : lo ≤ rd l a ∧ rd l a ≤ hi := by
  have := h a.toNat (by omega)
  rwa [show ((a.toNat : Nat) : Int) = a by omega] at this
theorem spec_l11Step.ev (sk nw : Int) (cl : List Int) (ho un : Int) (kn : List Int) (kind nd n : Int) (g : goodL sk nw cl ho un kn = true) :
    ∃ R, Ev (fun k => spec_l11Step.f k sk nw cl ho un kn kind nd n) R ∧ toR R = stepR sk nw cl ho un kn kind nd n := by
  obtain ⟨b1, b2, b3, b4, b5, b6, b7, b8, b9⟩ := goodL_len g
  have good := fun sk nw (cl : List Int) ho un kn (h : cl.length ≤ 9223372036854775807) => spec_GoodLeases.ev sk nw cl ho un kn h
  have no : ∀ kind, Ev (fun k => spec_l11Step.j0 k true sk nw cl ho un kn kind nd n) (sk, nw, cl, ho, un, kn, false) := fun kind => Ev.step (fun k => by rw [spec_l11Step.j0]) (Ev.pos rfl (Ev.now _))
  have ew : wrap64 ((cl.length : Int) - 1) = (cl.length : Int) - 1 := w64 (by omega) (by omega)
  unfold spec_l11Step.f stepR
  rw [ew]
  by_cases k3 : kind = 3
  · rw [if_pos k3]
    cases h : inB n 1 1000000 with
    | false => exact ⟨_, Ev.pos k3 (Ev.bindS (spec_l1In.ev _ _ _) (Ev.neg (by rw [h]; simp) (Ev.now _))), rfl⟩
    | true =>
      have hn := inB_iff.1 h
      refine ⟨_, Ev.pos k3 (Ev.bindS (spec_l1In.ev _ _ _) (Ev.pos h (Ev.bind (good _ _ _ _ _ _ (by omega)) (Ev.now _)))), ?_⟩
      rw [w64 (by omega) (by omega), if_pos rfl, toR_fin]
  · rw [if_neg k3]
    cases h : inB nd 0 ((cl.length : Int) - 1) with
    | false =>
      refine ⟨_, Ev.neg k3 (Ev.bindS (spec_l1In.ev _ _ _) (Ev.neg (by rw [h]; simp) (Ev.now _))), ?_⟩
      simp [toR_no]
    | true =>
      have hd := inB_iff.1 h
      simp only [Bool.true_and]
      by_cases k1 : kind = 1
      · rw [if_pos k1]
        cases h1 : inB n 1 1000000 with
        | false => exact ⟨_, Ev.neg k3 (Ev.bindS (spec_l1In.ev _ _ _) (Ev.pos h (Ev.pos k1 (Ev.bindS (spec_l1In.ev _ _ _) (Ev.neg (by rw [h1]; simp) (no _)))))), by simp [toR_no]⟩
        | true =>
          have hn := inB_iff.1 h1
          by_cases hh : ho = nd
          · have e : (true && (decide (ho = nd) || decide (un ≤ nw))) = true := by simp [hh]
            rw [if_pos e, if_pos hh]
            by_cases hu : un > nw + n
            · refine ⟨_, Ev.neg k3 (Ev.bindS (spec_l1In.ev _ _ _) (Ev.pos h (Ev.pos k1 (Ev.bindS (spec_l1In.ev _ _ _) (Ev.pos h1 (Ev.pos hh (Ev.step (fun k => by rw [spec_l11Step.j0]) (Ev.neg (by simp) (Ev.pos hh (Ev.pos (by rw [w64 (by omega) (by omega)]; exact hu) (Ev.bind (good _ _ _ _ _ _ (by omega)) (Ev.now _)))))))))))), ?_⟩
              rw [toR_fin, show max (nw + n) un = un by omega]
            · refine ⟨_, Ev.neg k3 (Ev.bindS (spec_l1In.ev _ _ _) (Ev.pos h (Ev.pos k1 (Ev.bindS (spec_l1In.ev _ _ _) (Ev.pos h1 (Ev.pos hh (Ev.step (fun k => by rw [spec_l11Step.j0]) (Ev.neg (by simp) (Ev.pos hh (Ev.neg (by rw [w64 (by omega) (by omega)]; exact hu) (Ev.bind (good _ _ _ _ _ _ (by omega)) (Ev.now _)))))))))))), ?_⟩
              rw [toR_fin, w64 (by omega) (by omega), show max (nw + n) un = nw + n by omega]
          · by_cases hu : un ≤ nw
            · have e : (true && (decide (ho = nd) || decide (un ≤ nw))) = true := by simp [hu]
              rw [if_pos e, if_neg hh]
              refine ⟨_, Ev.neg k3 (Ev.bindS (spec_l1In.ev _ _ _) (Ev.pos h (Ev.pos k1 (Ev.bindS (spec_l1In.ev _ _ _) (Ev.pos h1 (Ev.neg hh (Ev.step (fun k => by rw [spec_l11Step.j0]) (Ev.neg (by simp; omega) (Ev.neg hh (Ev.bind (good _ _ _ _ _ _ (by omega)) (Ev.now _))))))))))), ?_⟩
              rw [toR_fin, w64 (by omega) (by omega)]
            · have e : ¬ ((true && (decide (ho = nd) || decide (un ≤ nw))) = true) := by simp [hh]; omega
              rw [if_neg e]
              refine ⟨_, Ev.neg k3 (Ev.bindS (spec_l1In.ev _ _ _) (Ev.pos h (Ev.pos k1 (Ev.bindS (spec_l1In.ev _ _ _) (Ev.pos h1 (Ev.neg hh (Ev.eq (Ev.congr (fun k => by rw [decide_eq_true (by omega : nw < un)]) (no _)) rfl))))))), rfl⟩
      · rw [if_neg k1]
        by_cases k2 : kind = 2
        · rw [if_pos k2]
          by_cases hh : ho = nd
          · rw [if_pos (by simp [hh])]
            refine ⟨_, Ev.neg k3 (Ev.bindS (spec_l1In.ev _ _ _) (Ev.pos h (Ev.neg k1 (Ev.pos k2 (Ev.pos hh (Ev.pos (by omega) (Ev.pos (by omega) (Ev.bindS rfl (Ev.bind (good _ _ _ _ _ _ (by omega)) (Ev.now _)))))))))), ?_⟩
            rw [toR_fin]
          · rw [if_neg (by simp [hh])]
            exact ⟨_, Ev.neg k3 (Ev.bindS (spec_l1In.ev _ _ _) (Ev.pos h (Ev.neg k1 (Ev.pos k2 (Ev.neg hh (Ev.now _)))))), rfl⟩
        · rw [if_neg k2]
          by_cases k4 : kind = 4
          · rw [if_pos k4]
            cases h1 : inB n (-1000) 1000000 with
            | false => exact ⟨_, Ev.neg k3 (Ev.bindS (spec_l1In.ev _ _ _) (Ev.pos h (Ev.neg k1 (Ev.neg k2 (Ev.pos k4 (Ev.bindS (spec_l1In.ev _ _ _) (Ev.neg (by rw [h1]; simp) (Ev.now _)))))))), rfl⟩
            | true =>
              have hn := inB_iff.1 h1
              have hc := rd_node (l := cl) (a := nd) (lo := 0) (hi := nw + sk) hd.1 (by omega) (fun i hi => (b9 i hi).2.2)
              rw [if_pos rfl]
              refine ⟨_, Ev.neg k3 (Ev.bindS (spec_l1In.ev _ _ _) (Ev.pos h (Ev.neg k1 (Ev.neg k2 (Ev.pos k4 (Ev.bindS (spec_l1In.ev _ _ _) (Ev.pos h1 (Ev.pos (by omega) (Ev.pos (by omega) (Ev.bindS rfl (Ev.bind (good _ _ _ _ _ _ (by simp; omega)) (Ev.now _)))))))))))), ?_⟩
              rw [toR_fin, w64 (by omega) (by omega)]
          · rw [if_neg k4]
            exact ⟨_, Ev.neg k3 (Ev.bindS (spec_l1In.ev _ _ _) (Ev.pos h (Ev.neg k1 (Ev.neg k2 (Ev.neg k4 (Ev.now _)))))), rfl⟩

theorem spec_l11Own.ev (sk nw : Int) (cl : List Int) (ho un : Int) (kn : List Int) (h1 : cl.length ≤ 12) (h2 : kn.length ≤ 12) : spec_l11Own.f sk nw cl ho un kn = some (sk, nw, cl, ho, un, kn) := by
  unfold spec_l11Own.f
  simp only [Option.bind_some, List.nil_append, List.length_nil, Nat.zero_add]
  rw [if_pos (by omega), if_pos (by omega)]

def leaseR (sk nw : Int) (cl : List Int) (ho un : Int) (kn : List Int) (kind nd n : Int) : LzR := if goodL sk nw cl ho un kn = true then stepR sk nw cl ho un kn kind nd n else nullL
theorem leaseR_len (sk nw : Int) (cl : List Int) (ho un : Int) (kn : List Int) (kind nd n : Int) : (leaseR sk nw cl ho un kn kind nd n).2.2.1.length ≤ 12 ∧ (leaseR sk nw cl ho un kn kind nd n).2.2.2.2.2.1.length ≤ 12 := by
  unfold leaseR
  split
  · exact stepR_len _ _ _ _ _ _ _ _ _
  · exact nullL_len
theorem spec_StepLease.ev (sk nw : Int) (cl : List Int) (ho un : Int) (kn : List Int) (kind nd n : Int) (hc : cl.length ≤ 9223372036854775807) : Ev (fun k => spec_StepLease.f k sk nw cl ho un kn kind nd n) (leaseR sk nw cl ho un kn kind nd n) := by
  unfold spec_StepLease.f leaseR
  refine Ev.bind (spec_GoodLeases.ev _ _ _ _ _ _ hc) (Ev.cases (fun g => ?_) (fun g => Ev.some (by rw [if_neg g]; rfl)))
  rw [if_pos g]
  have b := goodL_len g
  obtain ⟨R, hR, e⟩ := spec_l11Step.ev sk nw cl ho un kn kind nd n g
  refine Ev.bindS (spec_l11Own.ev sk nw cl ho un kn (by omega) (by omega)) (Ev.bind hR ?_)
  rw [← e]
  unfold toR
  obtain ⟨r0, r1, r2, r3, r4, r5, r6⟩ := R
  cases r6
  · exact Ev.neg (by simp) (Ev.now _)
  · exact Ev.pos rfl (Ev.now _)

theorem laws_toLeaseStep.ev (a b c : Int) : laws_toLeaseStep.f a b c = some (a, b, c) := rfl

theorem impl_in.ev (n a b : Int) : impl_in.f n a b = some (inB n a b) := by
  unfold impl_in.f inB
  by_cases h : a ≤ n
  · rw [if_pos h]; simp [h]
  · rw [if_neg h]; simp [h]

theorem mx0 (a b : Int) : mx a b = max a b := by unfold mx; omega
theorem impl_areLeases.ev (sk nw : Int) (cl : List Int) (ho un : Int) (kn : List Int) (hc : cl.length ≤ 9223372036854775807) : Ev (fun k => impl_areLeases.f k sk nw cl ho un kn) (goodL sk nw cl ho un kn) := by
  have hj : Ev (fun k => impl_areLeases.j0 k true sk nw cl ho un kn) false := Ev.step (fun k => by rw [impl_areLeases.j0]) (Ev.pos rfl (Ev.now _))
  unfold impl_areLeases.f goodL
  refine Ev.bindS (impl_in.ev _ _ _) ?_
  refine Ev.cases (fun h1 => ?_) (fun h1 => Ev.eq hj (by simp at h1; simp [h1]))
  refine Ev.bindS (impl_in.ev _ _ _) ?_
  refine Ev.cases (fun h2 => ?_) (fun h2 => Ev.eq hj (by simp at h2; simp [h2]))
  refine Ev.bindS (impl_in.ev _ _ _) ?_
  refine Ev.cases (fun h3 => ?_) (fun h3 => Ev.eq hj (by simp at h3; simp [h3]))
  rw [inB_iff] at h1 h2 h3
  rw [w64 (by omega) (by omega)]
  refine Ev.bindS (impl_in.ev _ _ _) ?_
  refine Ev.cases (fun h5 => ?_) (fun h5 => Ev.eq hj (by simp at h5; simp [h5]))
  refine Ev.bindS (impl_in.ev _ _ _) ?_
  refine Ev.cases (fun h6 => ?_) (fun h6 => Ev.eq hj (by simp at h6; simp [h6]))
  by_cases h4 : kn.length = cl.length
  · have e4 : ((kn.length : Int) != (cl.length : Int)) = false := by rw [h4]; simp
    rw [inB_iff] at h5 h6
    have e1 := inB_iff.2 h1; have e2 := inB_iff.2 h2; have e3 := inB_iff.2 h3; have e5 := inB_iff.2 h5; have e6 := inB_iff.2 h6
    rw [e1, e2, e3, e5, e6, decide_eq_true h4, e4]
    refine Ev.step (fun k => by rw [impl_areLeases.j0]) (Ev.neg (by simp) ?_)
    refine Ev.eq (Ev.up (g := fun k i => impl_areLeases.l0 k cl (cl.length : Int) i sk nw cl ho un kn) cl.length (fun i => allFrom (okNode sk nw ho un cl kn) cl.length i) ?_) (by simp)
    intro i hi ih
    refine Ev.step (fun k => by rw [impl_areLeases.l0]) ?_
    by_cases hlt : i < cl.length
    · refine Ev.pos (by omega) (Ev.pos (by omega) (Ev.pos (by omega) ?_))
      rw [w64_succ hlt hc, w64 (by omega) (by omega), w64 (by omega) (by omega), mx0, allFrom_step hlt]
      have ih := ih hlt
      generalize hq : allFrom (okNode sk nw ho un cl kn) cl.length (i + 1) = q at ih ⊢
      unfold okNode
      refine Ev.bindS (impl_in.ev _ _ _) ?_
      refine Ev.cases (fun h8 => ?_) (fun h8 => Ev.some (by simp at h8; simp [h8]))
      refine Ev.pos (by omega) (Ev.bindS (impl_in.ev _ _ _) ?_)
      refine Ev.cases (fun h9 => ?_) (fun h9 => Ev.some (by simp at h9; simp [h9]))
      refine Ev.cases (fun h10 => Ev.eq ih (by rw [h8, h9, decide_eq_true h10]; rfl)) (fun h10 => ?_)
      refine Ev.cases (fun h11 => Ev.some (by rw [h8, h9, decide_eq_false h10, decide_eq_false (by omega)]; rfl)) (fun h11 => Ev.eq ih (by rw [h8, h9, decide_eq_true (by omega : rd kn i ≤ nw)]; simp))
    · have : i = cl.length := by omega
      subst this
      exact Ev.neg (by omega) (Ev.some (by rw [allFrom_end]))
  · have e4 : ((kn.length : Int) != (cl.length : Int)) = true := by simp; omega
    rw [e4]
    exact Ev.eq hj (by simp [h4])

theorem impl_Leases_step.ev (sk nw : Int) (cl : List Int) (ho un : Int) (kn : List Int) (kind nd n : Int) (g : goodL sk nw cl ho un kn = true) :
    Ev (fun k => impl_Leases_step.f k sk nw cl ho un kn kind nd n) (stepR sk nw cl ho un kn kind nd n) := by
  obtain ⟨b1, b2, b3, b4, b5, b6, b7, b8, b9⟩ := goodL_len g
  have fin : ∀ (sk nw : Int) (cl : List Int) (ho un : Int) (kn : List Int), cl.length ≤ 9223372036854775807 → Ev (fun k => (impl_areLeases.f k sk nw cl ho un kn).bind fun t => if t = true then some (sk, nw, cl, ho, un, kn, true) else some (0, 0, ([] : List Int), 0, 0, ([] : List Int), false)) (finL sk nw cl ho un kn) := by
    intro sk nw cl ho un kn hc
    refine Ev.bind (impl_areLeases.ev _ _ _ _ _ _ hc) (Ev.cases (fun h => Ev.some (by unfold finL; rw [if_pos h])) (fun h => Ev.some (by unfold finL; rw [if_neg h]; rfl)))
  have n0 : Ev (fun k => impl_Leases_step.j0 k false sk nw cl ho un kn kind nd n) nullL := by
    refine Ev.step (fun k => by rw [impl_Leases_step.j0]) ?_
    exact Ev.neg (by simp) (Ev.now _)
  have n1 : Ev (fun k => impl_Leases_step.j1 k false sk nw cl ho un kn kind nd n) nullL := by
    refine Ev.step (fun k => by rw [impl_Leases_step.j1]) ?_
    exact Ev.neg (by simp) (Ev.now _)
  have n2 : Ev (fun k => impl_Leases_step.j2 k false sk nw cl ho un kn kind nd n) nullL := by
    refine Ev.step (fun k => by rw [impl_Leases_step.j2]) ?_
    exact Ev.neg (by simp) (Ev.now _)
  unfold impl_Leases_step.f
  refine Ev.bindS rfl ?_
  refine Ev.pos (by simp; omega) ?_
  refine Ev.bindS rfl ?_
  refine Ev.bindS rfl ?_
  refine Ev.pos (by simp; omega) ?_
  refine Ev.bindS rfl ?_
  simp only [List.nil_append]
  have ew : wrap64 ((cl.length : Int) - 1) = (cl.length : Int) - 1 := w64 (by omega) (by omega)
  rw [ew]
  refine Ev.bindS (impl_in.ev _ _ _) ?_
  unfold stepR
  by_cases k1 : kind = 1
  · refine Ev.pos k1 ?_
    rw [if_neg (by omega), if_pos k1]
    cases h : inB nd 0 ((cl.length : Int) - 1) with
    | false => exact Ev.neg (by simp) (Ev.eq n0 (by simp))
    | true =>
      refine Ev.pos rfl (Ev.bindS (impl_in.ev _ _ _) ?_)
      cases h1 : inB n 1 1000000 with
      | false => exact Ev.neg (by simp) (Ev.eq n0 (by simp))
      | true =>
        have hn := inB_iff.1 h1
        refine Ev.pos rfl ?_
        by_cases hh : nd = ho
        · refine Ev.pos hh ?_
          refine Ev.step (fun k => by rw [impl_Leases_step.j0]) ?_
          refine Ev.pos rfl (Ev.pos hh ?_)
          rw [w64 (by omega) (by omega), mx0]
          rw [if_pos (by simp [hh]), if_pos hh.symm]
          exact fin _ _ _ _ _ _ (by omega)
        · refine Ev.neg hh ?_
          by_cases hu : un ≤ nw
          · rw [decide_eq_true (by omega : nw ≥ un)]
            refine Ev.step (fun k => by rw [impl_Leases_step.j0]) ?_
            refine Ev.pos rfl (Ev.neg hh ?_)
            rw [w64 (by omega) (by omega)]
            rw [if_pos (by simp), if_neg (fun e => hh e.symm)]
            exact fin _ _ _ _ _ _ (by omega)
          · rw [decide_eq_false (by omega : ¬ nw ≥ un)]
            exact Ev.eq n0 (by rw [if_neg (by rw [decide_eq_false (fun e => hh e.symm)]; simp)])
  · refine Ev.neg k1 ?_
    by_cases k2 : kind = 2
    · refine Ev.pos k2 ?_
      rw [if_neg (by omega), if_neg k1, if_pos k2]
      cases h : inB nd 0 ((cl.length : Int) - 1) with
      | false => exact Ev.neg (by simp) (Ev.eq n1 (by simp))
      | true =>
        have hd := inB_iff.1 h
        refine Ev.pos rfl ?_
        by_cases hh : nd = ho
        · rw [show (nd == ho) = true by simpa using hh]
          refine Ev.step (fun k => by rw [impl_Leases_step.j1]) ?_
          refine Ev.pos rfl (Ev.pos (by omega) (Ev.pos (by omega) (Ev.bindS rfl ?_)))
          rw [if_pos (by simp [hh])]
          exact fin _ _ _ _ _ _ (by omega)
        · rw [show (nd == ho) = false by simpa using hh]
          exact Ev.eq n1 (by rw [if_neg (by simp; exact fun e => hh e.symm)])
    · refine Ev.neg k2 ?_
      by_cases k3 : kind = 3
      · refine Ev.pos k3 (Ev.bindS (impl_in.ev _ _ _) ?_)
        rw [if_pos k3]
        cases h1 : inB n 1 1000000 with
        | false => exact Ev.neg (by simp) (Ev.eq (Ev.now _) rfl)
        | true =>
          have hn := inB_iff.1 h1
          refine Ev.pos rfl ?_
          rw [w64 (by omega) (by omega), if_pos rfl]
          exact fin _ _ _ _ _ _ (by omega)
      · refine Ev.neg k3 ?_
        rw [if_neg k3, if_neg k1, if_neg k2]
        by_cases k4 : kind = 4
        · refine Ev.pos k4 ?_
          rw [if_pos k4]
          cases h : inB nd 0 ((cl.length : Int) - 1) with
          | false => exact Ev.neg (by simp) (Ev.eq n2 (by simp))
          | true =>
            have hd := inB_iff.1 h
            refine Ev.pos rfl (Ev.bindS (impl_in.ev _ _ _) ?_)
            cases h1 : inB n (-1000) 1000000 with
            | false => exact Ev.eq n2 (by simp)
            | true =>
              have hn := inB_iff.1 h1
              have hc := rd_node (l := cl) (a := nd) (lo := 0) (hi := nw + sk) hd.1 (by omega) (fun i hi => (b9 i hi).2.2)
              refine Ev.step (fun k => by rw [impl_Leases_step.j2]) ?_
              refine Ev.pos rfl (Ev.pos (by omega) (Ev.pos (by omega) (Ev.bindS rfl ?_)))
              rw [if_pos (show (true && true) = true from rfl), w64 (by omega) (by omega)]
              exact fin _ _ _ _ _ _ (by simp; omega)
        · refine Ev.neg k4 ?_
          rw [if_neg k4]
          exact Ev.now _

theorem impl_StepLease.ev (sk nw : Int) (cl : List Int) (ho un : Int) (kn : List Int) (kind nd n : Int) (hc : cl.length ≤ 9223372036854775807) : Ev (fun k => impl_StepLease.f k sk nw cl ho un kn kind nd n) (leaseR sk nw cl ho un kn kind nd n) := by
  unfold impl_StepLease.f leaseR
  refine Ev.bind (impl_areLeases.ev _ _ _ _ _ _ hc) (Ev.cases (fun g => ?_) (fun g => Ev.some (by rw [if_neg g]; rfl)))
  rw [if_pos g]
  exact Ev.bind (impl_Leases_step.ev sk nw cl ho un kn kind nd n g) (Ev.some rfl)

theorem holds_ev (sk nw : Int) (cl : List Int) (ho un : Int) (kn : List Int) (kind nd n : Int) (h2 : cl.length ≤ 9223372036854775807) (h5 : kn.length ≤ 9223372036854775807) : Ev (fun k => laws_FnExactStepLease.f k sk nw cl ho un kn kind nd n) true := by
  obtain ⟨r, hr, hsz⟩ := laws_szLeases.ev sk nw ho un cl kn h2 h5
  unfold laws_FnExactStepLease.f
  refine Ev.bindS hr (Ev.cases (fun _ => Ev.now _) (fun hn => ?_))
  have o1 := hsz (by omega)
  have tt := laws_toLeases.ev sk nw ho un cl kn o1
  have sp := spec_StepLease.ev sk nw cl ho un kn kind nd n h2
  have im := impl_StepLease.ev sk nw cl ho un kn kind nd n h2
  obtain ⟨l1, l2⟩ := leaseR_len sk nw cl ho un kn kind nd n
  generalize leaseR sk nw cl ho un kn kind nd n = R at sp im l1 l2
  obtain ⟨r0, r1, r2, r3, r4, r5, r6⟩ := R
  dsimp only at l1 l2
  have e1 := laws_eqLeases.ev r0 r1 r3 r4 r2 r5 r0 r1 r3 r4 r2 r5 (by omega) (by omega)
  have hz : (r6 != r6) = false := by simp
  refine Ev.bind tt (Ev.bindS (laws_toLeaseStep.ev _ _ _) (Ev.bind sp (Ev.bind tt (Ev.bindS (laws_toLeaseStep.ev _ _ _) (Ev.bind im ?_)))))
  dsimp only
  refine Ev.bind e1 (Ev.pos (decide_eq_true rfl) ?_)
  rw [hz]
  refine Ev.step (fun k => by rw [laws_FnExactStepLease.j0]) ?_
  refine Ev.neg (by simp) (Ev.bind tt ?_)
  dsimp only
  refine Ev.bind (laws_eqLeases.ev _ _ _ _ _ _ _ _ _ _ _ _ (by omega) (by omega)) (Ev.pos (decide_eq_true rfl) ?_)
  refine Ev.bind (laws_markLeases.ev _ _ _ _ _ _ 1 (by omega) (by omega)) ?_
  dsimp only
  refine Ev.neg (by omega) ?_
  refine Ev.bind e1 (Ev.pos (decide_eq_true rfl) ?_)
  rw [hz]
  refine Ev.step (fun k => by rw [laws_FnExactStepLease.j1]) ?_
  refine Ev.neg (by simp) ?_
  refine Ev.bind (laws_markLeases.ev _ _ _ _ _ _ 1 (by omega) (by omega)) ?_
  dsimp only
  refine Ev.bind (laws_heldLeases.ev _ _ _ _ _ _ 1 (by omega) (by omega)) (Ev.neg (by omega) (Ev.pos rfl ?_))
  refine Ev.bind tt (Ev.bindS (laws_toLeaseStep.ev _ _ _) (Ev.bind im ?_))
  dsimp only
  refine Ev.bind e1 (Ev.pos (decide_eq_true rfl) ?_)
  rw [hz]
  refine Ev.step (fun k => by rw [laws_FnExactStepLease.j2]) ?_
  refine Ev.neg (by simp) ?_
  exact Ev.bind (laws_heldLeases.ev _ _ _ _ _ _ 1 (by omega) (by omega)) (Ev.neg (by omega) (Ev.pos rfl (Ev.now _)))

end Go.Proofs.Ytbnadnfggpnbgaa.PSL
namespace Go.Proofs.Ytbnadnfggpnbgaa.PureFnExactStepLease
open Go.RowKit Go.Proofs.Ytbnadnfggpnbgaa.PSL Go.Proofs.Ytbnadnfggpnbgaa.Base Go.Proofs.Ytbnadnfggpnbgaa.Open Go.Proofs.YtbnadnfggpnbgaaW.PrintWords Go.Proofs.YtbnadnfggpnbgaaW.PrintLast
theorem holds (a0_0 : Int) (a0_1 : Int) (l0_2 : List Int) (a0_3 : Int) (a0_4 : Int) (l0_5 : List Int) (a1_0 : Int) (a1_1 : Int) (a1_2 : Int) (w0 : ((Lit.int .i64 a0_0).wf = true ∧ (Lit.int .i64 a0_1).wf = true ∧ (l0_2.length ≤ 9223372036854775807 ∧ ∀ z ∈ l0_2, (Lit.int .i64 z).wf = true) ∧ (Lit.int .i64 a0_3).wf = true ∧ (Lit.int .i64 a0_4).wf = true ∧ (l0_5.length ≤ 9223372036854775807 ∧ ∀ z ∈ l0_5, (Lit.int .i64 z).wf = true))) (w1 : ((Lit.int .i64 a1_0).wf = true ∧ (Lit.int .i64 a1_1).wf = true ∧ (Lit.int .i64 a1_2).wf = true)) : ∃ k, Go.Proofs.Ytbnadnfggpnbgaa.PSL.laws_FnExactStepLease.f k a0_0 a0_1 l0_2 a0_3 a0_4 l0_5 a1_0 a1_1 a1_2 = some true := by
  have _h := w1
  exact (holds_ev _ _ _ _ _ _ _ _ _ w0.2.2.1.1 w0.2.2.2.2.2.1).rounds
end Go.Proofs.Ytbnadnfggpnbgaa.PureFnExactStepLease
