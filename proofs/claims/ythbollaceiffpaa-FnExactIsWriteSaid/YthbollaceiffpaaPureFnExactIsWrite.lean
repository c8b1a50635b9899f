/- What this text proves: laws.FnExactIsWrite, told as plain functions of numbers and lists, answers true for all arguments.
   Conditions: the bounds that the typed reading gives. -/
import Derived.Test.YthbollaceiffpaaPQx5
import Derived.Test.YthbollaceiffpaaOpen
import Derived.Test.YthbollaceiffpaaBase
namespace Go.Proofs.Ythbollaceiffpaa.PQ
open Go.RowKit Go.Proofs.Ythbollaceiffpaa.Base Go.Proofs.Ythbollaceiffpaa.Open Go.Proofs.YthbollaceiffpaaW.PrintWords Go.Proofs.YthbollaceiffpaaW.PrintLast Go.Proofs.YthbollaceiffpaaW.PrintMore
set_option linter.unusedVariables false
set_option linter.unusedSimpArgs false
/-- What is left of a size, -1 where nothing is. -/
def lessSz (a : Int) (n : Nat) : Int := if a < n then -1 else a - n
theorem laws_szIntS.ev (l : List Int) (a : Int) (h0 : 0 ≤ a) (h1 : a ≤ 1048576) (hl : l.length ≤ 9223372036854775807) : laws_szIntS.f l a = some (lessSz a l.length) := by
  unfold laws_szIntS.f lessSz
  rw [w64 (by omega) (by omega)]
  by_cases h : a < l.length
  · rw [if_pos (by omega), if_pos h]
  · rw [if_neg (by omega), if_neg h]

theorem laws_szGroup.ev (l : List Int) (a : Int) (h0 : 0 ≤ a) (h1 : a ≤ 1048576) (hl : l.length ≤ 9223372036854775807) : laws_szGroup.f l a = some (lessSz a l.length) := by
  unfold laws_szGroup.f
  rw [laws_szIntS.ev l a h0 h1 hl]
  simp only [Option.bind_some]
  unfold lessSz
  by_cases h : a < l.length
  · rw [if_pos h]; simp
  · rw [if_neg h, if_neg (by omega)]

theorem spec_l1In.ev (n a b : Int) : spec_l1In.f n a b = some (inB n a b) := by
  unfold spec_l1In.f inB
  by_cases h : a ≤ n
  · rw [if_pos h]; simp [h]
  · rw [if_neg h]; simp [h]

theorem spec_l8Nodes.ev (n : Int) : spec_l8Nodes.f n = some (inB n 1 12) := by
  unfold spec_l8Nodes.f; rw [spec_l1In.ev]; rfl

/-- Number i of a list lies from 0 to m, and above the one ahead of it. -/
def rise (l : List Int) (m : Int) (i : Nat) : Bool := inB (rd l i) 0 m && (decide (i = 0) || decide (rd l ((i : Int) - 1) < rd l i))
/-- A good group of n nodes. -/
def goodG (l : List Int) (n : Int) : Bool := inB n 1 12 && allFrom (rise l (wrap64 (n - 1))) l.length 0
theorem spec_GoodGroup.ev (l : List Int) (n : Int) (hl : l.length ≤ 9223372036854775807) : Ev (fun k => spec_GoodGroup.f k l n) (goodG l n) := by
  unfold spec_GoodGroup.f goodG
  refine Ev.eq (Ev.up (g := fun k i => spec_GoodGroup.l0 k n l (l.length : Int) i l) l.length (fun i => inB n 1 12 && allFrom (rise l (wrap64 (n - 1))) l.length i) ?_) rfl
  intro i hi ih
  refine Ev.step (fun k => by rw [spec_GoodGroup.l0]) ?_
  by_cases hlt : i < l.length
  · refine Ev.pos (by omega) (Ev.pos (by omega) (Ev.pos (by omega) (Ev.bindS (spec_l1In.ev _ _ _) ?_)))
    rw [allFrom_step hlt]
    have ih := ih hlt
    generalize allFrom (rise l (wrap64 (n - 1))) l.length (i + 1) = q at ih ⊢
    unfold rise
    refine Ev.cases (fun h1 => ?_) (fun h1 => Ev.some (by simp at h1; simp [h1]))
    rw [h1, w64_succ hlt hl]
    refine Ev.cases (fun h2 => ?_) (fun h2 => Ev.eq ih (by rw [decide_eq_true (by omega : i = 0)]; simp))
    rw [w64 (by omega) (by omega)]
    refine Ev.pos (by omega) (Ev.pos (by omega) (Ev.cases (fun h3 => Ev.some ?_) (fun h3 => Ev.eq ih ?_)))
    · rw [decide_eq_false (by omega : ¬ i = 0), decide_eq_false (by omega)]; simp
    · rw [decide_eq_true (by omega : rd l ((i : Int) - 1) < rd l i)]; simp
  · have : i = l.length := by omega
    subst this
    refine Ev.neg (by omega) (Ev.bindS (spec_l8Nodes.ev _) (Ev.some ?_))
    rw [allFrom_end]; simp

theorem laws_toIntS.ev (l : List Int) (hl : l.length ≤ 1048576) : Ev (fun k => laws_toIntS.f k l) l := by
  unfold laws_toIntS.f
  refine Ev.pos (by omega) (Ev.pos (by omega) ?_)
  refine Ev.eq (Ev.up (g := fun k i => laws_toIntS.l0 k l (l.take i.toNat ++ List.replicate (l.length - i.toNat) 0) i) l.length (fun _ => l) ?_) rfl
  intro i hi ih
  refine Ev.step (fun k => by rw [laws_toIntS.l0]) ?_
  by_cases hlt : i < l.length
  · refine Ev.pos (by omega) (Ev.pos (by omega) (Ev.pos (by simp; omega) ?_))
    rw [rd_get hlt, w64_succ hlt (by omega)]
    have h2 := ih hlt
    simp only [Int.toNat_natCast] at h2 ⊢
    rw [set_fill l 0 hlt]
    exact h2
  · refine Ev.neg (by omega) (Ev.some ?_)
    simp only [Int.toNat_natCast]
    have : i = l.length := by omega
    subst this
    simp

theorem laws_toGroup.ev (l : List Int) (hl : l.length ≤ 1048576) : Ev (fun k => laws_toGroup.f k l) l := by
  unfold laws_toGroup.f
  exact Ev.bind (laws_toIntS.ev l hl) (Ev.now _)

theorem impl_in.ev (n a b : Int) : impl_in.f n a b = some (inB n a b) := by
  unfold impl_in.f inB
  by_cases h : a ≤ n
  · rw [if_pos h]; simp [h]
  · rw [if_neg h]; simp [h]

theorem impl_areRising.ev (l : List Int) (n : Int) (hl : l.length ≤ 9223372036854775807) : Ev (fun k => impl_areRising.f k l n) (allFrom (rise l (wrap64 (n - 1))) l.length 0) := by
  unfold impl_areRising.f
  refine Ev.eq (Ev.up (g := fun k i => impl_areRising.l0 k l n l (l.length : Int) i) l.length (fun i => allFrom (rise l (wrap64 (n - 1))) l.length i) ?_) rfl
  intro i hi ih
  refine Ev.step (fun k => by rw [impl_areRising.l0]) ?_
  by_cases hlt : i < l.length
  · refine Ev.pos (by omega) (Ev.pos (by omega) (Ev.pos (by omega) (Ev.bindS (impl_in.ev _ _ _) ?_)))
    rw [allFrom_step hlt]
    have ih := ih hlt
    generalize allFrom (rise l (wrap64 (n - 1))) l.length (i + 1) = q at ih ⊢
    unfold rise
    refine Ev.cases (fun h1 => ?_) (fun h1 => Ev.some (by simp at h1; simp [h1]))
    rw [h1, w64_succ hlt hl]
    refine Ev.cases (fun h2 => ?_) (fun h2 => Ev.eq ih (by rw [decide_eq_true (by omega : i = 0)]; simp))
    rw [w64 (by omega) (by omega)]
    refine Ev.pos (by omega) (Ev.pos (by omega) (Ev.cases (fun h3 => Ev.some ?_) (fun h3 => Ev.eq ih ?_)))
    · rw [decide_eq_false (by omega : ¬ i = 0), decide_eq_false (by omega)]; simp
    · rw [decide_eq_true (by omega : rd l ((i : Int) - 1) < rd l i)]; simp
  · have : i = l.length := by omega
    subst this
    exact Ev.neg (by omega) (Ev.some (by rw [allFrom_end]))

theorem impl_isGroup.ev (l : List Int) (n : Int) (hl : l.length ≤ 9223372036854775807) : Ev (fun k => impl_isGroup.f k l n) (goodG l n) := by
  unfold impl_isGroup.f goodG
  refine Ev.bindS (impl_in.ev _ _ _) ?_
  refine Ev.cases (fun h1 => ?_) (fun h1 => Ev.some (by simp at h1; simp [h1]))
  exact Ev.bind (impl_areRising.ev l n hl) (Ev.some (by rw [h1]; rfl))

theorem laws_eqIntS.ev (x y : List Int) (hx : x.length ≤ 9223372036854775807) : Ev (fun k => laws_eqIntS.f k x y) (decide (x = y)) := by
  unfold laws_eqIntS.f
  refine Ev.cases (fun hl => ?_) (fun hl => Ev.some ?_)
  · have hl' : x.length = y.length := by omega
    refine Ev.eq (Ev.up (g := fun k i => laws_eqIntS.l0 k x y i) x.length (fun i => decide (x.drop i = y.drop i)) ?_) (by simp)
    intro i hi ih
    refine Ev.step (fun k => by rw [laws_eqIntS.l0]) ?_
    by_cases hlt : i < x.length
    · refine Ev.pos (by omega) (Ev.pos (by omega) (Ev.pos (by omega) ?_))
      rw [rd_get hlt, rd_get (by omega : i < y.length), w64_succ hlt hx]
      have e : decide (x.drop i = y.drop i) = (decide (x[i] = y[i]) && decide (x.drop (i + 1) = y.drop (i + 1))) := drop_eq_step hlt (by omega)
      rw [e]
      refine Ev.cases (fun he => ?_) (fun he => Ev.some (by rw [decide_eq_false he]; rfl))
      exact Ev.eq (ih hlt) (by rw [decide_eq_true he]; rfl)
    · refine Ev.neg (by omega) (Ev.some ?_)
      rw [List.drop_of_length_le (by omega), List.drop_of_length_le (by omega)]
      simp
  · have : x ≠ y := fun h => hl (by rw [h])
    simp [this]

theorem laws_eqGroup.ev (x y : List Int) (hx : x.length ≤ 9223372036854775807) : Ev (fun k => laws_eqGroup.f k x y) (decide (x = y)) := by
  unfold laws_eqGroup.f
  refine Ev.bind (laws_eqIntS.ev x y hx) ?_
  exact Ev.cases (fun h => Ev.some (by rw [h])) (fun h => Ev.some (by simp at h; simp [h]))

/-- All votes are as said. -/
def okV (l : List Int) : Bool := allFrom (fun i => inB (rd l i) 0 100) l.length 0
def sumV (l : List Int) (i : Nat) : Int := sumTo (fun j => rd l j) i
def votesS (l : List Int) : Int × Bool := if okV l then (sumV l l.length, inB l.length 1 12 && decide (sumV l l.length > 0)) else (0, false)
theorem sumV_bound {l : List Int} {i : Nat} (h : ∀ j, j < i → inB (rd l j) 0 100 = true) : 0 ≤ sumV l i ∧ sumV l i ≤ 100 * i :=
  sumTo_bound (by omega) (fun j hj => inB_iff.1 (h j hj))
theorem votes_ok {v : List Int} (h : (votesS v).2 = true) : okV v = true := by
  unfold votesS at h
  cases hq : okV v with
  | true => rfl
  | false => rw [hq] at h; simp at h
theorem spec_l8Votes.ev (l : List Int) (hl : l.length ≤ 1048576) : Ev (fun k => spec_l8Votes.f k l) (votesS l) := by
  unfold spec_l8Votes.f
  have key : ∀ d i : Nat, i + d = l.length → (∀ j, j < i → inB (rd l j) 0 100 = true) → Ev (fun k => spec_l8Votes.l0 k l (sumV l i) l (l.length : Int) i) (votesS l) := by
    intro d
    induction d with
    | zero =>
      intro i hi hj
      have : i = l.length := by omega
      subst this
      refine Ev.step (fun k => by rw [spec_l8Votes.l0]) (Ev.neg (by omega) (Ev.bindS (spec_l8Nodes.ev _) ?_))
      have hok : okV l = true := allFrom_iff.2 (fun j _ h => hj j h)
      unfold votesS
      rw [if_pos hok]
      refine Ev.cases (fun h => Ev.some (by rw [h]; rfl)) (fun h => Ev.some (by simp at h; simp [h]))
    | succ d ih =>
      intro i hi hj
      have hlt : i < l.length := by omega
      refine Ev.step (fun k => by rw [spec_l8Votes.l0]) (Ev.pos (by omega) (Ev.pos (by omega) (Ev.pos (by omega) (Ev.bindS (spec_l1In.ev _ _ _) ?_))))
      refine Ev.cases (fun h => ?_) (fun h => Ev.some ?_)
      · have hb := sumV_bound hj
        have hr := inB_iff.1 h
        rw [w64 (by omega) (by omega), w64_succ hlt (by omega)]
        refine ih (i + 1) (by omega) (fun j hj' => ?_)
        rcases Nat.lt_or_ge j i with h2 | h2
        · exact hj j h2
        · have : j = i := by omega
          subst this; exact h
      · have hok : okV l = false := by
          cases hq : okV l with
          | false => rfl
          | true => exact absurd (allFrom_iff.1 hq i (by omega) hlt) h
        unfold votesS
        rw [hok]; rfl
  exact key l.length 0 (by omega) (fun j hj => by omega)

/-- The votes of the first i of a group. -/
def wgt (v g : List Int) (i : Nat) : Int := sumTo (fun j => rd v (rd g j)) i
theorem goodG_at {g : List Int} {n : Int} (h : goodG g n = true) {i : Nat} (hi : i < g.length) : 0 ≤ rd g i ∧ rd g i < n ∧ 1 ≤ n ∧ n ≤ 12 := by
  simp only [goodG, Bool.and_eq_true, inB_iff] at h
  have h2 := allFrom_iff.1 h.2 i (by omega) hi
  rw [w64 (by omega) (by omega)] at h2
  simp only [rise, Bool.and_eq_true, inB_iff] at h2
  omega
theorem wgt_bound {v g : List Int} (hv : okV v = true) (hg : goodG g v.length = true) {i : Nat} (hi : i ≤ g.length) : 0 ≤ wgt v g i ∧ wgt v g i ≤ 100 * i := by
  refine sumTo_bound (by omega) (fun j hj => ?_)
  have h1 := goodG_at hg (i := j) (by omega)
  obtain ⟨m, hm⟩ : ∃ m : Nat, rd g j = m := ⟨(rd g j).toNat, by omega⟩
  rw [hm]
  exact inB_iff.1 (allFrom_iff.1 hv m (by omega) (by omega))
theorem spec_l8Weight.ev (v g : List Int) (hv : okV v = true) (hg : goodG g v.length = true) (hl : g.length ≤ 1048576) : Ev (fun k => spec_l8Weight.f k v g) (wgt v g g.length) := by
  unfold spec_l8Weight.f
  refine Ev.eq (Ev.up (g := fun k i => spec_l8Weight.l0 k v (wgt v g i.toNat) g (g.length : Int) i) g.length (fun _ => wgt v g g.length) ?_) rfl
  intro i hi ih
  refine Ev.step (fun k => by rw [spec_l8Weight.l0]) ?_
  by_cases hlt : i < g.length
  · have h1 := goodG_at hg hlt
    have hb := wgt_bound hv hg hi
    have hb2 := wgt_bound hv hg (i := i + 1) (by omega)
    have e : wgt v g (i + 1) = wgt v g i + rd v (rd g i) := rfl
    have h2 := ih hlt
    simp only [Int.toNat_natCast] at h2 ⊢
    refine Ev.pos (by omega) (Ev.pos (by omega) (Ev.pos (by omega) (Ev.pos (by omega) (Ev.pos (by omega) ?_))))
    rw [← e, w64 (by omega) (by omega), w64_succ hlt (by omega)]
    exact h2
  · have : i = g.length := by omega
    subst this
    exact Ev.neg (by omega) (Ev.some (by simp))

def sumI (l : List Int) : Int := if okV l && decide (l.length ≤ 12) then sumV l l.length else 0
theorem impl_sumOf.ev (l : List Int) (hl : l.length ≤ 1048576) : Ev (fun k => impl_sumOf.f k l) (sumI l) := by
  unfold impl_sumOf.f
  have key : ∀ d i : Nat, i + d = l.length → (∀ j, j < i → inB (rd l j) 0 100 = true) → Ev (fun k => impl_sumOf.l0 k l (sumV l i) l (l.length : Int) i) (sumI l) := by
    intro d
    induction d with
    | zero =>
      intro i hi hj
      have : i = l.length := by omega
      subst this
      refine Ev.step (fun k => by rw [impl_sumOf.l0]) (Ev.neg (by omega) ?_)
      have hok : okV l = true := allFrom_iff.2 (fun j _ h => hj j h)
      unfold sumI
      rw [hok]
      refine Ev.cases (fun h => Ev.some (by rw [decide_eq_false (by omega)]; rfl)) (fun h => Ev.some (by rw [decide_eq_true (by omega)]; rfl))
    | succ d ih =>
      intro i hi hj
      have hlt : i < l.length := by omega
      refine Ev.step (fun k => by rw [impl_sumOf.l0]) (Ev.pos (by omega) (Ev.pos (by omega) (Ev.pos (by omega) (Ev.bindS (impl_in.ev _ _ _) ?_))))
      refine Ev.cases (fun h => ?_) (fun h => Ev.some ?_)
      · have hb := sumV_bound hj
        have hr := inB_iff.1 h
        rw [w64 (by omega) (by omega), w64_succ hlt (by omega)]
        refine ih (i + 1) (by omega) (fun j hj' => ?_)
        rcases Nat.lt_or_ge j i with h2 | h2
        · exact hj j h2
        · have : j = i := by omega
          subst this; exact h
      · have hok : okV l = false := by
          cases hq : okV l with
          | false => rfl
          | true => exact absurd (allFrom_iff.1 hq i (by omega) hlt) h
        unfold sumI
        rw [hok]; rfl
  exact key l.length 0 (by omega) (fun j hj => by omega)
/-- The two sums tell the same. -/
theorem votes_sum (l : List Int) : (votesS l).2 = decide (sumI l ≠ 0) ∧ ((votesS l).2 = true → (votesS l).1 = sumI l ∧ okV l = true ∧ l.length ≤ 12 ∧ 0 < l.length) := by
  unfold votesS sumI
  cases hok : okV l with
  | false => simp
  | true =>
    have hb := sumV_bound (l := l) (i := l.length) (fun j hj => allFrom_iff.1 hok j (by omega) hj)
    by_cases h12 : l.length ≤ 12
    · by_cases h0 : 0 < l.length
      · have e : inB (l.length : Int) 1 12 = true := inB_iff.2 (by omega)
        simp only [if_true, e, Bool.true_and, decide_eq_true h12, Bool.and_true]
        refine ⟨?_, fun _ => ⟨by trivial, by trivial, h12, h0⟩⟩
        by_cases hs : sumV l l.length > 0
        · rw [decide_eq_true hs, decide_eq_true (by omega)]
        · rw [decide_eq_false hs, decide_eq_false (by omega)]
      · have e : l.length = 0 := by omega
        simp [e, sumV, sumTo, inB]
    · have e : inB (l.length : Int) 1 12 = false := inB_not.2 (by omega)
      simp [e, h12]

theorem impl_weight.ev (v g : List Int) (hv : okV v = true) (hg : goodG g v.length = true) (hl : g.length ≤ 1048576) : Ev (fun k => impl_weight.f k v g) (wgt v g g.length) := by
  unfold impl_weight.f
  refine Ev.eq (Ev.up (g := fun k i => impl_weight.l0 k v (wgt v g i.toNat) g (g.length : Int) i) g.length (fun _ => wgt v g g.length) ?_) rfl
  intro i hi ih
  refine Ev.step (fun k => by rw [impl_weight.l0]) ?_
  by_cases hlt : i < g.length
  · have h1 := goodG_at hg hlt
    have hb := wgt_bound hv hg hi
    have hb2 := wgt_bound hv hg (i := i + 1) (by omega)
    have e : wgt v g (i + 1) = wgt v g i + rd v (rd g i) := rfl
    have h2 := ih hlt
    simp only [Int.toNat_natCast] at h2 ⊢
    refine Ev.pos (by omega) (Ev.pos (by omega) (Ev.pos (by omega) (Ev.pos (by omega) (Ev.pos (by omega) ?_))))
    rw [← e, w64 (by omega) (by omega), w64_succ hlt (by omega)]
    exact h2
  · have : i = g.length := by omega
    subst this
    exact Ev.neg (by omega) (Ev.some (by simp))

def enoughS (v : List Int) (n : Int) (g : List Int) : Bool × Bool :=
  if (votesS v).2 && goodG g v.length && inB n 1 (votesS v).1 then (decide (wgt v g g.length ≥ n), true) else (false, false)
theorem spec_l8Enough.ev (v : List Int) (n : Int) (g : List Int) (hv : v.length ≤ 1048576) (hg : g.length ≤ 1048576) : Ev (fun k => spec_l8Enough.f k v n g) (enoughS v n g) := by
  unfold spec_l8Enough.f enoughS
  refine Ev.bind (spec_l8Votes.ev v hv) ?_
  refine Ev.cases (fun h1 => ?_) (fun h1 => Ev.some (by simp at h1; simp [h1]))
  refine Ev.bind (spec_GoodGroup.ev g _ (by omega)) ?_
  refine Ev.cases (fun h2 => ?_) (fun h2 => Ev.some (by simp at h2; simp [h2]))
  refine Ev.bindS (spec_l1In.ev _ _ _) ?_
  refine Ev.cases (fun h3 => ?_) (fun h3 => Ev.some (by simp at h3; simp [h3]))
  refine Ev.bind (spec_l8Weight.ev v g (votes_ok h1) h2 hg) (Ev.some ?_)
  rw [h1, h2, h3]; rfl

theorem impl_reaches.ev (v : List Int) (n : Int) (g : List Int) (hv : v.length ≤ 1048576) (hg : g.length ≤ 1048576) : Ev (fun k => impl_reaches.f k v n g) (enoughS v n g) := by
  unfold impl_reaches.f enoughS
  obtain ⟨e1, e2⟩ := votes_sum v
  refine Ev.bind (impl_sumOf.ev v hv) (Ev.bindS (impl_in.ev _ _ _) ?_)
  by_cases hs : (votesS v).2 = true
  · obtain ⟨e3, e4, e5, e6⟩ := e2 hs
    rw [hs, e3]
    refine Ev.cases (fun h1 => ?_) (fun h1 => Ev.some (by simp at h1; simp [h1]))
    refine Ev.bind (impl_isGroup.ev g _ (by omega)) ?_
    refine Ev.cases (fun h2 => ?_) (fun h2 => Ev.some (by simp at h2; simp [h2]))
    refine Ev.bind (impl_weight.ev v g (votes_ok hs) h2 hg) (Ev.some ?_)
    rw [h2, h1]; rfl
  · have h0 : sumI v = 0 := by
      rw [e1] at hs
      simpa using hs
    have h1 : inB n 1 (sumI v) = false := inB_not.2 (by omega)
    rw [h1]
    refine Ev.neg (by simp) (Ev.some ?_)
    simp at hs
    simp [hs]

theorem spec_IsWrite.ev (v : List Int) (n : Int) (g : List Int) (hv : v.length ≤ 1048576) (hg : g.length ≤ 1048576) : Ev (fun k => spec_IsWrite.f k v n g) (enoughS v n g) := by
  unfold spec_IsWrite.f
  exact Ev.bind (spec_l8Enough.ev v n g hv hg) (Ev.now _)

theorem impl_IsWrite.ev (v : List Int) (n : Int) (g : List Int) (hv : v.length ≤ 1048576) (hg : g.length ≤ 1048576) : Ev (fun k => impl_IsWrite.f k v n g) (enoughS v n g) := by
  unfold impl_IsWrite.f
  exact Ev.bind (impl_reaches.ev v n g hv hg) (Ev.now _)

theorem holds_ev (l0 : List Int) (a1 : Int) (l2_0 : List Int) (h : l2_0.length ≤ 9223372036854775807) : Ev (fun k => laws_FnExactIsWrite.f k l0 a1 l2_0) true := by
  unfold laws_FnExactIsWrite.f
  refine Ev.cases (fun _ => Ev.now _) (fun hv => ?_)
  refine Ev.bindS (laws_szGroup.ev _ _ (by omega) (by omega) h) (Ev.cases (fun _ => Ev.now _) (fun hn => ?_))
  have hs : l2_0.length ≤ 1048576 := by unfold lessSz at hn; split at hn <;> omega
  have tv := laws_toIntS.ev l0 (by omega)
  have tt := laws_toGroup.ev l2_0 hs
  refine Ev.bind tv (Ev.bind tt (Ev.bind (spec_IsWrite.ev _ _ _ (by omega) hs) (Ev.bind tv (Ev.bind tt (Ev.bind (impl_IsWrite.ev _ _ _ (by omega) hs) ?_)))))
  refine Ev.neg (by simp) (Ev.step (fun k => by rw [laws_FnExactIsWrite.j0]) (Ev.neg (by simp) ?_))
  refine Ev.bind tv (Ev.bind (laws_eqIntS.ev _ _ (by omega)) ?_)
  refine Ev.pos (decide_eq_true rfl) ?_
  refine Ev.bind tt (Ev.bind (laws_eqGroup.ev _ _ h) ?_)
  exact Ev.pos (decide_eq_true rfl) (Ev.now _)

end Go.Proofs.Ythbollaceiffpaa.PQ
namespace Go.Proofs.Ythbollaceiffpaa.PureFnExactIsWrite
open Go.RowKit Go.Proofs.Ythbollaceiffpaa.PQ Go.Proofs.Ythbollaceiffpaa.Base Go.Proofs.Ythbollaceiffpaa.Open Go.Proofs.YthbollaceiffpaaW.PrintWords Go.Proofs.YthbollaceiffpaaW.PrintLast
theorem holds (l0 : List Int) (a1 : Int) (l2_0 : List Int) (w0 : (l0.length ≤ 9223372036854775807 ∧ ∀ z ∈ l0, (Lit.int .i64 z).wf = true)) (w1 : (Lit.int .i64 a1).wf = true) (w2 : ((l2_0.length ≤ 9223372036854775807 ∧ ∀ z ∈ l2_0, (Lit.int .i64 z).wf = true))) : ∃ k, Go.Proofs.Ythbollaceiffpaa.PQ.laws_FnExactIsWrite.f k l0 a1 l2_0 = some true := by
  have _h := And.intro w0 w1
  exact (holds_ev l0 a1 l2_0 w2.1).rounds
end Go.Proofs.Ythbollaceiffpaa.PureFnExactIsWrite
