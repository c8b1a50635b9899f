/- What this text proves: laws.FnGifford, told as plain functions of numbers and lists, answers true for all arguments.
   Conditions: the bounds that the typed reading gives. -/
import Derived.Test.YthbollaceiffpaaPGFx5
import Derived.Test.YthbollaceiffpaaBase
import Derived.Laws.BitsLemmas
import Derived.Laws.Bits64b
namespace Go.Proofs.Ythbollaceiffpaa.PGF
open Go.RowKit Go.Proofs.Ythbollaceiffpaa.Base Go.Proofs.YthbollaceiffpaaW.PrintWords Go.Proofs.YthbollaceiffpaaW.PrintLast Go.Proofs.YthbollaceiffpaaW.PrintMore
set_option linter.unusedVariables false
set_option linter.unusedSimpArgs false
/-- The place of the first element at which p says yes, counted from i; -1 for none. -/
def idxN {α : Type} (p : α → Bool) : List α → Nat → Int
  | [], _ => -1
  | x :: r, i => if p x = true then (i : Int) else idxN p r (i + 1)
theorem idxO_val {α : Type} {F : α → Option Bool} {p : α → Bool} : ∀ (l : List α) (i : Nat), (∀ x ∈ l, F x = some (p x)) → idxO F l i = some (idxN p l i)
  | [], _, _ => rfl
  | x :: r, i, h => by
    simp only [idxO, idxN, h x (List.mem_cons_self ..), Option.bind_some]
    rw [idxO_val r (i + 1) (fun y hy => h y (List.mem_cons_of_mem _ hy))]
    split <;> rfl
theorem idxN_cons {α : Type} (p : α → Bool) (x : α) (r : List α) (i : Nat) : idxN p (x :: r) i = if p x = true then (i : Int) else idxN p r (i + 1) := rfl
theorem idxN_anyP {α : Type} (p : α → Bool) : ∀ (l : List α) (i : Nat), (idxN p l i ≥ 0) ↔ l.any p = true
  | [], _ => by simp [idxN]
  | x :: r, i => by
    rw [idxN_cons]
    by_cases h : p x = true
    · rw [if_pos h, List.any_cons, h]; simp
    · rw [if_neg h, List.any_cons, Bool.eq_false_iff.2 h, Bool.false_or]; exact idxN_anyP p r (i + 1)
theorem idxN_any {α : Type} (p : α → Bool) (l : List α) (i : Nat) : decide (idxN p l i ≥ 0) = l.any p := by
  rw [Bool.eq_iff_iff, decide_eq_true_iff]; exact idxN_anyP p l i
theorem idxN_ge {α : Type} (p : α → Bool) : ∀ (l : List α) (i : Nat), idxN p l i = -1 ∨ (i : Int) ≤ idxN p l i
  | [], _ => .inl rfl
  | x :: r, i => by
    simp only [idxN]
    split
    · exact .inr (Int.le_refl _)
    · rcases idxN_ge p r (i + 1) with h | h
      · exact .inl h
      · exact .inr (by omega)
theorem idxO_any {α : Type} {F : α → Option Bool} {p : α → Bool} {l : List α} (h : ∀ x ∈ l, F x = some (p x)) : ((idxO F l 0).bind fun i => some (decide (i ≥ 0))) = some (l.any p) := by
  rw [idxO_val l 0 h]; simp only [Option.bind_some]; rw [idxN_any]
theorem idxO_Ev {α : Type} {F : Nat → α → Option Bool} {p : α → Bool} : ∀ (l : List α) (i : Nat), (∀ x ∈ l, Ev (fun k => F k x) (p x)) → Ev (fun k => idxO (F k) l i) (idxN p l i)
  | [], _, _ => Ev.now _
  | x :: r, i, h => by
    show Ev (fun k => (F k x).bind fun b => if b = true then some (i : Int) else idxO (F k) r (i + 1)) _
    refine Ev.bind (h x (List.mem_cons_self ..)) ?_
    simp only [idxN]
    refine Ev.cases (fun hp => Ev.some (by rw [if_pos hp])) (fun hp => ?_)
    rw [if_neg hp]
    exact idxO_Ev r (i + 1) (fun y hy => h y (List.mem_cons_of_mem _ hy))
theorem idxAny_Ev {α : Type} {F : Nat → α → Option Bool} {p : α → Bool} {l : List α} (h : ∀ x ∈ l, Ev (fun k => F k x) (p x)) : Ev (fun k => (idxO (F k) l 0).bind fun i => some (decide (i ≥ 0))) (l.any p) := by
  refine Ev.bind (idxO_Ev l 0 h) (Ev.some ?_)
  exact idxN_any p l 0

theorem impl_in.ev (n a b : Int) : impl_in.f n a b = some (inB n a b) := by
  unfold impl_in.f inB
  by_cases h : a ≤ n
  · rw [if_pos h]; simp [h]
  · rw [if_neg h]; simp [h]

-- impl_areRising: behind spec_IsWrite

-- impl_isGroup: behind spec_IsWrite

-- impl_sumOf: behind spec_IsWrite

-- impl_weight: behind spec_IsWrite

-- impl_WeightOf: behind spec_IsWrite

theorem spec_l1In.ev (n a b : Int) : spec_l1In.f n a b = some (inB n a b) := by
  unfold spec_l1In.f inB
  by_cases h : a ≤ n
  · rw [if_pos h]; simp [h]
  · rw [if_neg h]; simp [h]

theorem spec_l8Nodes.ev (n : Int) : spec_l8Nodes.f n = some (inB n 1 12) := by
  unfold spec_l8Nodes.f; rw [spec_l1In.ev]; rfl

/-- Number i of a list lies from 0 to m, and above the one ahead of it. -/
def rise (l : List Int) (m : Int) (i : Nat) : Bool := inB (rd l i) 0 m && (decide (i = 0) || decide (rd l ((i : Int) - 1) < rd l i))
/-- A good group of n nodes. -/
def goodG (l : List Int) (n : Int) : Bool := inB n 1 12 && allFrom (rise l (wrap64 (n - 1))) l.length 0
theorem spec_GoodGroup.ev (l : List Int) (n : Int) (hl : l.length ≤ 9223372036854775807) : Ev (fun k => spec_GoodGroup.f k l n) (goodG l n) := by
  unfold spec_GoodGroup.f goodG
  refine Ev.eq (Ev.up (g := fun k i => spec_GoodGroup.l0 k n l (l.length : Int) i l) l.length (fun i => inB n 1 12 && allFrom (rise l (wrap64 (n - 1))) l.length i) ?_) rfl
  intro i hi ih
  refine Ev.step (fun k => by rw [spec_GoodGroup.l0]) ?_
  by_cases hlt : i < l.length
  · refine Ev.pos (by omega) (Ev.pos (by omega) (Ev.pos (by omega) (Ev.bindS (spec_l1In.ev _ _ _) ?_)))
    rw [allFrom_step hlt]
    have ih := ih hlt
    generalize allFrom (rise l (wrap64 (n - 1))) l.length (i + 1) = q at ih ⊢
    unfold rise
    refine Ev.cases (fun h1 => ?_) (fun h1 => Ev.some (by simp at h1; simp [h1]))
    rw [h1, w64_succ hlt hl]
    refine Ev.cases (fun h2 => ?_) (fun h2 => Ev.eq ih (by rw [decide_eq_true (by omega : i = 0)]; simp))
    rw [w64 (by omega) (by omega)]
    refine Ev.pos (by omega) (Ev.pos (by omega) (Ev.cases (fun h3 => Ev.some ?_) (fun h3 => Ev.eq ih ?_)))
    · rw [decide_eq_false (by omega : ¬ i = 0), decide_eq_false (by omega)]; simp
    · rw [decide_eq_true (by omega : rd l ((i : Int) - 1) < rd l i)]; simp
  · have : i = l.length := by omega
    subst this
    refine Ev.neg (by omega) (Ev.bindS (spec_l8Nodes.ev _) (Ev.some ?_))
    rw [allFrom_end]; simp

/-- All votes are as said. -/
def okV (l : List Int) : Bool := allFrom (fun i => inB (rd l i) 0 100) l.length 0
def sumV (l : List Int) (i : Nat) : Int := sumTo (fun j => rd l j) i
def votesS (l : List Int) : Int × Bool := if okV l then (sumV l l.length, inB l.length 1 12 && decide (sumV l l.length > 0)) else (0, false)
theorem sumV_bound {l : List Int} {i : Nat} (h : ∀ j, j < i → inB (rd l j) 0 100 = true) : 0 ≤ sumV l i ∧ sumV l i ≤ 100 * i :=
  sumTo_bound (by omega) (fun j hj => inB_iff.1 (h j hj))
theorem votes_ok {v : List Int} (h : (votesS v).2 = true) : okV v = true := by
  unfold votesS at h
  cases hq : okV v with
  | true => rfl
  | false => rw [hq] at h; simp at h
theorem spec_l8Votes.ev (l : List Int) (hl : l.length ≤ 1048576) : Ev (fun k => spec_l8Votes.f k l) (votesS l) := by
  unfold spec_l8Votes.f
  have key : ∀ d i : Nat, i + d = l.length → (∀ j, j < i → inB (rd l j) 0 100 = true) → Ev (fun k => spec_l8Votes.l0 k l (sumV l i) l (l.length : Int) i) (votesS l) := by
    intro d
    induction d with
    | zero =>
      intro i hi hj
      have : i = l.length := by omega
      subst this
      refine Ev.step (fun k => by rw [spec_l8Votes.l0]) (Ev.neg (by omega) (Ev.bindS (spec_l8Nodes.ev _) ?_))
      have hok : okV l = true := allFrom_iff.2 (fun j _ h => hj j h)
      unfold votesS
      rw [if_pos hok]
      refine Ev.cases (fun h => Ev.some (by rw [h]; rfl)) (fun h => Ev.some (by simp at h; simp [h]))
    | succ d ih =>
      intro i hi hj
      have hlt : i < l.length := by omega
      refine Ev.step (fun k => by rw [spec_l8Votes.l0]) (Ev.pos (by omega) (Ev.pos (by omega) (Ev.pos (by omega) (Ev.bindS (spec_l1In.ev _ _ _) ?_))))
      refine Ev.cases (fun h => ?_) (fun h => Ev.some ?_)
      · have hb := sumV_bound hj
        have hr := inB_iff.1 h
        rw [w64 (by omega) (by omega), w64_succ hlt (by omega)]
        refine ih (i + 1) (by omega) (fun j hj' => ?_)
        rcases Nat.lt_or_ge j i with h2 | h2
        · exact hj j h2
        · have : j = i := by omega
          subst this; exact h
      · have hok : okV l = false := by
          cases hq : okV l with
          | false => rfl
          | true => exact absurd (allFrom_iff.1 hq i (by omega) hlt) h
        unfold votesS
        rw [hok]; rfl
  exact key l.length 0 (by omega) (fun j hj => by omega)

/-- The votes of the first i of a group. -/
def wgt (v g : List Int) (i : Nat) : Int := sumTo (fun j => rd v (rd g j)) i
theorem goodG_at {g : List Int} {n : Int} (h : goodG g n = true) {i : Nat} (hi : i < g.length) : 0 ≤ rd g i ∧ rd g i < n ∧ 1 ≤ n ∧ n ≤ 12 := by
  simp only [goodG, Bool.and_eq_true, inB_iff] at h
  have h2 := allFrom_iff.1 h.2 i (by omega) hi
  rw [w64 (by omega) (by omega)] at h2
  simp only [rise, Bool.and_eq_true, inB_iff] at h2
  omega
theorem wgt_bound {v g : List Int} (hv : okV v = true) (hg : goodG g v.length = true) {i : Nat} (hi : i ≤ g.length) : 0 ≤ wgt v g i ∧ wgt v g i ≤ 100 * i := by
  refine sumTo_bound (by omega) (fun j hj => ?_)
  have h1 := goodG_at hg (i := j) (by omega)
  obtain ⟨m, hm⟩ : ∃ m : Nat, rd g j = m := ⟨(rd g j).toNat, by omega⟩
  rw [hm]
  exact inB_iff.1 (allFrom_iff.1 hv m (by omega) (by omega))
theorem spec_l8Weight.ev (v g : List Int) (hv : okV v = true) (hg : goodG g v.length = true) (hl : g.length ≤ 1048576) : Ev (fun k => spec_l8Weight.f k v g) (wgt v g g.length) := by
  unfold spec_l8Weight.f
  refine Ev.eq (Ev.up (g := fun k i => spec_l8Weight.l0 k v (wgt v g i.toNat) g (g.length : Int) i) g.length (fun _ => wgt v g g.length) ?_) rfl
  intro i hi ih
  refine Ev.step (fun k => by rw [spec_l8Weight.l0]) ?_
  by_cases hlt : i < g.length
  · have h1 := goodG_at hg hlt
    have hb := wgt_bound hv hg hi
    have hb2 := wgt_bound hv hg (i := i + 1) (by omega)
    have e : wgt v g (i + 1) = wgt v g i + rd v (rd g i) := rfl
    have h2 := ih hlt
    simp only [Int.toNat_natCast] at h2 ⊢
    refine Ev.pos (by omega) (Ev.pos (by omega) (Ev.pos (by omega) (Ev.pos (by omega) (Ev.pos (by omega) ?_))))
    rw [← e, w64 (by omega) (by omega), w64_succ hlt (by omega)]
    exact h2
  · have : i = g.length := by omega
    subst this
    exact Ev.neg (by omega) (Ev.some (by simp))

def enoughS (v : List Int) (n : Int) (g : List Int) : Bool × Bool :=
  if (votesS v).2 && goodG g v.length && inB n 1 (votesS v).1 then (decide (wgt v g g.length ≥ n), true) else (false, false)
theorem spec_l8Enough.ev (v : List Int) (n : Int) (g : List Int) (hv : v.length ≤ 1048576) (hg : g.length ≤ 1048576) : Ev (fun k => spec_l8Enough.f k v n g) (enoughS v n g) := by
  unfold spec_l8Enough.f enoughS
  refine Ev.bind (spec_l8Votes.ev v hv) ?_
  refine Ev.cases (fun h1 => ?_) (fun h1 => Ev.some (by simp at h1; simp [h1]))
  refine Ev.bind (spec_GoodGroup.ev g _ (by omega)) ?_
  refine Ev.cases (fun h2 => ?_) (fun h2 => Ev.some (by simp at h2; simp [h2]))
  refine Ev.bindS (spec_l1In.ev _ _ _) ?_
  refine Ev.cases (fun h3 => ?_) (fun h3 => Ev.some (by simp at h3; simp [h3]))
  refine Ev.bind (spec_l8Weight.ev v g (votes_ok h1) h2 hg) (Ev.some ?_)
  rw [h1, h2, h3]; rfl

theorem spec_IsRead.ev (v : List Int) (n : Int) (g : List Int) (hv : v.length ≤ 1048576) (hg : g.length ≤ 1048576) : Ev (fun k => spec_IsRead.f k v n g) (enoughS v n g) := by
  unfold spec_IsRead.f
  exact Ev.bind (spec_l8Enough.ev v n g hv hg) (Ev.now _)

-- impl_reaches: behind spec_IsWrite

-- impl_IsRead: behind spec_IsWrite

theorem spec_IsWrite.ev (v : List Int) (n : Int) (g : List Int) (hv : v.length ≤ 1048576) (hg : g.length ≤ 1048576) : Ev (fun k => spec_IsWrite.f k v n g) (enoughS v n g) := by
  unfold spec_IsWrite.f
  exact Ev.bind (spec_l8Enough.ev v n g hv hg) (Ev.now _)

theorem impl_areRising.ev (l : List Int) (n : Int) (hl : l.length ≤ 9223372036854775807) : Ev (fun k => impl_areRising.f k l n) (allFrom (rise l (wrap64 (n - 1))) l.length 0) := by
  unfold impl_areRising.f
  refine Ev.eq (Ev.up (g := fun k i => impl_areRising.l0 k l n l (l.length : Int) i) l.length (fun i => allFrom (rise l (wrap64 (n - 1))) l.length i) ?_) rfl
  intro i hi ih
  refine Ev.step (fun k => by rw [impl_areRising.l0]) ?_
  by_cases hlt : i < l.length
  · refine Ev.pos (by omega) (Ev.pos (by omega) (Ev.pos (by omega) (Ev.bindS (impl_in.ev _ _ _) ?_)))
    rw [allFrom_step hlt]
    have ih := ih hlt
    generalize allFrom (rise l (wrap64 (n - 1))) l.length (i + 1) = q at ih ⊢
    unfold rise
    refine Ev.cases (fun h1 => ?_) (fun h1 => Ev.some (by simp at h1; simp [h1]))
    rw [h1, w64_succ hlt hl]
    refine Ev.cases (fun h2 => ?_) (fun h2 => Ev.eq ih (by rw [decide_eq_true (by omega : i = 0)]; simp))
    rw [w64 (by omega) (by omega)]
    refine Ev.pos (by omega) (Ev.pos (by omega) (Ev.cases (fun h3 => Ev.some ?_) (fun h3 => Ev.eq ih ?_)))
    · rw [decide_eq_false (by omega : ¬ i = 0), decide_eq_false (by omega)]; simp
    · rw [decide_eq_true (by omega : rd l ((i : Int) - 1) < rd l i)]; simp
  · have : i = l.length := by omega
    subst this
    exact Ev.neg (by omega) (Ev.some (by rw [allFrom_end]))
theorem impl_isGroup.ev (l : List Int) (n : Int) (hl : l.length ≤ 9223372036854775807) : Ev (fun k => impl_isGroup.f k l n) (goodG l n) := by
  unfold impl_isGroup.f goodG
  refine Ev.bindS (impl_in.ev _ _ _) ?_
  refine Ev.cases (fun h1 => ?_) (fun h1 => Ev.some (by simp at h1; simp [h1]))
  exact Ev.bind (impl_areRising.ev l n hl) (Ev.some (by rw [h1]; rfl))
def sumI (l : List Int) : Int := if okV l && decide (l.length ≤ 12) then sumV l l.length else 0
theorem impl_sumOf.ev (l : List Int) (hl : l.length ≤ 1048576) : Ev (fun k => impl_sumOf.f k l) (sumI l) := by
  unfold impl_sumOf.f
  have key : ∀ d i : Nat, i + d = l.length → (∀ j, j < i → inB (rd l j) 0 100 = true) → Ev (fun k => impl_sumOf.l0 k l (sumV l i) l (l.length : Int) i) (sumI l) := by
    intro d
    induction d with
    | zero =>
      intro i hi hj
      have : i = l.length := by omega
      subst this
      refine Ev.step (fun k => by rw [impl_sumOf.l0]) (Ev.neg (by omega) ?_)
      have hok : okV l = true := allFrom_iff.2 (fun j _ h => hj j h)
      unfold sumI
      rw [hok]
      refine Ev.cases (fun h => Ev.some (by rw [decide_eq_false (by omega)]; rfl)) (fun h => Ev.some (by rw [decide_eq_true (by omega)]; rfl))
    | succ d ih =>
      intro i hi hj
      have hlt : i < l.length := by omega
      refine Ev.step (fun k => by rw [impl_sumOf.l0]) (Ev.pos (by omega) (Ev.pos (by omega) (Ev.pos (by omega) (Ev.bindS (impl_in.ev _ _ _) ?_))))
      refine Ev.cases (fun h => ?_) (fun h => Ev.some ?_)
      · have hb := sumV_bound hj
        have hr := inB_iff.1 h
        rw [w64 (by omega) (by omega), w64_succ hlt (by omega)]
        refine ih (i + 1) (by omega) (fun j hj' => ?_)
        rcases Nat.lt_or_ge j i with h2 | h2
        · exact hj j h2
        · have : j = i := by omega
          subst this; exact h
      · have hok : okV l = false := by
          cases hq : okV l with
          | false => rfl
          | true => exact absurd (allFrom_iff.1 hq i (by omega) hlt) h
        unfold sumI
        rw [hok]; rfl
  exact key l.length 0 (by omega) (fun j hj => by omega)
/-- The two sums tell the same. -/
theorem votes_sum (l : List Int) : (votesS l).2 = decide (sumI l ≠ 0) ∧ ((votesS l).2 = true → (votesS l).1 = sumI l ∧ okV l = true ∧ l.length ≤ 12 ∧ 0 < l.length) := by
  unfold votesS sumI
  cases hok : okV l with
  | false => simp
  | true =>
    have hb := sumV_bound (l := l) (i := l.length) (fun j hj => allFrom_iff.1 hok j (by omega) hj)
    by_cases h12 : l.length ≤ 12
    · by_cases h0 : 0 < l.length
      · have e : inB (l.length : Int) 1 12 = true := inB_iff.2 (by omega)
        simp only [if_true, e, Bool.true_and, decide_eq_true h12, Bool.and_true]
        refine ⟨?_, fun _ => ⟨by trivial, by trivial, h12, h0⟩⟩
        by_cases hs : sumV l l.length > 0
        · rw [decide_eq_true hs, decide_eq_true (by omega)]
        · rw [decide_eq_false hs, decide_eq_false (by omega)]
      · have e : l.length = 0 := by omega
        simp [e, sumV, sumTo, inB]
    · have e : inB (l.length : Int) 1 12 = false := inB_not.2 (by omega)
      simp [e, h12]
theorem impl_weight.ev (v g : List Int) (hv : okV v = true) (hg : goodG g v.length = true) (hl : g.length ≤ 1048576) : Ev (fun k => impl_weight.f k v g) (wgt v g g.length) := by
  unfold impl_weight.f
  refine Ev.eq (Ev.up (g := fun k i => impl_weight.l0 k v (wgt v g i.toNat) g (g.length : Int) i) g.length (fun _ => wgt v g g.length) ?_) rfl
  intro i hi ih
  refine Ev.step (fun k => by rw [impl_weight.l0]) ?_
  by_cases hlt : i < g.length
  · have h1 := goodG_at hg hlt
    have hb := wgt_bound hv hg hi
    have hb2 := wgt_bound hv hg (i := i + 1) (by omega)
    have e : wgt v g (i + 1) = wgt v g i + rd v (rd g i) := rfl
    have h2 := ih hlt
    simp only [Int.toNat_natCast] at h2 ⊢
    refine Ev.pos (by omega) (Ev.pos (by omega) (Ev.pos (by omega) (Ev.pos (by omega) (Ev.pos (by omega) ?_))))
    rw [← e, w64 (by omega) (by omega), w64_succ hlt (by omega)]
    exact h2
  · have : i = g.length := by omega
    subst this
    exact Ev.neg (by omega) (Ev.some (by simp))
def weightS (v g : List Int) : Int × Bool := if (votesS v).2 && goodG g v.length then (wgt v g g.length, true) else (0, false)
theorem impl_WeightOf.ev (v g : List Int) (hv : v.length ≤ 1048576) (hg : g.length ≤ 1048576) : Ev (fun k => impl_WeightOf.f k v g) (weightS v g) := by
  unfold impl_WeightOf.f weightS
  obtain ⟨e1, e2⟩ := votes_sum v
  refine Ev.bind (impl_sumOf.ev v hv) ?_
  refine Ev.cases (fun h1 => Ev.some (by rw [e1, h1]; rfl)) (fun h1 => ?_)
  have hs : (votesS v).2 = true := by rw [e1]; exact decide_eq_true h1
  refine Ev.bind (impl_isGroup.ev g _ (by omega)) ?_
  refine Ev.cases (fun h2 => ?_) (fun h2 => Ev.some (by simp at h2; simp [h2]))
  refine Ev.bind (impl_weight.ev v g (votes_ok hs) h2 hg) (Ev.some ?_)
  rw [hs, h2]; rfl
theorem impl_reaches.ev (v : List Int) (n : Int) (g : List Int) (hv : v.length ≤ 1048576) (hg : g.length ≤ 1048576) : Ev (fun k => impl_reaches.f k v n g) (enoughS v n g) := by
  unfold impl_reaches.f enoughS
  obtain ⟨e1, e2⟩ := votes_sum v
  refine Ev.bind (impl_sumOf.ev v hv) (Ev.bindS (impl_in.ev _ _ _) ?_)
  by_cases hs : (votesS v).2 = true
  · obtain ⟨e3, e4, e5, e6⟩ := e2 hs
    rw [hs, e3]
    refine Ev.cases (fun h1 => ?_) (fun h1 => Ev.some (by simp at h1; simp [h1]))
    refine Ev.bind (impl_isGroup.ev g _ (by omega)) ?_
    refine Ev.cases (fun h2 => ?_) (fun h2 => Ev.some (by simp at h2; simp [h2]))
    refine Ev.bind (impl_weight.ev v g (votes_ok hs) h2 hg) (Ev.some ?_)
    rw [h2, h1]; rfl
  · have h0 : sumI v = 0 := by
      rw [e1] at hs
      simpa using hs
    have h1 : inB n 1 (sumI v) = false := inB_not.2 (by omega)
    rw [h1]
    refine Ev.neg (by simp) (Ev.some ?_)
    simp at hs
    simp [hs]
theorem impl_IsRead.ev (v : List Int) (n : Int) (g : List Int) (hv : v.length ≤ 1048576) (hg : g.length ≤ 1048576) : Ev (fun k => impl_IsRead.f k v n g) (enoughS v n g) := by
  unfold impl_IsRead.f
  exact Ev.bind (impl_reaches.ev v n g hv hg) (Ev.now _)
theorem impl_IsWrite.ev (v : List Int) (n : Int) (g : List Int) (hv : v.length ≤ 1048576) (hg : g.length ≤ 1048576) : Ev (fun k => impl_IsWrite.f k v n g) (enoughS v n g) := by
  unfold impl_IsWrite.f
  exact Ev.bind (impl_reaches.ev v n g hv hg) (Ev.now _)
theorem impl_MeetOf.ev (l m : List Int) (n : Int) (hl : l.length ≤ 1048576) (hm : m.length ≤ 1048576) (g1 : goodG l n = true) (g2 : goodG m n = true) : Ev (fun k => impl_MeetOf.f k l m n) (l.filter (fun x => m.contains x), true) := by
  unfold impl_MeetOf.f
  refine Ev.bind (impl_isGroup.ev l n (by omega)) (Ev.pos g1 (Ev.bind (impl_isGroup.ev m n (by omega)) (Ev.pos g2 (Ev.bindS (a := l.filter fun x => m.contains x) ?_ (Ev.now _)))))
  unfold impl_meet.f; rw [if_pos ⟨hl, hm⟩]

-- behind impl_IsWrite

/-- The drawing's bytes. -/
def inCur (l : List Int) : Prop := ∀ x ∈ l, 0 ≤ x ∧ x ≤ 255
theorem inCur_of {l : List Int} (h : ∀ x ∈ l, (Lit.int .u8 x).wf = true) : inCur l := by
  intro x hx
  have h' : IntKind.u8.min ≤ x ∧ x ≤ IntKind.u8.max := by simpa [Lit.wf] using h x hx
  exact h'
theorem and255 (z : Int) (h0 : 0 ≤ z) (h1 : z < 18446744073709551616) : 0 ≤ Go.bits .and .u64 z 255 ∧ Go.bits .and .u64 z 255 ≤ 255 := by
  obtain ⟨a, rfl⟩ : ∃ a : Nat, z = (a : Int) := ⟨z.toNat, by omega⟩
  have h := bits_and_u64_nat a 255 (by omega) (by omega)
  have : ((255 : Nat) : Int) = (255 : Int) := rfl
  rw [this] at h
  rw [h]
  have := Nat.and_le_right (n := a) (m := 255)
  omega
theorem wrapU_bound (n : Int) : 0 ≤ IntKind.u64.wrap n ∧ IntKind.u64.wrap n < 18446744073709551616 := by
  rw [IntKind.wrap_u64]; omega
theorem spec_l1Cur_next.ev {l : List Int} (hl : inCur l) {p : Int} (s : Int) (h0 : 0 ≤ p) (h1 : p ≤ 4611686018427387904) :
    ∃ r p' s', spec_l1Cur_next.f l p s = some (r, p', s') ∧ 0 ≤ r ∧ r ≤ 255 ∧ 0 ≤ p' ∧ p' ≤ p + 1 := by
  unfold spec_l1Cur_next.f
  have hp : wrap64 (p + 1) = p + 1 := w64 (by omega) (by omega)
  have far : ∀ z : Int, 0 ≤ wrap64 (Go.bits .and .u64 (IntKind.u64.wrap z / 1099511627776) 255) ∧ wrap64 (Go.bits .and .u64 (IntKind.u64.wrap z / 1099511627776) 255) ≤ 255 := by
    intro z
    have hb := wrapU_bound z
    have h := and255 (IntKind.u64.wrap z / 1099511627776) (by omega) (by omega)
    rw [w64 (by omega) (by omega)]; exact h
  rw [hp]
  by_cases c1 : p < (l.length : Int)
  · rw [if_pos c1, if_pos h0]
    have hr : 0 ≤ wrap64 (rd l p) ∧ wrap64 (rd l p) ≤ 255 := by
      obtain ⟨i, rfl⟩ : ∃ i : Nat, p = (i : Int) := ⟨p.toNat, by omega⟩
      have hi : i < l.length := by omega
      rw [rd_get hi]
      have := hl _ (List.getElem_mem hi)
      rw [w64 (by omega) (by omega)]; exact this
    by_cases c2 : p + 1 ≤ (l.length : Int)
    · rw [if_pos c2]; exact ⟨_, _, _, rfl, hr.1, hr.2, by omega, by omega⟩
    · rw [if_neg c2]; exact ⟨_, _, _, rfl, (far _).1, (far _).2, by omega, by omega⟩
  · rw [if_neg c1]
    by_cases c2 : p + 1 ≤ (l.length : Int)
    · rw [if_pos c2]; exact ⟨_, _, _, rfl, by omega, by omega, by omega, by omega⟩
    · rw [if_neg c2]; exact ⟨_, _, _, rfl, (far _).1, (far _).2, by omega, by omega⟩

theorem spec_l1Cur_pick.ev {l : List Int} (hl : inCur l) {p : Int} (s n : Int) (h0 : 0 ≤ p) (h1 : p ≤ 4611686018427387000) :
    ∃ r p' s', spec_l1Cur_pick.f l p s n = some (r, p', s') ∧ 0 ≤ r ∧ (1 ≤ n → r < n) ∧ 0 ≤ p' ∧ p' ≤ p + 2 := by
  unfold spec_l1Cur_pick.f
  by_cases c : n ≤ 1
  · rw [if_pos c]; exact ⟨_, _, _, rfl, by omega, by omega, h0, by omega⟩
  · rw [if_neg c]
    obtain ⟨r, p1, s1, e, r0, r1, q0, q1⟩ := spec_l1Cur_next.ev hl s h0 (by omega)
    rw [e]; simp only [Option.bind_some]
    by_cases c2 : n > 200
    · rw [if_pos c2]
      obtain ⟨r', p2, s2, e', r0', r1', q0', q1'⟩ := spec_l1Cur_next.ev hl s1 q0 (by omega)
      rw [e']; simp only [Option.bind_some]
      rw [if_neg (by omega), w64 (x := r * 256) (by omega) (by omega), w64 (by omega) (by omega)]
      exact ⟨_, _, _, rfl, Int.tmod_nonneg _ (by omega), fun _ => Int.tmod_lt_of_pos _ (by omega), q0', by omega⟩
    · rw [if_neg c2, if_neg (by omega)]
      exact ⟨_, _, _, rfl, Int.tmod_nonneg _ (by omega), fun _ => Int.tmod_lt_of_pos _ (by omega), q0, by omega⟩

theorem spec_l1Cur_one.ev {l : List Int} (hl : inCur l) {p : Int} (s n : Int) (h0 : 0 ≤ p) (h1 : p ≤ 4611686018427387000) :
    ∃ r p' s', spec_l1Cur_one.f l p s n = some (r, p', s') ∧ 0 ≤ p' ∧ p' ≤ p + 2 := by
  unfold spec_l1Cur_one.f
  obtain ⟨r, p1, s1, e, _, _, q0, q1⟩ := spec_l1Cur_pick.ev hl s n h0 h1
  rw [e]; exact ⟨_, _, _, rfl, q0, q1⟩

theorem spec_l1Cur_among.ev {l : List Int} (hl : inCur l) {p : Int} (s : Int) (z : List Int) (h0 : 0 ≤ p) (h1 : p ≤ 4611686018427387000) (hz : 0 < z.length) :
    ∃ r p' s', spec_l1Cur_among.f l p s z = some (r, p', s') ∧ r ∈ z ∧ 0 ≤ p' ∧ p' ≤ p + 2 := by
  unfold spec_l1Cur_among.f
  obtain ⟨r, p1, s1, e, r0, r1, q0, q1⟩ := spec_l1Cur_pick.ev hl s z.length h0 h1
  have r1 := r1 (by omega)
  rw [e]; simp only [Option.bind_some]
  rw [if_pos r0, if_pos r1]
  refine ⟨_, _, _, rfl, ?_, q0, q1⟩
  obtain ⟨i, rfl⟩ : ∃ i : Nat, r = (i : Int) := ⟨r.toNat, by omega⟩
  have hi : i < z.length := by omega
  rw [rd_get hi]; exact List.getElem_mem hi

theorem spec_l1Cur_votes.ev {l : List Int} (hl : inCur l) {p : Int} (s : Int) (h0 : 0 ≤ p) (h1 : p ≤ 1000) : ∃ v p' s', Ev (fun k => spec_l1Cur_votes.f k l p s) (v, p', s') ∧ v.length ≤ 6 ∧ 0 ≤ p' ∧ p' ≤ p + 16 := by
  have key : ∀ (n : Nat) (x : List Int) (p s : Int), n ≤ 5 → x.length + n ≤ 5 → 0 ≤ p → p ≤ 2000 + 2 * x.length → ∃ v p' s', Ev (fun k => spec_l1Cur_votes.l0 k x (n : Int) l p s) (v, p', s') ∧ v.length ≤ 6 ∧ 0 ≤ p' ∧ p' ≤ p + 2 * n + 4 := by
    intro n
    induction n with
    | zero =>
      intro x p s _ hx hp hp1
      obtain ⟨b, p1, s1, e1, q0, q1⟩ := spec_l1Cur_one.ev hl s 30 hp (by omega)
      cases b with
      | true =>
        obtain ⟨y, p2, s2, e2, _, u0, u1⟩ := spec_l1Cur_among.ev hl s1 [(-1), 100, 101] q0 (by omega) (by simp)
        refine ⟨x ++ [y], p2, s2, Ev.step (fun k => by rw [spec_l1Cur_votes.l0]) (Ev.neg (by omega) (Ev.bindS e1 (Ev.pos rfl (Ev.bindS e2 ?_)))), by simp; omega, u0, by omega⟩
        exact Ev.pos (show x.length < 17592186044416 by omega) (Ev.now _)
      | false =>
        refine ⟨x, p1, s1, Ev.step (fun k => by rw [spec_l1Cur_votes.l0]) (Ev.neg (by omega) (Ev.bindS e1 ?_)), by omega, q0, by omega⟩
        exact Ev.neg (by simp) (Ev.now _)
    | succ n ih =>
      intro x p s hn hx hp hp1
      obtain ⟨r, p1, s1, e1, _, _, q0, q1⟩ := spec_l1Cur_pick.ev hl s 4 hp (by omega)
      have ew : wrap64 (((n + 1 : Nat) : Int) - 1) = (n : Int) := by rw [w64 (by omega) (by omega)]; omega
      obtain ⟨v, p', s', h, hv, g0, g1⟩ := ih (x ++ [r]) p1 s1 (by omega) (by simp; omega) q0 (by simp; omega)
      refine ⟨v, p', s', Ev.step (fun k => by rw [spec_l1Cur_votes.l0]) (Ev.pos (by omega) (Ev.bindS e1 ?_)), hv, g0, by omega⟩
      refine Ev.pos (show x.length < 17592186044416 by omega) ?_
      rw [ew]; exact h
  unfold spec_l1Cur_votes.f
  obtain ⟨r, p1, s1, e1, r0, r1, q0, q1⟩ := spec_l1Cur_pick.ev hl s 5 h0 (by omega)
  have r1 := r1 (by omega)
  obtain ⟨n, hn⟩ : ∃ n : Nat, wrap64 (1 + r) = (n : Int) := ⟨(1 + r).toNat, by rw [w64 (by omega) (by omega)]; omega⟩
  have hn' : 1 + r = (n : Int) := by rw [← hn, w64 (by omega) (by omega)]
  obtain ⟨v, p', s', h, hv, g0, g1⟩ := key n [] p1 s1 (by omega) (by simp; omega) q0 (by simp; omega)
  refine ⟨v, p', s', Ev.bindS e1 ?_, hv, g0, by omega⟩
  show Ev (fun k => spec_l1Cur_votes.l0 k [] (wrap64 (1 + r)) l p1 s1) (v, p', s')
  rw [hn]; exact h

theorem spec_l1Cur_group.ev {l : List Int} (hl : inCur l) {p : Int} (s : Int) (n : Nat) (hn : n ≤ 6) (h0 : 0 ≤ p) (h1 : p ≤ 1000) : ∃ v p' s', Ev (fun k => spec_l1Cur_group.f k l p s (n : Int)) (v, p', s') ∧ v.length ≤ 7 := by
  have key : ∀ (d i : Nat) (x : List Int) (p s : Int), i + d = n → x.length ≤ i → 0 ≤ p → p ≤ 2000 + 2 * i → ∃ v p' s', Ev (fun k => spec_l1Cur_group.l0 k (n : Int) (i : Int) l p s x) (v, p', s') ∧ v.length ≤ 7 := by
    intro d
    induction d with
    | zero =>
      intro i x p s hi hx hp hp1
      obtain ⟨b, p1, s1, e1, q0, q1⟩ := spec_l1Cur_one.ev hl s 30 hp (by omega)
      cases b with
      | true =>
        obtain ⟨y, p2, s2, e2, _, _, u0, u1⟩ := spec_l1Cur_pick.ev hl s1 14 q0 (by omega)
        refine ⟨x ++ [wrap64 (y - 1)], p2, s2, Ev.step (fun k => by rw [spec_l1Cur_group.l0]) (Ev.neg (by omega) (Ev.bindS e1 (Ev.pos rfl (Ev.bindS e2 ?_)))), by simp; omega⟩
        exact Ev.pos (show x.length < 17592186044416 by omega) (Ev.now _)
      | false =>
        refine ⟨x, p1, s1, Ev.step (fun k => by rw [spec_l1Cur_group.l0]) (Ev.neg (by omega) (Ev.bindS e1 ?_)), by omega⟩
        exact Ev.neg (by simp) (Ev.now _)
    | succ d ih =>
      intro i x p s hi hx hp hp1
      obtain ⟨b, p1, s1, e1, q0, q1⟩ := spec_l1Cur_one.ev hl s 3 hp (by omega)
      have ew : wrap64 ((i : Int) + 1) = ((i + 1 : Nat) : Int) := by rw [w64 (by omega) (by omega)]; omega
      cases b with
      | true =>
        obtain ⟨v, p', s', h, hv⟩ := ih (i + 1) x p1 s1 (by omega) (by omega) q0 (by omega)
        refine ⟨v, p', s', Ev.step (fun k => by rw [spec_l1Cur_group.l0]) (Ev.pos (by omega) (Ev.bindS e1 ?_)), hv⟩
        refine Ev.pos rfl ?_
        rw [ew]; exact h
      | false =>
        obtain ⟨v, p', s', h, hv⟩ := ih (i + 1) (x ++ [(i : Int)]) p1 s1 (by omega) (by simp; omega) q0 (by omega)
        refine ⟨v, p', s', Ev.step (fun k => by rw [spec_l1Cur_group.l0]) (Ev.pos (by omega) (Ev.bindS e1 ?_)), hv⟩
        refine Ev.neg (by simp) (Ev.pos (show x.length < 17592186044416 by omega) ?_)
        rw [ew]; exact h
  exact key n 0 [] p s (by omega) (by simp) h0 (by omega)

theorem spec_DrawWeightOf.ev {l : List Int} (hl : inCur l) : ∃ v g, Ev (fun k => spec_DrawWeightOf.f k l) (v, g) ∧ v.length ≤ 6 ∧ g.length ≤ 7 := by
  unfold spec_DrawWeightOf.f
  obtain ⟨v, p, s, h, hv, p0, p1⟩ := spec_l1Cur_votes.ev hl (p := 0) 0 (by omega) (by omega)
  obtain ⟨g, p', s', h', hg⟩ := spec_l1Cur_group.ev hl s v.length hv p0 (by omega)
  exact ⟨v, g, Ev.bind h (Ev.bind h' (Ev.now _)), hv, hg⟩

theorem spec_DrawIsRead.ev {l : List Int} (hl : inCur l) : ∃ v r g, Ev (fun k => spec_DrawIsRead.f k l) (v, r, g) ∧ v.length ≤ 6 ∧ g.length ≤ 7 := by
  unfold spec_DrawIsRead.f
  obtain ⟨v, g, h, hv, hg⟩ := spec_DrawWeightOf.ev hl
  obtain ⟨r, p, s, e, _, _, _, _⟩ := spec_l1Cur_pick.ev hl (p := 0) 0 8 (by omega) (by omega)
  exact ⟨v, _, g, Ev.bind h (Ev.bindS e (Ev.now _)), hv, hg⟩

theorem spec_DrawIsWrite.ev {l : List Int} (hl : inCur l) : ∃ v r g, Ev (fun k => spec_DrawIsWrite.f k l) (v, r, g) ∧ v.length ≤ 6 ∧ g.length ≤ 7 := by
  unfold spec_DrawIsWrite.f
  obtain ⟨v, r, g, h, hv, hg⟩ := spec_DrawIsRead.ev hl
  exact ⟨v, r, g, Ev.bind h (Ev.now _), hv, hg⟩

/-- The sum of a function over a list. -/
def lsum (f : Int → Int) : List Int → Int
  | [] => 0
  | x :: r => f x + lsum f r
theorem lsum_append (f : Int → Int) : ∀ (a b : List Int), lsum f (a ++ b) = lsum f a + lsum f b
  | [], b => by simp [lsum]
  | x :: r, b => by simp [lsum, lsum_append f r b]; omega
theorem sumTo_lsum (f : Int → Int) (g : List Int) : ∀ i, i ≤ g.length → sumTo (fun j => f (rd g (j : Int))) i = lsum f (g.take i)
  | 0, _ => by simp [sumTo, lsum]
  | i + 1, h => by
    have hlt : i < g.length := by omega
    show sumTo (fun j => f (rd g (j : Int))) i + f (rd g (i : Int)) = _
    rw [sumTo_lsum f g i (by omega), take_snoc g hlt, lsum_append, rd_get hlt]; simp [lsum]
theorem sumTo_add (f g : Nat → Int) : ∀ n, sumTo (fun j => f j + g j) n = sumTo f n + sumTo g n
  | 0 => rfl
  | n + 1 => by simp only [sumTo]; rw [sumTo_add f g n]; omega
theorem sumTo_le {f g : Nat → Int} : ∀ n, (∀ i, i < n → f i ≤ g i) → sumTo f n ≤ sumTo g n
  | 0, _ => Int.le_refl _
  | n + 1, h => by
    have h1 := sumTo_le (f := f) (g := g) n (fun i hi => h i (by omega))
    have h2 := h n (by omega)
    simp only [sumTo]; omega
theorem sumTo_one (f : Int → Int) (x : Int) (h0 : 0 ≤ x) : ∀ n : Nat, sumTo (fun i => if (i : Int) = x then f x else 0) n = if x < (n : Int) then f x else 0
  | 0 => by simp only [sumTo]; rw [if_neg (by omega)]
  | n + 1 => by
    simp only [sumTo]
    rw [sumTo_one f x h0 n]
    by_cases c : (n : Int) = x
    · rw [if_neg (by omega), if_pos c, if_pos (by omega)]; omega
    · rw [if_neg c]
      by_cases d : x < (n : Int)
      · rw [if_pos d, if_pos (by omega)]; omega
      · rw [if_neg d, if_neg (by omega)]; omega
/-- A list's sum, told by the numbers below n. -/
theorem lsum_ind (f : Int → Int) (n : Nat) : ∀ g : List Int, g.Nodup → (∀ x ∈ g, 0 ≤ x ∧ x < (n : Int)) → lsum f g = sumTo (fun i => if (i : Int) ∈ g then f (i : Int) else 0) n
  | [], _, _ => by
    have : ∀ n, sumTo (fun i : Nat => if (i : Int) ∈ ([] : List Int) then f (i : Int) else 0) n = 0 := by
      intro n
      induction n with
      | zero => rfl
      | succ n ih => simp only [sumTo]; rw [ih]; simp
    rw [this]; rfl
  | x :: r, hn, hb => by
    obtain ⟨hx, hr⟩ := List.nodup_cons.1 hn
    have h1 := hb x (List.mem_cons_self ..)
    have ih := lsum_ind f n r hr (fun y hy => hb y (List.mem_cons_of_mem _ hy))
    have e : sumTo (fun i : Nat => if (i : Int) ∈ x :: r then f (i : Int) else 0) n = sumTo (fun i : Nat => (if (i : Int) = x then f x else 0) + (if (i : Int) ∈ r then f (i : Int) else 0)) n := by
      refine sumTo_congr (fun i _ => ?_)
      by_cases c : (i : Int) = x
      · rw [if_pos (by rw [c]; exact List.mem_cons_self ..), if_pos c, if_neg (by rw [c]; exact hx), c]; omega
      · rw [if_neg c]
        by_cases d : (i : Int) ∈ r
        · rw [if_pos (List.mem_cons_of_mem _ d), if_pos d]; omega
        · rw [if_neg (fun h => (List.mem_cons.1 h).elim c d), if_neg d]; omega
    rw [e, sumTo_add, sumTo_one f x h1.1 n, if_pos h1.2, ← ih]; rfl
theorem good_lt {g : List Int} {n : Int} (h : goodG g n = true) : ∀ j i : Nat, i < j → j < g.length → rd g (i : Int) < rd g (j : Int) := by
  intro j
  induction j with
  | zero => intro i hi; omega
  | succ j ih =>
    intro i hi hj
    have hs : rd g ((j + 1 : Nat) : Int) > rd g (j : Int) := by
      simp only [goodG, Bool.and_eq_true] at h
      have h2 := allFrom_iff.1 h.2 (j + 1) (by omega) hj
      simp only [rise, Bool.and_eq_true, Bool.or_eq_true, decide_eq_true_eq] at h2
      have h3 := h2.2.resolve_left (by omega)
      have : (((j + 1 : Nat) : Int) - 1) = (j : Int) := by omega
      rw [this] at h3; exact h3
    by_cases c : i = j
    · subst c; exact hs
    · have := ih i (by omega) (by omega); omega
theorem good_nodup {g : List Int} {n : Int} (h : goodG g n = true) : g.Nodup := by
  unfold List.Nodup
  rw [List.pairwise_iff_getElem]
  intro i j hi hj hij he
  have := good_lt h j i hij hj
  rw [rd_get hi, rd_get hj] at this
  omega
theorem good_in {g : List Int} {n : Int} (h : goodG g n = true) : ∀ x ∈ g, 0 ≤ x ∧ x < n := by
  intro x hx
  obtain ⟨i, hi, rfl⟩ := List.getElem_of_mem hx
  have := goodG_at h hi
  rw [rd_get hi] at this
  exact ⟨this.1, this.2.1⟩
theorem wgt_ind {v g : List Int} (h : goodG g v.length = true) : wgt v g g.length = sumTo (fun i => if (i : Int) ∈ g then rd v (i : Int) else 0) v.length := by
  unfold wgt
  rw [sumTo_lsum (fun x => rd v x) g g.length (Nat.le_refl _), List.take_length]
  exact lsum_ind (fun x => rd v x) v.length g (good_nodup h) (good_in h)
/-- Two groups that have more than all votes together meet. -/
theorem meet_ne {v a b : List Int} (hv : okV v = true) (ha : goodG a v.length = true) (hb : goodG b v.length = true) (hs : sumV v v.length < wgt v a a.length + wgt v b b.length) : (a.filter fun x => b.contains x) ≠ [] := by
  intro he
  have hd : ∀ x ∈ a, x ∉ b := by
    intro x hx hxb
    have : x ∈ a.filter fun x => b.contains x := List.mem_filter.2 ⟨hx, by rw [List.contains_iff_mem]; exact hxb⟩
    rw [he] at this; cases this
  rw [wgt_ind ha, wgt_ind hb, ← sumTo_add] at hs
  have : sumTo (fun i : Nat => (if (i : Int) ∈ a then rd v (i : Int) else 0) + (if (i : Int) ∈ b then rd v (i : Int) else 0)) v.length ≤ sumV v v.length := by
    refine sumTo_le _ (fun i hi => ?_)
    have h0 := (inB_iff.1 (allFrom_iff.1 hv i (by omega) hi)).1
    by_cases c : (i : Int) ∈ a
    · rw [if_pos c, if_neg (hd _ c)]; omega
    · rw [if_neg c]
      split <;> omega
  omega
theorem law_j2 (v a b : List Int) (r w : Int) (hvl : v.length ≤ 6) (hal : a.length ≤ 7) (hbl : b.length ≤ 7) (ok : (enoughS v r a).2 = true) :
    Ev (fun k => laws_FnGifford.j2 k v r (enoughS v r a).1 w a b) true := by
  have oa : ((votesS v).2 && goodG a v.length && inB r 1 (votesS v).1) = true := by
    cases h : ((votesS v).2 && goodG a v.length && inB r 1 (votesS v).1) with
    | true => rfl
    | false => unfold enoughS at ok; rw [h] at ok; cases ok
  have ea : enoughS v r a = (decide (wgt v a a.length ≥ r), true) := by unfold enoughS; rw [oa]; rfl
  simp only [Bool.and_eq_true] at oa
  obtain ⟨⟨hv2, ga⟩, hr⟩ := oa
  have hok := votes_ok hv2
  have hsum : (votesS v).1 = sumV v v.length := by unfold votesS; rw [hok]; rfl
  rw [hsum] at hr
  obtain ⟨r0, r1⟩ := inB_iff.1 hr
  have hsb := sumV_bound (l := v) (i := v.length) (fun j hj => allFrom_iff.1 hok j (by omega) hj)
  refine Ev.step (fun k => by rw [laws_FnGifford.j2]) (Ev.bind (impl_IsWrite.ev v w b (by omega) (by omega)) (Ev.bind (spec_IsWrite.ev v w b (by omega) (by omega)) ?_))
  refine Ev.neg (by simp) ?_
  have hz : ((enoughS v w b).1 != (enoughS v w b).1) = false := by simp
  rw [hz]
  have ew : weightS v a = (wgt v a a.length, true) := by unfold weightS; rw [hv2, ga]; rfl
  refine Ev.step (fun k => by rw [laws_FnGifford.j3]) (Ev.neg (by simp) (Ev.bind (Ev.eq (impl_WeightOf.ev v a (by omega) (by omega)) ew) (Ev.pos rfl ?_)))
  have hx : ((enoughS v r a).1 != decide ((wgt v a a.length, true).1 ≥ r)) = false := by rw [ea]; simp
  rw [hx]
  refine Ev.step (fun k => by rw [laws_FnGifford.j4]) (Ev.neg (by simp) ?_)
  refine Ev.eq (Ev.up (g := fun k i => laws_FnGifford.l1 k v r (enoughS v r a).1 w (enoughS v w b).1 (enoughS v w b).2 (sumV v i.toNat) v (v.length : Int) i a b) v.length (fun _ => true) ?_) rfl
  intro i hi ih
  refine Ev.step (fun k => by rw [laws_FnGifford.l1]) ?_
  have hb1 := sumV_bound (l := v) (i := i) (fun j hj => allFrom_iff.1 hok j (by omega) (by omega))
  by_cases hlt : i < v.length
  · have ih := ih hlt
    have hvi := inB_iff.1 (allFrom_iff.1 hok i (by omega) hlt)
    have e : sumV v (i + 1) = sumV v i + rd v i := rfl
    simp only [Int.toNat_natCast] at ih ⊢
    rw [w64 (x := sumV v i + rd v (i : Int)) (by omega) (by omega), ← e, w64_succ hlt (by omega)]
    exact Ev.pos (by omega) (Ev.pos (by omega) (Ev.pos (by omega) ih))
  · have : i = v.length := by omega
    subst this
    simp only [Int.toNat_natCast]
    refine Ev.neg (by omega) (Ev.cases (fun h1 => Ev.cases (fun h2 => Ev.cases (fun h3 => ?_) (fun _ => Ev.now _)) (fun _ => Ev.now _)) (fun _ => Ev.now _))
    have ob : ((votesS v).2 && goodG b v.length && inB w 1 (votesS v).1) = true := by
      cases h : ((votesS v).2 && goodG b v.length && inB w 1 (votesS v).1) with
      | true => rfl
      | false => unfold enoughS at h1; rw [h] at h1; cases h1
    have eb : enoughS v w b = (decide (wgt v b b.length ≥ w), true) := by unfold enoughS; rw [ob]; rfl
    simp only [Bool.and_eq_true] at ob
    obtain ⟨⟨_, gb⟩, hw⟩ := ob
    rw [hsum] at hw
    obtain ⟨w0, w1⟩ := inB_iff.1 hw
    rw [ea] at h2
    rw [eb] at h3
    have h2' : wgt v a a.length ≥ r := by simpa using h2
    have h3' : wgt v b b.length ≥ w := by simpa using h3
    rw [w64 (x := r + w) (by omega) (by omega)]
    refine Ev.cases (fun _ => Ev.now _) (fun h4 => ?_)
    refine Ev.bind (impl_MeetOf.ev a b v.length (by omega) (by omega) ga gb) (Ev.pos rfl (Ev.some ?_))
    have hne := meet_ne hok ga gb (by omega)
    have := List.length_pos_iff.2 hne
    exact decide_eq_true (show (((a.filter fun x => b.contains x).length : Nat) : Int) > 0 by omega)
theorem law_l0 (v a : List Int) (r w : Int) (hvl : v.length ≤ 6) (hal : a.length ≤ 7) (ok : (enoughS v r a).2 = true) : ∀ (n : Nat) (b : List Int), b.length = n → n ≤ 7 → Ev (fun k => laws_FnGifford.l0 k v r (enoughS v r a).1 w a b) true := by
  intro n
  induction n with
  | zero =>
    intro b hb _
    exact Ev.step (fun k => by rw [laws_FnGifford.l0]) (Ev.neg (by omega) (law_j2 v a b r w hvl hal (by omega) ok))
  | succ n ih =>
    intro b hb hn
    refine Ev.step (fun k => by rw [laws_FnGifford.l0]) ?_
    have ew : wrap64 ((b.length : Int) - 1) = (n : Int) := by rw [w64 (by omega) (by omega)]; omega
    rw [ew]
    refine Ev.pos (by omega) (Ev.pos (by omega) (Ev.pos (by omega) (Ev.cases (fun _ => Ev.pos (by omega) ?_) (fun _ => law_j2 v a b r w hvl hal (by omega) ok))))
    exact ih (b.take n) (by simp; omega) (by omega)
theorem holds_ev (l0 l1 : List Int) (h0 : inCur l0) (h1 : inCur l1) : Ev (fun k => laws_FnGifford.f k l0 l1) true := by
  unfold laws_FnGifford.f
  refine Ev.cases (fun _ => Ev.now _) (fun _ => ?_)
  obtain ⟨v, r, a, hd, hv, ha⟩ := spec_DrawIsRead.ev h0
  obtain ⟨v', w, b, hd', _, hb⟩ := spec_DrawIsWrite.ev h1
  refine Ev.bind hd (Ev.bind (impl_IsRead.ev v r a (by omega) (by omega)) (Ev.bind (spec_IsRead.ev v r a (by omega) (by omega)) (Ev.neg (by simp) ?_)))
  have hz : ((enoughS v r a).1 != (enoughS v r a).1) = false := by simp
  rw [hz]
  refine Ev.step (fun k => by rw [laws_FnGifford.j0]) (Ev.neg (by simp) (Ev.cases (fun ok => Ev.bind hd' (law_l0 v a r w hv ha ok b.length b rfl hb)) (fun no => Ev.some ?_)))
  have : enoughS v r a = (false, false) := by
    unfold enoughS at no ⊢
    split
    · rename_i h; rw [h] at no; exact absurd rfl no
    · rfl
  rw [this]; rfl

end Go.Proofs.Ythbollaceiffpaa.PGF
namespace Go.Proofs.Ythbollaceiffpaa.Pure
open Go.RowKit Go.Proofs.Ythbollaceiffpaa.PGF Go.Proofs.Ythbollaceiffpaa.Base Go.Proofs.YthbollaceiffpaaW.PrintWords Go.Proofs.YthbollaceiffpaaW.PrintLast
theorem FnGifford : laws_FnGifford.Pure := by
  intro l0 l1 _ _ h0 _ _ h1
  exact (holds_ev l0 l1 (inCur_of h0) (inCur_of h1)).rounds
end Go.Proofs.Ythbollaceiffpaa.Pure
