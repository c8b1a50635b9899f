/- What this text proves: laws.FnCounters, told as plain functions of numbers and lists, answers true for all arguments.
   Conditions: the bounds that the typed reading gives. -/
import Derived.Test.YtcloilddgimamaaPFCx9
import Derived.Test.YtcloilddgimamaaBase
import Derived.Laws.BitsLemmas
import Derived.Laws.Bits64b
namespace Go.Proofs.Ytcloilddgimamaa.PFC
open Go.RowKit Go.Proofs.Ytcloilddgimamaa.Base Go.Proofs.YtcloilddgimamaaW.PrintWords Go.Proofs.YtcloilddgimamaaW.PrintLast Go.Proofs.YtcloilddgimamaaW.PrintMore
set_option linter.unusedVariables false
set_option linter.unusedSimpArgs false
/-- The place of the first element at which p says yes, counted from i; -1 for none. -/
def idxN {α : Type} (p : α → Bool) : List α → Nat → Int
  | [], _ => -1
  | x :: r, i => if p x = true then (i : Int) else idxN p r (i + 1)
theorem idxO_val {α : Type} {F : α → Option Bool} {p : α → Bool} : ∀ (l : List α) (i : Nat), (∀ x ∈ l, F x = some (p x)) → idxO F l i = some (idxN p l i)
  | [], _, _ => rfl
  | x :: r, i, h => by
    simp only [idxO, idxN, h x (List.mem_cons_self ..), Option.bind_some]
    rw [idxO_val r (i + 1) (fun y hy => h y (List.mem_cons_of_mem _ hy))]
    split <;> rfl
theorem idxN_cons {α : Type} (p : α → Bool) (x : α) (r : List α) (i : Nat) : idxN p (x :: r) i = if p x = true then (i : Int) else idxN p r (i + 1) := rfl
theorem idxN_anyP {α : Type} (p : α → Bool) : ∀ (l : List α) (i : Nat), (idxN p l i ≥ 0) ↔ l.any p = true
  | [], _ => by simp [idxN]
  | x :: r, i => by
    rw [idxN_cons]
    by_cases h : p x = true
    · rw [if_pos h, List.any_cons, h]; simp
    · rw [if_neg h, List.any_cons, Bool.eq_false_iff.2 h, Bool.false_or]; exact idxN_anyP p r (i + 1)
theorem idxN_any {α : Type} (p : α → Bool) (l : List α) (i : Nat) : decide (idxN p l i ≥ 0) = l.any p := by
  rw [Bool.eq_iff_iff, decide_eq_true_iff]; exact idxN_anyP p l i
theorem idxN_ge {α : Type} (p : α → Bool) : ∀ (l : List α) (i : Nat), idxN p l i = -1 ∨ (i : Int) ≤ idxN p l i
  | [], _ => .inl rfl
  | x :: r, i => by
    simp only [idxN]
    split
    · exact .inr (Int.le_refl _)
    · rcases idxN_ge p r (i + 1) with h | h
      · exact .inl h
      · exact .inr (by omega)
theorem idxO_any {α : Type} {F : α → Option Bool} {p : α → Bool} {l : List α} (h : ∀ x ∈ l, F x = some (p x)) : ((idxO F l 0).bind fun i => some (decide (i ≥ 0))) = some (l.any p) := by
  rw [idxO_val l 0 h]; simp only [Option.bind_some]; rw [idxN_any]
theorem idxO_Ev {α : Type} {F : Nat → α → Option Bool} {p : α → Bool} : ∀ (l : List α) (i : Nat), (∀ x ∈ l, Ev (fun k => F k x) (p x)) → Ev (fun k => idxO (F k) l i) (idxN p l i)
  | [], _, _ => Ev.now _
  | x :: r, i, h => by
    show Ev (fun k => (F k x).bind fun b => if b = true then some (i : Int) else idxO (F k) r (i + 1)) _
    refine Ev.bind (h x (List.mem_cons_self ..)) ?_
    simp only [idxN]
    refine Ev.cases (fun hp => Ev.some (by rw [if_pos hp])) (fun hp => ?_)
    rw [if_neg hp]
    exact idxO_Ev r (i + 1) (fun y hy => h y (List.mem_cons_of_mem _ hy))
theorem idxAny_Ev {α : Type} {F : Nat → α → Option Bool} {p : α → Bool} {l : List α} (h : ∀ x ∈ l, Ev (fun k => F k x) (p x)) : Ev (fun k => (idxO (F k) l 0).bind fun i => some (decide (i ≥ 0))) (l.any p) := by
  refine Ev.bind (idxO_Ev l 0 h) (Ev.some ?_)
  exact idxN_any p l 0

theorem spec_l1In.ev (n a b : Int) : spec_l1In.f n a b = some (inB n a b) := by
  unfold spec_l1In.f inB
  by_cases h : a ≤ n
  · rw [if_pos h]; simp [h]
  · rw [if_neg h]; simp [h]

def rowOk (l : List Int) : Bool := allFrom (fun i => inB (rd l i) 0 1000000) l.length 0 && decide (l.length = 6)
theorem spec_l14Row.ev (l : List Int) (hl : l.length ≤ 9223372036854775807) : Ev (fun k => spec_l14Row.f k l) (rowOk l) := by
  unfold spec_l14Row.f rowOk
  refine Ev.eq (Ev.up (g := fun k i => spec_l14Row.l0 k l l (l.length : Int) i) l.length (fun i => allFrom (fun i => inB (rd l i) 0 1000000) l.length i && decide (l.length = 6)) ?_) rfl
  intro i hi ih
  refine Ev.step (fun k => by rw [spec_l14Row.l0]) ?_
  by_cases hlt : i < l.length
  · refine Ev.pos (by omega) (Ev.pos (by omega) (Ev.pos (by omega) (Ev.bindS (spec_l1In.ev _ _ _) ?_)))
    rw [allFrom_step hlt, w64_succ hlt hl]
    have ih := ih hlt
    generalize allFrom (fun i => inB (rd l i) 0 1000000) l.length (i + 1) = q at ih ⊢
    refine Ev.cases (fun h => Ev.eq ih (by rw [h]; rfl)) (fun h => Ev.some (by simp at h; simp [h]))
  · have : i = l.length := by omega
    subst this
    refine Ev.neg (by omega) (Ev.some ?_)
    rw [allFrom_end, Bool.true_and]
    exact decide_eq_decide.2 (by omega)

def goodC (u d : List Int) : Bool := rowOk u && rowOk d
theorem goodC_at {u d : List Int} (h : goodC u d = true) : u.length = 6 ∧ d.length = 6 ∧ (∀ i : Nat, i < 6 → 0 ≤ rd u i ∧ rd u i ≤ 1000000) ∧ (∀ i : Nat, i < 6 → 0 ≤ rd d i ∧ rd d i ≤ 1000000) := by
  simp only [goodC, rowOk, Bool.and_eq_true, decide_eq_true_eq] at h
  obtain ⟨⟨h1, h2⟩, h3, h4⟩ := h
  refine ⟨h2, h4, fun i hi => ?_, fun i hi => ?_⟩
  · exact inB_iff.1 (allFrom_iff.1 h1 i (by omega) (by omega))
  · exact inB_iff.1 (allFrom_iff.1 h3 i (by omega) (by omega))
theorem goodC_of {u d : List Int} (h1 : u.length = 6) (h2 : d.length = 6) (h3 : ∀ i : Nat, i < 6 → 0 ≤ rd u i ∧ rd u i ≤ 1000000) (h4 : ∀ i : Nat, i < 6 → 0 ≤ rd d i ∧ rd d i ≤ 1000000) : goodC u d = true := by
  simp only [goodC, rowOk, Bool.and_eq_true, decide_eq_true_eq]
  exact ⟨⟨allFrom_iff.2 (fun j _ hj => inB_iff.2 (h3 j (by omega))), h1⟩, allFrom_iff.2 (fun j _ hj => inB_iff.2 (h4 j (by omega))), h2⟩
theorem spec_GoodCounter.ev (u d : List Int) (hu : u.length ≤ 9223372036854775807) (hd : d.length ≤ 9223372036854775807) : Ev (fun k => spec_GoodCounter.f k u d) (goodC u d) := by
  unfold spec_GoodCounter.f goodC
  refine Ev.bind (spec_l14Row.ev u hu) (Ev.cases (fun h1 => ?_) (fun h1 => Ev.some (by simp at h1; simp [h1])))
  exact Ev.bind (spec_l14Row.ev d hd) (Ev.some (by rw [h1]; rfl))

theorem impl_in.ev (n a b : Int) : impl_in.f n a b = some (inB n a b) := by
  unfold impl_in.f inB
  by_cases h : a ≤ n
  · rw [if_pos h]; simp [h]
  · rw [if_neg h]; simp [h]

def badCount (x : Int) : Bool := !(inB x 0 1000000)
theorem impl_isCounter_1.ev (x : Int) : impl_isCounter_1.f x = some (badCount x) := by
  unfold impl_isCounter_1.f badCount
  rw [impl_in.ev]; rfl
theorem has_impl_isCounter_1.ev (l : List Int) : has_impl_isCounter_1.f l = some (l.any badCount) := idxO_any (fun x _ => impl_isCounter_1.ev x)

theorem rowOk_any (l : List Int) : rowOk l = (decide ((l.length : Int) = 6) && !(l.any badCount)) := by
  rw [Bool.eq_iff_iff]
  simp only [rowOk, Bool.and_eq_true, decide_eq_true_eq, allFrom_iff, Bool.not_eq_true', List.any_eq_false, badCount, inB]
  constructor
  · rintro ⟨h1, h2⟩
    refine ⟨by omega, fun x hx => ?_⟩
    obtain ⟨i, hi, rfl⟩ := List.getElem_of_mem hx
    have := h1 i (by omega) hi
    rw [rd_get hi] at this
    simp at this ⊢; exact this
  · rintro ⟨h1, h2⟩
    refine ⟨fun j _ hj => ?_, by omega⟩
    have := h2 l[j] (List.getElem_mem hj)
    rw [rd_get hj]
    simp at this ⊢; exact this
theorem impl_isCounter.ev (u d : List Int) : impl_isCounter.f u d = some (goodC u d) := by
  unfold impl_isCounter.f goodC
  rw [rowOk_any, rowOk_any, has_impl_isCounter_1.ev, has_impl_isCounter_1.ev]
  by_cases h1 : (u.length : Int) = 6
  · rw [if_pos h1, decide_eq_true h1]
    by_cases h2 : (d.length : Int) = 6
    · rw [if_pos h2, decide_eq_true h2]
      simp only [Option.bind_some]
      cases u.any badCount <;> simp
    · rw [if_neg h2, decide_eq_false h2]; simp
  · rw [if_neg h1, decide_eq_false h1]; simp

def valC (u d : List Int) (i : Nat) : Int := sumTo (fun j => rd u j - rd d j) i
def valueC (u d : List Int) : Int × Bool := if goodC u d then (valC u d 6, true) else (0, false)
theorem valC_bound {u d : List Int} (h : goodC u d = true) : ∀ i : Nat, i ≤ 6 → -1000000 * i ≤ valC u d i ∧ valC u d i ≤ 1000000 * i := by
  obtain ⟨h1, h2, h3, h4⟩ := goodC_at h
  intro i
  induction i with
  | zero => intro _; simp [valC, sumTo]
  | succ i ih =>
    intro hi
    have := ih (by omega)
    have := h3 i (by omega)
    have := h4 i (by omega)
    have e : valC u d (i + 1) = valC u d i + (rd u i - rd d i) := rfl
    rw [e]; omega
theorem impl_ValueOf.ev (u d : List Int) : Ev (fun k => impl_ValueOf.f k u d) (valueC u d) := by
  unfold impl_ValueOf.f valueC
  refine Ev.bindS (impl_isCounter.ev u d) (Ev.cases (fun h => ?_) (fun h => Ev.some (by rw [if_neg h])))
  obtain ⟨h1, h2, h3, h4⟩ := goodC_at h
  have hb := valC_bound h
  rw [if_pos h]
  refine Ev.eq (Ev.up (g := fun k i => impl_ValueOf.l0 k (valC u d i.toNat) u (u.length : Int) i u d) 6 (fun _ => (valC u d 6, true)) ?_) rfl
  intro i hi ih
  refine Ev.step (fun k => by rw [impl_ValueOf.l0]) ?_
  by_cases hlt : i < 6
  · have b1 := hb i hi
    have b2 := hb (i + 1) (by omega)
    have b3 := h3 i hlt
    have b4 := h4 i hlt
    have e : valC u d (i + 1) = valC u d i + (rd u i - rd d i) := rfl
    have h2 := ih hlt
    simp only [Int.toNat_natCast] at h2 ⊢
    refine Ev.pos (by omega) (Ev.pos (by omega) (Ev.pos (by omega) (Ev.pos (by omega) ?_)))
    rw [w64 (x := rd u i - rd d i) (by omega) (by omega), ← e, w64 (by omega) (by omega), w64_succ hlt (by omega)]
    exact h2
  · have : i = 6 := by omega
    subst this
    exact Ev.neg (by omega) (Ev.some (by simp))

theorem zip_len {a b : List Int} (h : b.length = a.length) : (List.zipWith mx a b).length = a.length := by rw [List.length_zipWith]; omega
theorem zip_get {a b : List Int} {i : Nat} (h : i < a.length) (h' : i < b.length) : (List.zipWith mx a b)[i]'(by rw [List.length_zipWith]; omega) = mx a[i] b[i] := by rw [List.getElem_zipWith]
theorem spec_l2Merge.ev (a b : List Int) (h : b.length = a.length) (ha : a.length ≤ 1048576) : Ev (fun k => spec_l2Merge.f k a b) (List.zipWith mx a b) := by
  unfold spec_l2Merge.f
  refine Ev.bindS rfl (Ev.pos (by simp; omega) ?_)
  rw [List.nil_append]
  have hz := zip_len h
  refine Ev.eq (Ev.congr (fun k => ?_) (Ev.up (g := fun k i => spec_l2Merge.l0 k ((List.zipWith mx a b).take i.toNat ++ a.drop i.toNat) b (b.length : Int) i) b.length (fun _ => List.zipWith mx a b) ?_)) rfl
  · simp
  intro i hi ih
  refine Ev.step (fun k => by rw [spec_l2Merge.l0]) ?_
  simp only [Int.toNat_natCast]
  by_cases hlt : i < b.length
  · have hl : ((List.zipWith mx a b).take i ++ a.drop i).length = a.length := by simp; omega
    have hg : rd ((List.zipWith mx a b).take i ++ a.drop i) (i : Int) = a[i] := by
      rw [rd_get (by rw [hl]; omega)]
      rw [List.getElem_append_right (by simp; omega)]
      simp [hz, Nat.min_eq_left (by omega : i ≤ a.length)]
    refine Ev.pos (by omega) (Ev.pos (by omega) (Ev.pos (by omega) (Ev.pos (by omega) ?_)))
    rw [hg, rd_get hlt, w64_succ hlt (by omega)]
    have h2 := ih hlt
    simp only [Int.toNat_natCast] at h2
    have ht : (List.zipWith mx a b).take (i + 1) = (List.zipWith mx a b).take i ++ [mx a[i] b[i]] := by
      rw [take_snoc _ (by omega), zip_get (by omega) hlt]
    have hd : a.drop i = a[i] :: a.drop (i + 1) := List.drop_eq_getElem_cons (by omega)
    refine Ev.cases (fun hgt => ?_) (fun hgt => ?_)
    · have hm : mx a[i] b[i] = b[i] := by unfold mx; omega
      rw [set_mark _ _ _ (by simp; omega) (by omega : i < a.length)]
      rw [ht, hm] at h2
      exact h2
    · have hm : mx a[i] b[i] = a[i] := by unfold mx; omega
      rw [ht, hm] at h2
      rw [hd, show (List.zipWith mx a b).take i ++ a[i] :: a.drop (i + 1) = (List.zipWith mx a b).take i ++ [a[i]] ++ a.drop (i + 1) by simp]
      exact h2
  · have : i = b.length := by omega
    subst this
    refine Ev.neg (by omega) (Ev.some ?_)
    rw [List.take_of_length_le (by omega), List.drop_of_length_le (by omega), List.append_nil]

def mergeR (u d u' d' : List Int) : List Int × List Int × Bool := if goodC u d && goodC u' d' then (List.zipWith mx u u', List.zipWith mx d d', true) else ([], [], false)
theorem mergeR_len (u d u' d' : List Int) : (mergeR u d u' d').1.length ≤ 6 ∧ (mergeR u d u' d').2.1.length ≤ 6 := by
  unfold mergeR
  split
  · rename_i h
    rw [Bool.and_eq_true] at h
    have g1 := goodC_at h.1
    have g2 := goodC_at h.2
    simp only [List.length_zipWith]
    omega
  · exact ⟨Nat.zero_le _, Nat.zero_le _⟩
theorem spec_MergeCounter.ev (u d u' d' : List Int) (h1 : u.length ≤ 1048576) (h2 : d.length ≤ 1048576) (h3 : u'.length ≤ 1048576) (h4 : d'.length ≤ 1048576) : Ev (fun k => spec_MergeCounter.f k u d u' d') (mergeR u d u' d') := by
  unfold spec_MergeCounter.f mergeR
  refine Ev.bind (spec_GoodCounter.ev u d (by omega) (by omega)) (Ev.cases (fun g1 => Ev.bind (spec_GoodCounter.ev u' d' (by omega) (by omega)) (Ev.step (fun k => by rw [spec_MergeCounter.j0]) (Ev.cases (fun g2 => Ev.some ?_) (fun g2 => ?_)))) (fun g1 => Ev.step (fun k => by rw [spec_MergeCounter.j0]) (Ev.pos rfl (Ev.some ?_))))
  · have : goodC u' d' = false := by simpa using g2
    rw [this, Bool.and_false]; rfl
  · have g2' : goodC u' d' = true := by simpa using g2
    have e1 := goodC_at g1
    have e2 := goodC_at g2'
    refine Ev.bind (spec_l2Merge.ev u u' (by omega) (by omega)) (Ev.bind (spec_l2Merge.ev d d' (by omega) (by omega)) (Ev.some ?_))
    rw [g1, g2']; rfl
  · rw [Bool.eq_false_iff.2 g1]; rfl

theorem impl_greater.ev (a b : List Int) (h : b.length = a.length) (ha : a.length ≤ 1048576) : Ev (fun k => impl_greater.f k a b) (List.zipWith mx a b) := by
  unfold impl_greater.f
  have hz := zip_len h
  refine Ev.eq (Ev.congr (fun k => ?_) (Ev.up (g := fun k i => impl_greater.l0 k b ((List.zipWith mx a b).take i.toNat) a (a.length : Int) i) a.length (fun _ => List.zipWith mx a b) ?_)) rfl
  · simp
  intro i hi ih
  refine Ev.step (fun k => by rw [impl_greater.l0]) ?_
  simp only [Int.toNat_natCast]
  by_cases hlt : i < a.length
  · refine Ev.pos (by omega) (Ev.pos (by omega) (Ev.pos (by omega) (Ev.pos (by omega) (Ev.pos (by simp; omega) ?_))))
    rw [rd_get hlt, rd_get (by omega : i < b.length), w64_succ hlt (by omega), ← zip_get hlt (by omega : i < b.length), ← take_snoc _ (by omega)]
    have h2 := ih hlt
    simp only [Int.toNat_natCast] at h2
    exact h2
  · have : i = a.length := by omega
    subst this
    refine Ev.neg (by omega) (Ev.some ?_)
    rw [List.take_of_length_le (by omega)]

theorem impl_MergeCounter.ev (u d u' d' : List Int) (h1 : u.length ≤ 1048576) (h2 : d.length ≤ 1048576) (h3 : u'.length ≤ 1048576) (h4 : d'.length ≤ 1048576) : Ev (fun k => impl_MergeCounter.f k u d u' d') (mergeR u d u' d') := by
  unfold impl_MergeCounter.f mergeR
  refine Ev.bindS (impl_isCounter.ev u d) (Ev.cases (fun g1 => Ev.bindS (impl_isCounter.ev u' d') (Ev.step (fun k => by rw [impl_MergeCounter.j0]) (Ev.cases (fun g2 => Ev.some ?_) (fun g2 => ?_)))) (fun g1 => Ev.step (fun k => by rw [impl_MergeCounter.j0]) (Ev.pos rfl (Ev.some ?_))))
  · have : goodC u' d' = false := by simpa using g2
    rw [this, Bool.and_false]; rfl
  · have g2' : goodC u' d' = true := by simpa using g2
    have e1 := goodC_at g1
    have e2 := goodC_at g2'
    refine Ev.bind (impl_greater.ev u u' (by omega) (by omega)) (Ev.bind (impl_greater.ev d d' (by omega) (by omega)) (Ev.some ?_))
    rw [g1, g2']; rfl
  · rw [Bool.eq_false_iff.2 g1]; rfl

def cntU (u : List Int) (a b : Int) : List Int := if 0 < b then u.set a.toNat (rd u a + b) else u
def cntD (d : List Int) (a b : Int) : List Int := if b < 0 then d.set a.toNat (rd d a - b) else d
def countR (u d : List Int) (a b : Int) : List Int × List Int × Bool :=
  if goodC u d && (inB a 0 5 && inB b (-1000) 1000) then (if goodC (cntU u a b) (cntD d a b) then (cntU u a b, cntD d a b, true) else ([], [], false)) else ([], [], false)
theorem countR_len (u d : List Int) (a b : Int) : (countR u d a b).1.length ≤ 6 ∧ (countR u d a b).2.1.length ≤ 6 := by
  unfold countR
  split
  · split
    · rename_i _ h
      have g1 := goodC_at h
      simp only []; omega
    · exact ⟨Nat.zero_le _, Nat.zero_le _⟩
  · exact ⟨Nat.zero_le _, Nat.zero_le _⟩
theorem countR_bad {u d : List Int} {a b : Int} (h : (goodC u d && (inB a 0 5 && inB b (-1000) 1000)) = false) : countR u d a b = ([], [], false) := by unfold countR; rw [h]; rfl
theorem countR_good {u d : List Int} {a b : Int} (h : (goodC u d && (inB a 0 5 && inB b (-1000) 1000)) = true) : countR u d a b = if goodC (cntU u a b) (cntD d a b) then (cntU u a b, cntD d a b, true) else ([], [], false) := by unfold countR; rw [h]; rfl
theorem set_rd_self {l : List Int} {a : Int} (h0 : 0 ≤ a) (h : a < l.length) : l.set a.toNat (rd l a) = l := by
  have hn : a.toNat < l.length := by omega
  have : rd l a = l[a.toNat] := by unfold rd; simp [hn]
  rw [this, List.set_getElem_self]
theorem cntU_len (u : List Int) (a b : Int) : (cntU u a b).length = u.length := by unfold cntU; split <;> simp
theorem cntD_len (u : List Int) (a b : Int) : (cntD u a b).length = u.length := by unfold cntD; split <;> simp
theorem rd_in {l : List Int} {a : Int} (h0 : 0 ≤ a) (h5 : a ≤ 5) (h : ∀ i : Nat, i < 6 → 0 ≤ rd l i ∧ rd l i ≤ 1000000) : 0 ≤ rd l a ∧ rd l a ≤ 1000000 := by
  have := h a.toNat (by omega)
  rwa [show ((a.toNat : Nat) : Int) = a by omega] at this
theorem spec_CountBy.ev (u d : List Int) (a b : Int) (h1 : u.length ≤ 1048576) (h2 : d.length ≤ 1048576) : Ev (fun k => spec_CountBy.f k u d a b) (countR u d a b) := by
  have no : (goodC u d && (inB a 0 5 && inB b (-1000) 1000)) = false → Ev (fun k => spec_CountBy.j0 k a b true u d) (countR u d a b) := by
    intro hb
    rw [countR_bad hb]
    exact Ev.step (fun k => by rw [spec_CountBy.j0]) (Ev.pos rfl (Ev.now _))
  unfold spec_CountBy.f
  refine Ev.bind (spec_GoodCounter.ev u d (by omega) (by omega)) (Ev.cases (fun g1 => Ev.bindS (spec_l1In.ev a 0 5) (Ev.cases (fun g2 => Ev.bindS (spec_l1In.ev b (-1000) 1000) ?_) (fun g2 => no (by simp at g2; simp [g2])))) (fun g1 => ?_))
  · cases g3 : inB b (-1000) 1000 with
    | false => exact no (by simp [g3])
    | true =>
      have e1 := goodC_at g1
      have e2 := inB_iff.1 g2
      have e3 := inB_iff.1 g3
      have ru := rd_in e2.1 e2.2 e1.2.2.1
      have rdd := rd_in e2.1 e2.2 e1.2.2.2
      rw [countR_good (by simp [g1, g2, g3])]
      refine Ev.step (fun k => by rw [spec_CountBy.j0]) ?_
      refine Ev.neg (by simp) ?_
      refine Ev.bindS rfl ?_
      refine Ev.pos (by simp; omega) ?_
      refine Ev.bindS rfl ?_
      refine Ev.bindS rfl ?_
      refine Ev.pos (by simp; omega) ?_
      refine Ev.bindS rfl ?_
      simp only [List.nil_append]
      refine Ev.cases (fun hge => Ev.pos e2.1 (Ev.pos (by omega) (Ev.bindS rfl ?_))) (fun hge => Ev.pos e2.1 (Ev.pos (by omega) (Ev.bindS rfl ?_)))
      · have ec : u.set a.toNat (wrap64 (rd u a + b)) = cntU u a b := by
          rw [w64 (by omega) (by omega)]; unfold cntU
          split
          · rfl
          · rw [show b = 0 by omega, Int.add_zero]; exact set_rd_self e2.1 (by omega)
        have ed : cntD d a b = d := by unfold cntD; rw [if_neg (by omega)]
        rw [ec, ed]
        refine Ev.bind (spec_GoodCounter.ev _ _ (by rw [cntU_len]; omega) (by omega)) (Ev.cases (fun g => Ev.some (by rw [if_pos g])) (fun g => Ev.some (by rw [if_neg g])))
      · have ec : d.set a.toNat (wrap64 (rd d a - b)) = cntD d a b := by
          rw [w64 (by omega) (by omega)]; unfold cntD; rw [if_pos (by omega)]
        have ed : cntU u a b = u := by unfold cntU; rw [if_neg (by omega)]
        rw [ec, ed]
        refine Ev.bind (spec_GoodCounter.ev _ _ (by omega) (by rw [cntD_len]; omega)) (Ev.cases (fun g => Ev.some (by rw [if_pos g])) (fun g => Ev.some (by rw [if_neg g])))
  · exact no (by simp at g1; simp [g1])

theorem impl_CountBy.ev (u d : List Int) (a b : Int) (h1 : u.length ≤ 1048576) (h2 : d.length ≤ 1048576) : Ev (fun k => impl_CountBy.f k u d a b) (countR u d a b) := by
  have no : (goodC u d && (inB a 0 5 && inB b (-1000) 1000)) = false → Ev (fun k => impl_CountBy.j0 k a b true u d) (countR u d a b) := by
    intro hb
    rw [countR_bad hb]
    exact Ev.step (fun k => by rw [impl_CountBy.j0]) (Ev.pos rfl (Ev.now _))
  unfold impl_CountBy.f
  refine Ev.bindS (impl_isCounter.ev u d) (Ev.cases (fun g1 => Ev.bindS (impl_in.ev a 0 5) (Ev.cases (fun g2 => Ev.bindS (impl_in.ev b (-1000) 1000) ?_) (fun g2 => no (by simp at g2; simp [g2])))) (fun g1 => ?_))
  · cases g3 : inB b (-1000) 1000 with
    | false => exact no (by simp [g3])
    | true =>
      have e1 := goodC_at g1
      have e2 := inB_iff.1 g2
      have e3 := inB_iff.1 g3
      have ru := rd_in e2.1 e2.2 e1.2.2.1
      have rdd := rd_in e2.1 e2.2 e1.2.2.2
      rw [countR_good (by simp [g1, g2, g3])]
      refine Ev.step (fun k => by rw [impl_CountBy.j0]) ?_
      refine Ev.neg (by simp) ?_
      refine Ev.bindS rfl ?_
      refine Ev.pos (by simp; omega) ?_
      refine Ev.bindS rfl ?_
      refine Ev.bindS rfl ?_
      refine Ev.pos (by simp; omega) ?_
      refine Ev.bindS rfl ?_
      simp only [List.nil_append]
      refine Ev.cases (fun hge => Ev.pos e2.1 (Ev.pos (by omega) (Ev.bindS rfl ?_))) (fun hge => Ev.pos e2.1 (Ev.pos (by omega) (Ev.bindS rfl ?_)))
      · have ec : u.set a.toNat (wrap64 (rd u a + b)) = cntU u a b := by
          rw [w64 (by omega) (by omega)]; unfold cntU; rw [if_pos (by omega)]
        have ed : cntD d a b = d := by unfold cntD; rw [if_neg (by omega)]
        rw [ec, ed]
        refine Ev.bindS (impl_isCounter.ev _ _) (Ev.cases (fun g => Ev.some (by rw [if_pos g])) (fun g => Ev.some (by rw [if_neg g])))
      · have ec : d.set a.toNat (wrap64 (rd d a - b)) = cntD d a b := by
          rw [w64 (by omega) (by omega)]; unfold cntD
          split
          · rfl
          · rw [show b = 0 by omega, Int.sub_zero]; exact set_rd_self e2.1 (by omega)
        have ed : cntU u a b = u := by unfold cntU; rw [if_neg (by omega)]
        rw [ec, ed]
        refine Ev.bindS (impl_isCounter.ev _ _) (Ev.cases (fun g => Ev.some (by rw [if_pos g])) (fun g => Ev.some (by rw [if_neg g])))
  · exact no (by simp at g1; simp [g1])

/-- The drawing's bytes. -/
def inCur (l : List Int) : Prop := ∀ x ∈ l, 0 ≤ x ∧ x ≤ 255
theorem inCur_of {l : List Int} (h : ∀ x ∈ l, (Lit.int .u8 x).wf = true) : inCur l := by
  intro x hx
  have h' : IntKind.u8.min ≤ x ∧ x ≤ IntKind.u8.max := by simpa [Lit.wf] using h x hx
  exact h'
theorem and255 (z : Int) (h0 : 0 ≤ z) (h1 : z < 18446744073709551616) : 0 ≤ Go.bits .and .u64 z 255 ∧ Go.bits .and .u64 z 255 ≤ 255 := by
  obtain ⟨a, rfl⟩ : ∃ a : Nat, z = (a : Int) := ⟨z.toNat, by omega⟩
  have h := bits_and_u64_nat a 255 (by omega) (by omega)
  have : ((255 : Nat) : Int) = (255 : Int) := rfl
  rw [this] at h
  rw [h]
  have := Nat.and_le_right (n := a) (m := 255)
  omega
theorem wrapU_bound (n : Int) : 0 ≤ IntKind.u64.wrap n ∧ IntKind.u64.wrap n < 18446744073709551616 := by
  rw [IntKind.wrap_u64]; omega
theorem spec_l1Cur_next.ev {l : List Int} (hl : inCur l) {p : Int} (s : Int) (h0 : 0 ≤ p) (h1 : p ≤ 4611686018427387904) :
    ∃ r p' s', spec_l1Cur_next.f l p s = some (r, p', s') ∧ 0 ≤ r ∧ r ≤ 255 ∧ 0 ≤ p' ∧ p' ≤ p + 1 := by
  unfold spec_l1Cur_next.f
  have hp : wrap64 (p + 1) = p + 1 := w64 (by omega) (by omega)
  have far : ∀ z : Int, 0 ≤ wrap64 (Go.bits .and .u64 (IntKind.u64.wrap z / 1099511627776) 255) ∧ wrap64 (Go.bits .and .u64 (IntKind.u64.wrap z / 1099511627776) 255) ≤ 255 := by
    intro z
    have hb := wrapU_bound z
    have h := and255 (IntKind.u64.wrap z / 1099511627776) (by omega) (by omega)
    rw [w64 (by omega) (by omega)]; exact h
  rw [hp]
  by_cases c1 : p < (l.length : Int)
  · rw [if_pos c1, if_pos h0]
    have hr : 0 ≤ wrap64 (rd l p) ∧ wrap64 (rd l p) ≤ 255 := by
      obtain ⟨i, rfl⟩ : ∃ i : Nat, p = (i : Int) := ⟨p.toNat, by omega⟩
      have hi : i < l.length := by omega
      rw [rd_get hi]
      have := hl _ (List.getElem_mem hi)
      rw [w64 (by omega) (by omega)]; exact this
    by_cases c2 : p + 1 ≤ (l.length : Int)
    · rw [if_pos c2]; exact ⟨_, _, _, rfl, hr.1, hr.2, by omega, by omega⟩
    · rw [if_neg c2]; exact ⟨_, _, _, rfl, (far _).1, (far _).2, by omega, by omega⟩
  · rw [if_neg c1]
    by_cases c2 : p + 1 ≤ (l.length : Int)
    · rw [if_pos c2]; exact ⟨_, _, _, rfl, by omega, by omega, by omega, by omega⟩
    · rw [if_neg c2]; exact ⟨_, _, _, rfl, (far _).1, (far _).2, by omega, by omega⟩

theorem spec_l1Cur_pick.ev {l : List Int} (hl : inCur l) {p : Int} (s n : Int) (h0 : 0 ≤ p) (h1 : p ≤ 4611686018427387000) :
    ∃ r p' s', spec_l1Cur_pick.f l p s n = some (r, p', s') ∧ 0 ≤ r ∧ (1 ≤ n → r < n) ∧ 0 ≤ p' ∧ p' ≤ p + 2 := by
  unfold spec_l1Cur_pick.f
  by_cases c : n ≤ 1
  · rw [if_pos c]; exact ⟨_, _, _, rfl, by omega, by omega, h0, by omega⟩
  · rw [if_neg c]
    obtain ⟨r, p1, s1, e, r0, r1, q0, q1⟩ := spec_l1Cur_next.ev hl s h0 (by omega)
    rw [e]; simp only [Option.bind_some]
    by_cases c2 : n > 200
    · rw [if_pos c2]
      obtain ⟨r', p2, s2, e', r0', r1', q0', q1'⟩ := spec_l1Cur_next.ev hl s1 q0 (by omega)
      rw [e']; simp only [Option.bind_some]
      rw [if_neg (by omega), w64 (x := r * 256) (by omega) (by omega), w64 (by omega) (by omega)]
      exact ⟨_, _, _, rfl, Int.tmod_nonneg _ (by omega), fun _ => Int.tmod_lt_of_pos _ (by omega), q0', by omega⟩
    · rw [if_neg c2, if_neg (by omega)]
      exact ⟨_, _, _, rfl, Int.tmod_nonneg _ (by omega), fun _ => Int.tmod_lt_of_pos _ (by omega), q0, by omega⟩

theorem spec_l1Cur_among.ev {l : List Int} (hl : inCur l) {p : Int} (s : Int) (z : List Int) (h0 : 0 ≤ p) (h1 : p ≤ 4611686018427387000) (hz : 0 < z.length) :
    ∃ r p' s', spec_l1Cur_among.f l p s z = some (r, p', s') ∧ r ∈ z ∧ 0 ≤ p' ∧ p' ≤ p + 2 := by
  unfold spec_l1Cur_among.f
  obtain ⟨r, p1, s1, e, r0, r1, q0, q1⟩ := spec_l1Cur_pick.ev hl s z.length h0 h1
  have r1 := r1 (by omega)
  rw [e]; simp only [Option.bind_some]
  rw [if_pos r0, if_pos r1]
  refine ⟨_, _, _, rfl, ?_, q0, q1⟩
  obtain ⟨i, rfl⟩ : ∃ i : Nat, r = (i : Int) := ⟨r.toNat, by omega⟩
  have hi : i < z.length := by omega
  rw [rd_get hi]; exact List.getElem_mem hi

theorem countR_ok {u d : List Int} {a b : Int} (h : (countR u d a b).2.2 = true) : goodC u d = true ∧ inB a 0 5 = true ∧ goodC (cntU u a b) (cntD d a b) = true ∧ countR u d a b = (cntU u a b, cntD d a b, true) := by
  unfold countR at h ⊢
  by_cases c : (goodC u d && (inB a 0 5 && inB b (-1000) 1000)) = true
  · rw [if_pos c] at h ⊢
    by_cases c2 : goodC (cntU u a b) (cntD d a b) = true
    · rw [if_pos c2]
      simp only [Bool.and_eq_true] at c
      exact ⟨c.1, c.2.1, c2, rfl⟩
    · rw [if_neg c2] at h; cases h
  · rw [if_neg c] at h; cases h
theorem spec_l1Cur_counter.loop {l : List Int} (hl : inCur l) : ∀ (n : Nat) (u d : List Int) (p s : Int), u.length = 6 → d.length = 6 → 0 ≤ p → p + 4 * n ≤ 4611686018427386000 →
    ∃ u' d' p' s', Ev (fun k => spec_l1Cur_counter.l0 k (n : Int) l p s u d) (u', d', p', s') ∧ u'.length ≤ 6 ∧ d'.length ≤ 6 ∧ 0 ≤ p' ∧ p' ≤ p + 4 * n + 4
  | 0, u, d, p, s, hu, hd, h0, h1 => by
    obtain ⟨x, p1, s1, e1, x0, x1, q0, q1⟩ := spec_l1Cur_pick.ev hl s 40 h0 (by omega)
    by_cases c : x = 0
    · obtain ⟨y, p2, s2, e2, _, q2, q3⟩ := spec_l1Cur_among.ev hl s1 [(-1), 1000000, 1000001] q0 (by omega) (by simp)
      refine ⟨u.set 0 y, d, p2, s2, ?_, ?_, ?_, q2, by omega⟩
      · refine Ev.step (fun k => by rw [spec_l1Cur_counter.l0]) ?_
        refine Ev.neg (by omega) (Ev.bindS e1 (Ev.pos c (Ev.bindS e2 (Ev.pos (by omega) ?_))))
        exact Ev.now _
      · simp; omega
      · omega
    · by_cases c1 : x = 1
      · refine ⟨u, d.drop 1, p1, s1, ?_, ?_, ?_, q0, by omega⟩
        · refine Ev.step (fun k => by rw [spec_l1Cur_counter.l0]) ?_
          refine Ev.neg (by omega) (Ev.bindS e1 (Ev.neg c (Ev.pos c1 (Ev.pos (by omega) ?_))))
          exact Ev.now _
        · omega
        · simp; omega
      · refine ⟨u, d, p1, s1, ?_, ?_, ?_, q0, by omega⟩
        · refine Ev.step (fun k => by rw [spec_l1Cur_counter.l0]) ?_
          refine Ev.neg (by omega) (Ev.bindS e1 (Ev.neg c (Ev.neg c1 ?_)))
          exact Ev.now _
        · omega
        · omega
  | n + 1, u, d, p, s, hu, hd, h0, h1 => by
    obtain ⟨x, p1, s1, e1, x0, x1, q0, q1⟩ := spec_l1Cur_pick.ev hl s 6 h0 (by omega)
    obtain ⟨y, p2, s2, e2, y0, y1, q2, q3⟩ := spec_l1Cur_pick.ev hl s1 40 q0 (by omega)
    have hc := spec_CountBy.ev u d x (wrap64 (y - 15)) (by omega) (by omega)
    have ew : wrap64 (((n + 1 : Nat) : Int) - 1) = (n : Int) := by rw [w64 (by omega) (by omega)]; omega
    by_cases c : (countR u d x (wrap64 (y - 15))).2.2 = true
    · obtain ⟨_, _, _, e⟩ := countR_ok c
      obtain ⟨u', d', p', s', hr, r1, r2, r3, r4⟩ := spec_l1Cur_counter.loop hl n (countR u d x (wrap64 (y - 15))).1 (countR u d x (wrap64 (y - 15))).2.1 p2 s2 (by rw [e]; simp only []; rw [cntU_len]; exact hu) (by rw [e]; simp only []; rw [cntD_len]; exact hd) q2 (by omega)
      refine ⟨u', d', p', s', ?_, r1, r2, r3, by omega⟩
      refine Ev.step (fun k => by rw [spec_l1Cur_counter.l0]) ?_
      refine Ev.pos (by omega) (Ev.bindS e1 (Ev.bindS e2 (Ev.bind hc (Ev.pos c ?_))))
      rw [ew]
      exact hr
    · obtain ⟨u', d', p', s', hr, r1, r2, r3, r4⟩ := spec_l1Cur_counter.loop hl n u d p2 s2 hu hd q2 (by omega)
      refine ⟨u', d', p', s', ?_, r1, r2, r3, by omega⟩
      refine Ev.step (fun k => by rw [spec_l1Cur_counter.l0]) ?_
      refine Ev.pos (by omega) (Ev.bindS e1 (Ev.bindS e2 (Ev.bind hc (Ev.neg c ?_))))
      rw [ew]
      exact hr
theorem spec_l1Cur_counter.ev {l : List Int} (hl : inCur l) {p : Int} (s : Int) (h0 : 0 ≤ p) (h1 : p ≤ 4611686018427380000) :
    ∃ u d p' s', Ev (fun k => spec_l1Cur_counter.f k l p s) (u, d, p', s') ∧ u.length ≤ 6 ∧ d.length ≤ 6 ∧ 0 ≤ p' ∧ p' ≤ p + 40 := by
  unfold spec_l1Cur_counter.f
  obtain ⟨x, p1, s1, e1, x0, x1, q0, q1⟩ := spec_l1Cur_pick.ev hl s 6 h0 (by omega)
  have x1 := x1 (by omega)
  obtain ⟨n, rfl⟩ : ∃ n : Nat, x = (n : Int) := ⟨x.toNat, by omega⟩
  obtain ⟨u', d', p', s', hr, r1, r2, r3, r4⟩ := spec_l1Cur_counter.loop hl n (List.replicate 6 0) (List.replicate 6 0) p1 s1 (by simp) (by simp) q0 (by omega)
  exact ⟨u', d', p', s', Ev.pos (by omega) (Ev.bindS e1 hr), r1, r2, r3, by omega⟩

theorem spec_DrawMergeCounter.ev {l : List Int} (hl : inCur l) : ∃ u d u' d', Ev (fun k => spec_DrawMergeCounter.f k l) (u, d, u', d') ∧ u.length ≤ 6 ∧ d.length ≤ 6 ∧ u'.length ≤ 6 ∧ d'.length ≤ 6 := by
  obtain ⟨u, d, p, s, e, h1, h2, p0, p1⟩ := spec_l1Cur_counter.ev hl (p := 0) 0 (by omega) (by omega)
  obtain ⟨u', d', p', s', e', h3, h4, _, _⟩ := spec_l1Cur_counter.ev hl s p0 (by omega)
  exact ⟨u, d, u', d', by unfold spec_DrawMergeCounter.f; exact Ev.bind e (Ev.bind e' (Ev.now _)), h1, h2, h3, h4⟩

theorem spec_DrawCountBy.ev {l : List Int} (hl : inCur l) : ∃ u d a b, Ev (fun k => spec_DrawCountBy.f k l) (u, d, a, b) ∧ u.length ≤ 6 ∧ d.length ≤ 6 := by
  obtain ⟨u, d, p, s, e, h1, h2, p0, p1⟩ := spec_l1Cur_counter.ev hl (p := 0) 0 (by omega) (by omega)
  obtain ⟨x, p1, s1, e1, x0, x1, q0, q1⟩ := spec_l1Cur_pick.ev hl s 8 p0 (by omega)
  obtain ⟨y, p2, s2, e2, y0, y1, q2, q3⟩ := spec_l1Cur_pick.ev hl s1 2100 q0 (by omega)
  exact ⟨u, d, _, _, by unfold spec_DrawCountBy.f; exact Ev.bind e (Ev.bindS e1 (Ev.bindS e2 (Ev.now _))), h1, h2⟩

theorem laws_sameInts.refl (l : List Int) (hl : l.length ≤ 1048576) : Ev (fun k => laws_sameInts.f k l l) true := by
  unfold laws_sameInts.f
  refine Ev.pos rfl (Ev.eq (Ev.up (g := fun k i => laws_sameInts.l0 k l l (l.length : Int) i) l.length (fun _ => true) ?_) rfl)
  intro i hi ih
  refine Ev.step (fun k => by rw [laws_sameInts.l0]) ?_
  by_cases hlt : i < l.length
  · rw [w64_succ hlt (by omega)]
    exact Ev.pos (by omega) (Ev.pos (by omega) (Ev.pos (by omega) (Ev.pos (by omega) (Ev.pos rfl (ih hlt)))))
  · exact Ev.neg (by omega) (Ev.now _)

theorem laws_sameCounters.refl (u d : List Int) (hu : u.length ≤ 1048576) (hd : d.length ≤ 1048576) : Ev (fun k => laws_sameCounters.f k u d u d) true := by
  unfold laws_sameCounters.f
  exact Ev.bind (laws_sameInts.refl u hu) (Ev.pos rfl (Ev.bind (laws_sameInts.refl d hd) (Ev.now _)))

theorem mx_comm (a b : Int) : mx a b = mx b a := by unfold mx; omega
theorem mx_self (a : Int) : mx a a = a := by unfold mx; omega
theorem mx_assoc (a b c : Int) : mx (mx a b) c = mx a (mx b c) := by unfold mx; omega
theorem zip_comm : ∀ a b : List Int, List.zipWith mx a b = List.zipWith mx b a
  | [], [] => rfl
  | [], _ :: _ => rfl
  | _ :: _, [] => rfl
  | x :: a, y :: b => by simp only [List.zipWith]; rw [mx_comm, zip_comm a b]
theorem zip_self : ∀ a : List Int, List.zipWith mx a a = a
  | [] => rfl
  | x :: a => by simp only [List.zipWith]; rw [mx_self, zip_self a]
theorem zip_assoc : ∀ a b c : List Int, List.zipWith mx (List.zipWith mx a b) c = List.zipWith mx a (List.zipWith mx b c)
  | [], [], _ => by simp
  | [], _ :: _, _ => by simp
  | _ :: _, [], [] => by simp
  | _ :: _, [], _ :: _ => by simp
  | _ :: _, _ :: _, [] => by simp
  | x :: a, y :: b, z :: c => by simp only [List.zipWith]; rw [mx_assoc, zip_assoc a b c]
theorem rd_zip {a b : List Int} {i : Nat} (h : i < a.length) (h' : i < b.length) : rd (List.zipWith mx a b) (i : Int) = mx (rd a i) (rd b i) := by
  rw [rd_get (by rw [List.length_zipWith]; omega), rd_get h, rd_get h', List.getElem_zipWith]
theorem goodC_zip {u d u' d' : List Int} (h : goodC u d = true) (h' : goodC u' d' = true) : goodC (List.zipWith mx u u') (List.zipWith mx d d') = true := by
  obtain ⟨a1, a2, a3, a4⟩ := goodC_at h
  obtain ⟨b1, b2, b3, b4⟩ := goodC_at h'
  refine goodC_of (by rw [List.length_zipWith]; omega) (by rw [List.length_zipWith]; omega) (fun i hi => ?_) (fun i hi => ?_)
  · rw [rd_zip (by omega) (by omega)]
    have := a3 i hi
    have := b3 i hi
    unfold mx; omega
  · rw [rd_zip (by omega) (by omega)]
    have := a4 i hi
    have := b4 i hi
    unfold mx; omega
theorem mergeR_good {u d u' d' : List Int} (h : goodC u d = true) (h' : goodC u' d' = true) : mergeR u d u' d' = (List.zipWith mx u u', List.zipWith mx d d', true) := by unfold mergeR; rw [h, h']; rfl
theorem mergeR_ok {u d u' d' : List Int} (h : (mergeR u d u' d').2.2 = true) : goodC u d = true ∧ goodC u' d' = true := by
  unfold mergeR at h
  by_cases c : (goodC u d && goodC u' d') = true
  · simpa using c
  · rw [if_neg c] at h; cases h
theorem rd_set {l : List Int} {a v : Int} {i : Nat} (h0 : 0 ≤ a) (hi : i < l.length) : rd (l.set a.toNat v) (i : Int) = if (i : Int) = a then v else rd l i := by
  rw [rd_get (by simpa using hi), List.getElem_set]
  by_cases c : (i : Int) = a
  · rw [if_pos c, if_pos (by omega)]
  · rw [if_neg c, if_neg (by omega), rd_get hi]
theorem rd_cntU {u : List Int} {a b : Int} {i : Nat} (h0 : 0 ≤ a) (hi : i < u.length) : rd (cntU u a b) (i : Int) = rd u i + (if (i : Int) = a ∧ 0 < b then b else 0) := by
  unfold cntU
  by_cases c : 0 < b
  · rw [if_pos c, rd_set h0 hi]
    by_cases e : (i : Int) = a
    · rw [if_pos e, if_pos ⟨e, c⟩, e]
    · rw [if_neg e, if_neg (fun h => e h.1)]; omega
  · rw [if_neg c, if_neg (fun h => c h.2)]; omega
theorem rd_cntD {u : List Int} {a b : Int} {i : Nat} (h0 : 0 ≤ a) (hi : i < u.length) : rd (cntD u a b) (i : Int) = rd u i - (if (i : Int) = a ∧ b < 0 then b else 0) := by
  unfold cntD
  by_cases c : b < 0
  · rw [if_pos c, rd_set h0 hi]
    by_cases e : (i : Int) = a
    · rw [if_pos e, if_pos ⟨e, c⟩, e]
    · rw [if_neg e, if_neg (fun h => e h.1)]; omega
  · rw [if_neg c, if_neg (fun h => c h.2)]; omega
theorem zip_ge : ∀ a b : List Int, a.length = b.length → (∀ i : Nat, i < a.length → rd a i ≤ rd b i) → List.zipWith mx a b = b := by
  intro a b h hle
  apply List.ext_getElem
  · rw [List.length_zipWith]; omega
  · intro i h1 h2
    rw [List.getElem_zipWith]
    have h3 : i < a.length := by omega
    have := hle i h3
    rw [rd_get h3, rd_get h2] at this
    unfold mx; omega
theorem sumTo_add {f g : Nat → Int} : ∀ n, sumTo (fun i => f i + g i) n = sumTo f n + sumTo g n
  | 0 => rfl
  | n + 1 => by simp only [sumTo]; rw [sumTo_add n]; omega
theorem sumTo_one {a b : Int} (h0 : 0 ≤ a) (h5 : a ≤ 5) : sumTo (fun i => if (i : Int) = a then b else 0) 6 = b := by
  simp only [sumTo]
  rcases (by omega : a = 0 ∨ a = 1 ∨ a = 2 ∨ a = 3 ∨ a = 4 ∨ a = 5) with rfl | rfl | rfl | rfl | rfl | rfl <;> simp
theorem val_cnt {u d : List Int} {a b : Int} (hu : u.length = 6) (hd : d.length = 6) (h0 : 0 ≤ a) (h5 : a ≤ 5) : valC (cntU u a b) (cntD d a b) 6 = valC u d 6 + b := by
  unfold valC
  rw [sumTo_congr (g := fun i => (rd u i - rd d i) + (if (i : Int) = a then b else 0)), sumTo_add, sumTo_one h0 h5]
  intro i hi
  rw [rd_cntU h0 (by omega), rd_cntD h0 (by omega)]
  by_cases e : (i : Int) = a
  · rw [if_pos e]
    by_cases c : 0 < b
    · rw [if_pos ⟨e, c⟩, if_neg (by omega)]; omega
    · by_cases c2 : b < 0
      · rw [if_neg (by omega), if_pos ⟨e, c2⟩]; omega
      · rw [if_neg (by omega), if_neg (by omega)]; omega
  · rw [if_neg e, if_neg (fun h => e h.1), if_neg (fun h => e h.1)]; omega
section law
variable (u d u' d' uc dc : List Int)
theorem law_j3 (x : Bool) (hx : x = false → goodC u d = true ∧ goodC u' d' = true ∧ goodC uc dc = true) :
    Ev (fun k => laws_FnCounters.j3 k x u d u' d' uc dc (mergeR u d u' d').1 (mergeR u d u' d').2.1) true := by
  refine Ev.step (fun k => by rw [laws_FnCounters.j3]) ?_
  cases x with
  | true => exact Ev.pos rfl (Ev.now _)
  | false =>
    obtain ⟨g1, g2, g3⟩ := hx rfl
    have a := goodC_at g1
    have b := goodC_at g2
    have c := goodC_at g3
    have gm := goodC_zip g1 g2
    have gb := goodC_zip g2 g3
    have m := goodC_at gm
    have n := goodC_at gb
    rw [mergeR_good g1 g2]
    refine Ev.neg (by simp) ?_
    refine Ev.bind (impl_MergeCounter.ev u' d' u d (by omega) (by omega) (by omega) (by omega)) ?_
    refine Ev.bind (impl_MergeCounter.ev _ _ _ _ (by dsimp only; omega) (by dsimp only; omega) (by dsimp only; omega) (by dsimp only; omega)) ?_
    refine Ev.bind (impl_MergeCounter.ev _ _ uc dc (by dsimp only; omega) (by dsimp only; omega) (by omega) (by omega)) ?_
    refine Ev.bind (impl_MergeCounter.ev u' d' uc dc (by omega) (by omega) (by omega) (by omega)) ?_
    have e4 := mergeR_good g2 g3
    have l4 := mergeR_len u' d' uc dc
    refine Ev.bind (impl_MergeCounter.ev u d _ _ (by omega) (by omega) (by omega) (by omega)) ?_
    dsimp only
    rw [mergeR_good g2 g1, mergeR_good gm gm, mergeR_good gm g3, e4, mergeR_good g1 gb]
    refine Ev.pos rfl (Ev.pos rfl (Ev.pos rfl (Ev.pos rfl (Ev.pos rfl ?_))))
    dsimp only
    rw [zip_comm u' u, zip_comm d' d, zip_self, zip_self, zip_assoc, zip_assoc]
    have hl := goodC_at (goodC_zip g1 gb)
    exact Ev.bind (laws_sameCounters.refl _ _ (by omega) (by omega)) (Ev.pos rfl (Ev.bind (laws_sameCounters.refl _ _ (by omega) (by omega)) (Ev.pos rfl (Ev.bind (laws_sameCounters.refl _ _ (by omega) (by omega)) (Ev.now _)))))
theorem law_j2 (hc1 : uc.length ≤ 6) (hc2 : dc.length ≤ 6) : Ev (fun k => laws_FnCounters.j2 k (mergeR u d u' d').2.2 u d u' d' uc dc (mergeR u d u' d').1 (mergeR u d u' d').2.1) true := by
  refine Ev.step (fun k => by rw [laws_FnCounters.j2]) ?_
  refine Ev.cases (fun h => Ev.bind (spec_GoodCounter.ev uc dc (by omega) (by omega)) ?_) (fun h => law_j3 u d u' d' uc dc true (fun h => by cases h))
  have g := mergeR_ok h
  exact law_j3 u d u' d' uc dc _ (fun h => ⟨g.1, g.2, by simpa using h⟩)
end law
theorem holds_ev (l0 l1 : List Int) (h0 : inCur l0) (h1 : inCur l1) : Ev (fun k => laws_FnCounters.f k l0 l1) true := by
  unfold laws_FnCounters.f
  refine Ev.cases (fun _ => Ev.now _) (fun _ => ?_)
  obtain ⟨u, d, u', d', e1, q1, q2, q3, q4⟩ := spec_DrawMergeCounter.ev h0
  obtain ⟨uc, dc, a, b, e2, q5, q6⟩ := spec_DrawCountBy.ev h1
  have lm := mergeR_len u d u' d'
  have j2 := law_j2 u d u' d' uc dc q5 q6
  refine Ev.bind e1 (Ev.bind e2 (Ev.bind (impl_MergeCounter.ev u d u' d' (by omega) (by omega) (by omega) (by omega)) (Ev.bind (spec_MergeCounter.ev u d u' d' (by omega) (by omega) (by omega) (by omega)) ?_)))
  generalize mergeR u d u' d' = M at lm j2
  refine Ev.neg (by simp) (Ev.bind (laws_sameCounters.refl _ _ (by omega) (by omega)) ?_)
  refine Ev.step (fun k => by rw [laws_FnCounters.j0]) ?_
  refine Ev.neg (by simp) (Ev.bind (impl_CountBy.ev uc dc a b (by omega) (by omega)) (Ev.bind (spec_CountBy.ev uc dc a b (by omega) (by omega)) ?_))
  have lc := countR_len uc dc a b
  refine Ev.neg (by simp) (Ev.bind (laws_sameCounters.refl _ _ (by omega) (by omega)) ?_)
  refine Ev.step (fun k => by rw [laws_FnCounters.j1]) ?_
  refine Ev.neg (by simp) (Ev.cases (fun hk => ?_) (fun _ => j2))
  obtain ⟨g1, ga, g2, e⟩ := countR_ok hk
  have ga := inB_iff.1 ga
  have c1 := goodC_at g1
  have c2 := goodC_at g2
  rw [e]
  refine Ev.bind (impl_ValueOf.ev uc dc) (Ev.bind (impl_ValueOf.ev _ _) (Ev.bind (impl_MergeCounter.ev uc dc _ _ (by omega) (by omega) (by dsimp only; omega) (by dsimp only; omega)) ?_))
  dsimp only
  rw [mergeR_good g1 g2]
  have v1 : valueC uc dc = (valC uc dc 6, true) := by unfold valueC; rw [if_pos g1]
  have v2 : valueC (cntU uc a b) (cntD dc a b) = (valC uc dc 6 + b, true) := by unfold valueC; rw [if_pos g2, val_cnt c1.1 c1.2.1 ga.1 ga.2]
  have bnd := valC_bound g2 6 (by omega)
  rw [val_cnt c1.1 c1.2.1 ga.1 ga.2] at bnd
  rw [v1, v2]
  refine Ev.pos rfl (Ev.pos rfl (Ev.pos rfl (Ev.pos ?_ ?_)))
  · dsimp only; rw [w64 (by omega) (by omega)]
  · dsimp only
    rw [zip_ge uc (cntU uc a b) (by rw [cntU_len]) (fun i hi => by rw [rd_cntU ga.1 hi]; split <;> omega), zip_ge dc (cntD dc a b) (by rw [cntD_len]) (fun i hi => by rw [rd_cntD ga.1 hi]; split <;> omega)]
    exact Ev.bind (laws_sameCounters.refl _ _ (by omega) (by omega)) (Ev.pos rfl j2)

end Go.Proofs.Ytcloilddgimamaa.PFC
namespace Go.Proofs.Ytcloilddgimamaa.Pure
open Go.RowKit Go.Proofs.Ytcloilddgimamaa.PFC Go.Proofs.Ytcloilddgimamaa.Base Go.Proofs.YtcloilddgimamaaW.PrintWords Go.Proofs.YtcloilddgimamaaW.PrintLast
theorem FnCounters : laws_FnCounters.Pure := by
  intro l0 l1 _ _ h0 _ _ h1
  exact (holds_ev l0 l1 (inCur_of h0) (inCur_of h1)).rounds
end Go.Proofs.Ytcloilddgimamaa.Pure
