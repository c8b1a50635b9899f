/- What this text proves: laws.FnExactMergeLatest, told as plain functions of numbers and lists, answers true for all arguments.
   Conditions: the bounds that the typed reading gives. -/
import Derived.Test.YtcloilddgimamaaPMx4
import Derived.Test.YtcloilddgimamaaOpen
import Derived.Test.YtcloilddgimamaaBase
namespace Go.Proofs.Ytcloilddgimamaa.PM
open Go.RowKit Go.Proofs.Ytcloilddgimamaa.Base Go.Proofs.Ytcloilddgimamaa.Open Go.Proofs.YtcloilddgimamaaW.PrintWords Go.Proofs.YtcloilddgimamaaW.PrintLast Go.Proofs.YtcloilddgimamaaW.PrintMore
set_option linter.unusedVariables false
set_option linter.unusedSimpArgs false
theorem laws_szLatest.ev (v : ByteArray) (t a : Int) (q : Int) (h0 : 0 ≤ q) (h1 : q ≤ 1048576) (hs : v.size ≤ 9223372036854775807) : laws_szLatest.f v t a q = some (if q < v.size then -1 else q - v.size) := by
  unfold laws_szLatest.f
  rw [w64 (by omega) (by omega)]
  by_cases h : q < v.size
  · rw [if_pos (by omega), if_pos h]
  · rw [if_neg (by omega), if_neg h]

theorem spec_l1In.ev (n a b : Int) : spec_l1In.f n a b = some (inB n a b) := by
  unfold spec_l1In.f inB
  by_cases h : a ≤ n
  · rw [if_pos h]; simp [h]
  · rw [if_neg h]; simp [h]

/-- Byte i of a text may stand in a value. -/
def okByte (s : ByteArray) (i : Nat) : Bool := decide (32 ≤ bt s i) && decide (bt s i ≤ 126) && !decide (bt s i = 59)
/-- A value. -/
def okVal (s : ByteArray) : Bool := allFrom (okByte s) s.size 0 && decide (s.size ≤ 20)
theorem spec_l1Value.ev (s : ByteArray) (hs : s.size ≤ 9223372036854775807) : Ev (fun k => spec_l1Value.f k s) (okVal s) := by
  unfold spec_l1Value.f okVal
  refine Ev.eq (Ev.up (g := fun k i => spec_l1Value.l0 k s i) s.size (fun i => allFrom (okByte s) s.size i && decide (s.size ≤ 20)) ?_) rfl
  intro i hi ih
  refine Ev.step (fun k => by rw [spec_l1Value.l0]) ?_
  by_cases hlt : i < s.size
  · refine Ev.pos (by omega) (Ev.pos (by omega) ?_)
    rw [allFrom_step hlt, w64_succ hlt hs]
    have ih := ih hlt
    generalize allFrom (okByte s) s.size (i + 1) = q at ih ⊢
    unfold okByte
    refine Ev.cases (fun h => Ev.some (by rw [decide_eq_false (by omega : ¬ 32 ≤ bt s i)]; rfl)) (fun h1 => ?_)
    refine Ev.cases (fun h => Ev.some (by rw [decide_eq_false (by omega : ¬ bt s i ≤ 126)]; simp)) (fun h2 => ?_)
    refine Ev.cases (fun h => Ev.some (by rw [decide_eq_true h]; simp)) (fun h3 => Ev.eq ih ?_)
    rw [decide_eq_true (by omega : 32 ≤ bt s i), decide_eq_true (by omega : bt s i ≤ 126), decide_eq_false h3]; simp
  · have : i = s.size := by omega
    subst this
    refine Ev.neg (by omega) (Ev.some ?_)
    rw [allFrom_end, Bool.true_and]
    exact decide_eq_decide.2 (by omega)

def okLatest (v : ByteArray) (t a : Int) : Bool := okVal v && inB t 0 1000000 && inB a 0 5
theorem spec_l14Latest.ev (v : ByteArray) (t a : Int) (hs : v.size ≤ 9223372036854775807) : Ev (fun k => spec_l14Latest.f k v t a) (okLatest v t a) := by
  unfold spec_l14Latest.f okLatest
  refine Ev.bind (spec_l1Value.ev v hs) (Ev.cases (fun h1 => ?_) (fun h1 => Ev.some (by simp at h1; simp [h1])))
  refine Ev.bindS (spec_l1In.ev _ _ _) (Ev.cases (fun h2 => ?_) (fun h2 => Ev.some (by simp at h2; simp [h2])))
  exact Ev.bindS (spec_l1In.ev _ _ _) (Ev.some (by rw [h1, h2]; rfl))

/-- The first latest one comes ahead of the second. -/
def beats (v : ByteArray) (t a : Int) (v' : ByteArray) (t' a' : Int) : Bool :=
  decide (t > t') || (decide (t = t') && (decide (a > a') || (decide (a = a') && !(Op.bytesLess v.toList v'.toList))))
def mergeL (v : ByteArray) (t a : Int) (v' : ByteArray) (t' a' : Int) : ByteArray × Int × Int × Bool :=
  if okLatest v t a && okLatest v' t' a' then (if beats v t a v' t' a' then (v, t, a, true) else (v', t', a', true)) else (⟨#[]⟩, 0, 0, false)
theorem spec_MergeLatest.ev (v : ByteArray) (t a : Int) (v' : ByteArray) (t' a' : Int) (hs : v.size ≤ 9223372036854775807) (hs' : v'.size ≤ 9223372036854775807) : Ev (fun k => spec_MergeLatest.f k v t a v' t' a') (mergeL v t a v' t' a') := by
  have hj : Ev (fun k => spec_MergeLatest.j0 k true v t a v' t' a') (⟨#[]⟩, 0, 0, false) := Ev.step (fun k => by rw [spec_MergeLatest.j0]) (Ev.pos rfl (Ev.now _))
  unfold spec_MergeLatest.f mergeL
  refine Ev.bind (spec_l14Latest.ev v t a hs) (Ev.cases (fun h1 => ?_) (fun h1 => Ev.eq hj (by simp at h1; simp [h1])))
  refine Ev.bind (spec_l14Latest.ev v' t' a' hs') ?_
  cases h2 : okLatest v' t' a' with
  | false => exact Ev.eq hj (by simp)
  | true =>
    rw [h1]
    refine Ev.step (fun k => by rw [spec_MergeLatest.j0]) (Ev.neg (by simp) ?_)
    unfold beats
    refine Ev.cases (fun h => Ev.some (by rw [decide_eq_true h]; rfl)) (fun h3 => ?_)
    refine Ev.cases (fun h4 => ?_) (fun h4 => Ev.some (by rw [decide_eq_false h3, decide_eq_false h4]; rfl))
    refine Ev.cases (fun h => Ev.some (by rw [decide_eq_false h3, decide_eq_true h4, decide_eq_true h]; rfl)) (fun h5 => ?_)
    refine Ev.cases (fun h6 => ?_) (fun h6 => Ev.some (by rw [decide_eq_false h3, decide_eq_true h4, decide_eq_false h5, decide_eq_false h6]; rfl))
    refine Ev.cases (fun h7 => Ev.some ?_) (fun h7 => Ev.some ?_)
    · rw [decide_eq_false h3, decide_eq_true h4, decide_eq_false h5, decide_eq_true h6, h7]; rfl
    · rw [decide_eq_false h3, decide_eq_true h4, decide_eq_false h5, decide_eq_true h6, Bool.eq_false_iff.2 h7]; rfl

theorem impl_in.ev (n a b : Int) : impl_in.f n a b = some (inB n a b) := by
  unfold impl_in.f inB
  by_cases h : a ≤ n
  · rw [if_pos h]; simp [h]
  · rw [if_neg h]; simp [h]

theorem impl_isValue.ev (s : ByteArray) (hs : s.size ≤ 9223372036854775807) : Ev (fun k => impl_isValue.f k s) (okVal s) := by
  unfold impl_isValue.f okVal
  refine Ev.eq (Ev.up (g := fun k i => impl_isValue.l0 k s (s.size : Int) i) s.size (fun i => allFrom (okByte s) s.size i && decide (s.size ≤ 20)) ?_) rfl
  intro i hi ih
  refine Ev.step (fun k => by rw [impl_isValue.l0]) ?_
  by_cases hlt : i < s.size
  · refine Ev.pos (by omega) (Ev.pos (by omega) (Ev.pos (by omega) ?_))
    rw [allFrom_step hlt, w64_succ hlt hs]
    have ih := ih hlt
    generalize allFrom (okByte s) s.size (i + 1) = q at ih ⊢
    unfold okByte
    refine Ev.cases (fun h => Ev.some (by rw [decide_eq_false (by omega : ¬ 32 ≤ bt s i)]; rfl)) (fun h1 => ?_)
    refine Ev.cases (fun h => Ev.some (by rw [decide_eq_false (by omega : ¬ bt s i ≤ 126)]; simp)) (fun h2 => ?_)
    refine Ev.cases (fun h => Ev.some (by rw [decide_eq_true h]; simp)) (fun h3 => Ev.eq ih ?_)
    rw [decide_eq_true (by omega : 32 ≤ bt s i), decide_eq_true (by omega : bt s i ≤ 126), decide_eq_false h3]; simp
  · have : i = s.size := by omega
    subst this
    refine Ev.neg (by omega) (Ev.some ?_)
    rw [allFrom_end, Bool.true_and]
    exact decide_eq_decide.2 (by omega)

theorem impl_isLatest.ev (v : ByteArray) (t a : Int) (hs : v.size ≤ 9223372036854775807) : Ev (fun k => impl_isLatest.f k v t a) (okLatest v t a) := by
  unfold impl_isLatest.f okLatest
  refine Ev.bind (impl_isValue.ev v hs) (Ev.cases (fun h1 => ?_) (fun h1 => Ev.some (by simp at h1; simp [h1])))
  refine Ev.bindS (impl_in.ev _ _ _) (Ev.cases (fun h2 => ?_) (fun h2 => Ev.some (by simp at h2; simp [h2])))
  exact Ev.bindS (impl_in.ev _ _ _) (Ev.some (by rw [h1, h2]; rfl))

/-- The first number that is not 0. -/
def orI : List Int → Int
  | [] => 0
  | x :: r => if x = 0 then orI r else x
theorem cmp_Or_int.ev (l : List Int) (hl : l.length ≤ 9223372036854775807) : Ev (fun k => cmp_Or_int.f k l) (orI l) := by
  unfold cmp_Or_int.f
  refine Ev.eq (Ev.up (g := fun k i => cmp_Or_int.l0 k 0 l (l.length : Int) i) l.length (fun i => orI (l.drop i)) ?_) rfl
  intro i hi ih
  refine Ev.step (fun k => by rw [cmp_Or_int.l0]) ?_
  by_cases hlt : i < l.length
  · have e : orI (l.drop i) = if l[i] = 0 then orI (l.drop (i + 1)) else l[i] := by
      rw [List.drop_eq_getElem_cons hlt]; rfl
    refine Ev.pos (by omega) (Ev.pos (by omega) (Ev.pos (by omega) ?_))
    rw [rd_get hlt, w64_succ hlt hl, e]
    exact Ev.cases (fun h => Ev.eq (ih hlt) (by rw [if_pos h])) (fun h => Ev.some (by rw [if_neg h]))
  · have : i = l.length := by omega
    subst this
    exact Ev.neg (by omega) (Ev.some (by simp [orI]))

def cmpI (a b : Int) : Int := if a < b then -1 else if a > b then 1 else 0
theorem cmp_Compare_int.ev (a b : Int) : cmp_Compare_int.f a b = some (cmpI a b) := by
  unfold cmp_Compare_int.f cmp_isNaN_int.f cmpI
  simp only [Option.bind_some, bne_self_eq_false]
  rw [if_neg (by simp), if_neg (by simp)]
  split
  · rfl
  · split <;> rfl

def cmpS (a b : ByteArray) : Int := if Op.bytesLess a.toList b.toList = true then -1 else if Op.bytesLess b.toList a.toList = true then 1 else 0
theorem cmp_Compare_string.ev (a b : ByteArray) : cmp_Compare_string.f a b = some (cmpS a b) := by
  unfold cmp_Compare_string.f cmp_isNaN_string.f cmpS
  simp only [Option.bind_some, bne_self_eq_false]
  rw [if_neg (by simp), if_neg (by simp)]
  split
  · rfl
  · split <;> rfl

theorem orI_beats (v : ByteArray) (t a : Int) (v' : ByteArray) (t' a' : Int) : decide (orI [cmpI t t', cmpI a a', cmpS v v'] < 0) = !(beats v t a v' t' a') := by
  unfold beats orI cmpI
  rcases Int.lt_trichotomy t t' with h | h | h
  · simp [h]; omega
  · subst h
    simp
    unfold orI
    rcases Int.lt_trichotomy a a' with h | h | h
    · simp [h]; omega
    · subst h
      simp
      unfold orI cmpS
      by_cases h1 : Op.bytesLess v.toList v'.toList = true
      · simp [h1]
      · by_cases h2 : Op.bytesLess v'.toList v.toList = true
        · simp [h1, h2]
        · simp [h1, h2, orI]
    · have : ¬ a < a' := by omega
      simp [h, this]
  · have : ¬ t < t' := by omega
    simp [h, this]
theorem impl_MergeLatest.ev (v : ByteArray) (t a : Int) (v' : ByteArray) (t' a' : Int) (hs : v.size ≤ 9223372036854775807) (hs' : v'.size ≤ 9223372036854775807) : Ev (fun k => impl_MergeLatest.f k v t a v' t' a') (mergeL v t a v' t' a') := by
  have hj : Ev (fun k => impl_MergeLatest.j0 k true v t a v' t' a') (⟨#[]⟩, 0, 0, false) := Ev.step (fun k => by rw [impl_MergeLatest.j0]) (Ev.pos rfl (Ev.now _))
  unfold impl_MergeLatest.f mergeL
  refine Ev.bind (impl_isLatest.ev v t a hs) (Ev.cases (fun h1 => ?_) (fun h1 => Ev.eq hj (by simp at h1; simp [h1])))
  refine Ev.bind (impl_isLatest.ev v' t' a' hs') ?_
  cases h2 : okLatest v' t' a' with
  | false => exact Ev.eq hj (by simp)
  | true =>
    rw [h1]
    refine Ev.step (fun k => by rw [impl_MergeLatest.j0]) (Ev.neg (by simp) ?_)
    refine Ev.bindS (cmp_Compare_int.ev _ _) (Ev.bindS (cmp_Compare_int.ev _ _) (Ev.bindS (cmp_Compare_string.ev _ _) (Ev.bind (cmp_Or_int.ev _ (by simp)) ?_)))
    have e := orI_beats v t a v' t' a'
    refine Ev.cases (fun h => Ev.some ?_) (fun h => Ev.some ?_)
    · rw [decide_eq_true h] at e
      have : beats v t a v' t' a' = false := by simpa using e.symm
      rw [this]; rfl
    · rw [decide_eq_false h] at e
      have : beats v t a v' t' a' = true := by simpa using e.symm
      rw [this]; rfl

theorem holds_ev (v : ByteArray) (t a : Int) (v' : ByteArray) (t' a' : Int) (hs : v.size ≤ 9223372036854775807) (hs' : v'.size ≤ 9223372036854775807) : Ev (fun k => laws_FnExactMergeLatest.f k v t a v' t' a') true := by
  unfold laws_FnExactMergeLatest.f
  refine Ev.bindS (laws_szLatest.ev _ _ _ _ (by omega) (by omega) hs) (Ev.cases (fun _ => Ev.now _) (fun hn => ?_))
  have hv : ¬ (1048576 : Int) < v.size := fun h => by rw [if_pos h] at hn; omega
  rw [if_neg hv]
  refine Ev.bindS (laws_szLatest.ev _ _ _ _ (by omega) (by omega) hs') (Ev.cases (fun _ => Ev.now _) (fun hn' => ?_))
  refine Ev.bindS rfl (Ev.bindS rfl (Ev.bind (spec_MergeLatest.ev _ _ _ _ _ _ hs hs') (Ev.bindS rfl (Ev.bindS rfl (Ev.bind (impl_MergeLatest.ev _ _ _ _ _ _ hs hs') ?_)))))
  refine Ev.bindS (show laws_eqLatest.f _ _ _ _ _ _ = some true by unfold laws_eqLatest.f; rw [if_pos rfl, if_pos rfl, if_pos rfl]) ?_
  exact Ev.pos rfl (Ev.neg (by simp) (Ev.now _))

end Go.Proofs.Ytcloilddgimamaa.PM
namespace Go.Proofs.Ytcloilddgimamaa.PureFnExactMergeLatest
open Go.RowKit Go.Proofs.Ytcloilddgimamaa.PM Go.Proofs.Ytcloilddgimamaa.Base Go.Proofs.Ytcloilddgimamaa.Open Go.Proofs.YtcloilddgimamaaW.PrintWords Go.Proofs.YtcloilddgimamaaW.PrintLast
theorem holds (a0_0 : ByteArray) (a0_1 : Int) (a0_2 : Int) (a1_0 : ByteArray) (a1_1 : Int) (a1_2 : Int) (w0 : (a0_0.size ≤ 9223372036854775807 ∧ (Lit.int .i64 a0_1).wf = true ∧ (Lit.int .i64 a0_2).wf = true)) (w1 : (a1_0.size ≤ 9223372036854775807 ∧ (Lit.int .i64 a1_1).wf = true ∧ (Lit.int .i64 a1_2).wf = true)) : ∃ k, Go.Proofs.Ytcloilddgimamaa.PM.laws_FnExactMergeLatest.f k a0_0 a0_1 a0_2 a1_0 a1_1 a1_2 = some true := by
  exact (holds_ev _ _ _ _ _ _ w0.1 w1.1).rounds
end Go.Proofs.Ytcloilddgimamaa.PureFnExactMergeLatest
