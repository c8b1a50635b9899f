/- What this text proves: laws.FnLatest, told as plain functions of numbers and lists, answers true for all arguments.
   Conditions: the bounds that the typed reading gives. -/
import Derived.Test.YtcloilddgimamaaPLAx6
import Derived.Test.YtcloilddgimamaaBase
import Derived.Laws.BitsLemmas
import Derived.Laws.Bits64b
namespace Go.Proofs.Ytcloilddgimamaa.PLA
open Go.RowKit Go.Proofs.Ytcloilddgimamaa.Base Go.Proofs.YtcloilddgimamaaW.PrintWords Go.Proofs.YtcloilddgimamaaW.PrintLast Go.Proofs.YtcloilddgimamaaW.PrintMore
set_option linter.unusedVariables false
set_option linter.unusedSimpArgs false
theorem spec_l1In.ev (n a b : Int) : spec_l1In.f n a b = some (inB n a b) := by
  unfold spec_l1In.f inB
  by_cases h : a ≤ n
  · rw [if_pos h]; simp [h]
  · rw [if_neg h]; simp [h]

/-- Byte i of a text may stand in a value. -/
def okByte (s : ByteArray) (i : Nat) : Bool := decide (32 ≤ bt s i) && decide (bt s i ≤ 126) && !decide (bt s i = 59)
/-- A value. -/
def okVal (s : ByteArray) : Bool := allFrom (okByte s) s.size 0 && decide (s.size ≤ 20)
theorem spec_l1Value.ev (s : ByteArray) (hs : s.size ≤ 9223372036854775807) : Ev (fun k => spec_l1Value.f k s) (okVal s) := by
  unfold spec_l1Value.f okVal
  refine Ev.eq (Ev.up (g := fun k i => spec_l1Value.l0 k s i) s.size (fun i => allFrom (okByte s) s.size i && decide (s.size ≤ 20)) ?_) rfl
  intro i hi ih
  refine Ev.step (fun k => by rw [spec_l1Value.l0]) ?_
  by_cases hlt : i < s.size
  · refine Ev.pos (by omega) (Ev.pos (by omega) ?_)
    rw [allFrom_step hlt, w64_succ hlt hs]
    have ih := ih hlt
    generalize allFrom (okByte s) s.size (i + 1) = q at ih ⊢
    unfold okByte
    refine Ev.cases (fun h => Ev.some (by rw [decide_eq_false (by omega : ¬ 32 ≤ bt s i)]; rfl)) (fun h1 => ?_)
    refine Ev.cases (fun h => Ev.some (by rw [decide_eq_false (by omega : ¬ bt s i ≤ 126)]; simp)) (fun h2 => ?_)
    refine Ev.cases (fun h => Ev.some (by rw [decide_eq_true h]; simp)) (fun h3 => Ev.eq ih ?_)
    rw [decide_eq_true (by omega : 32 ≤ bt s i), decide_eq_true (by omega : bt s i ≤ 126), decide_eq_false h3]; simp
  · have : i = s.size := by omega
    subst this
    refine Ev.neg (by omega) (Ev.some ?_)
    rw [allFrom_end, Bool.true_and]
    exact decide_eq_decide.2 (by omega)

def okLatest (v : ByteArray) (t a : Int) : Bool := okVal v && inB t 0 1000000 && inB a 0 5
theorem spec_l14Latest.ev (v : ByteArray) (t a : Int) (hs : v.size ≤ 9223372036854775807) : Ev (fun k => spec_l14Latest.f k v t a) (okLatest v t a) := by
  unfold spec_l14Latest.f okLatest
  refine Ev.bind (spec_l1Value.ev v hs) (Ev.cases (fun h1 => ?_) (fun h1 => Ev.some (by simp at h1; simp [h1])))
  refine Ev.bindS (spec_l1In.ev _ _ _) (Ev.cases (fun h2 => ?_) (fun h2 => Ev.some (by simp at h2; simp [h2])))
  exact Ev.bindS (spec_l1In.ev _ _ _) (Ev.some (by rw [h1, h2]; rfl))

/-- The first latest one comes ahead of the second. -/
def beats (v : ByteArray) (t a : Int) (v' : ByteArray) (t' a' : Int) : Bool :=
  decide (t > t') || (decide (t = t') && (decide (a > a') || (decide (a = a') && !(Op.bytesLess v.toList v'.toList))))
def mergeL (v : ByteArray) (t a : Int) (v' : ByteArray) (t' a' : Int) : ByteArray × Int × Int × Bool :=
  if okLatest v t a && okLatest v' t' a' then (if beats v t a v' t' a' then (v, t, a, true) else (v', t', a', true)) else (⟨#[]⟩, 0, 0, false)
theorem spec_MergeLatest.ev (v : ByteArray) (t a : Int) (v' : ByteArray) (t' a' : Int) (hs : v.size ≤ 9223372036854775807) (hs' : v'.size ≤ 9223372036854775807) : Ev (fun k => spec_MergeLatest.f k v t a v' t' a') (mergeL v t a v' t' a') := by
  have hj : Ev (fun k => spec_MergeLatest.j0 k true v t a v' t' a') (⟨#[]⟩, 0, 0, false) := Ev.step (fun k => by rw [spec_MergeLatest.j0]) (Ev.pos rfl (Ev.now _))
  unfold spec_MergeLatest.f mergeL
  refine Ev.bind (spec_l14Latest.ev v t a hs) (Ev.cases (fun h1 => ?_) (fun h1 => Ev.eq hj (by simp at h1; simp [h1])))
  refine Ev.bind (spec_l14Latest.ev v' t' a' hs') ?_
  cases h2 : okLatest v' t' a' with
  | false => exact Ev.eq hj (by simp)
  | true =>
    rw [h1]
    refine Ev.step (fun k => by rw [spec_MergeLatest.j0]) (Ev.neg (by simp) ?_)
    unfold beats
    refine Ev.cases (fun h => Ev.some (by rw [decide_eq_true h]; rfl)) (fun h3 => ?_)
    refine Ev.cases (fun h4 => ?_) (fun h4 => Ev.some (by rw [decide_eq_false h3, decide_eq_false h4]; rfl))
    refine Ev.cases (fun h => Ev.some (by rw [decide_eq_false h3, decide_eq_true h4, decide_eq_true h]; rfl)) (fun h5 => ?_)
    refine Ev.cases (fun h6 => ?_) (fun h6 => Ev.some (by rw [decide_eq_false h3, decide_eq_true h4, decide_eq_false h5, decide_eq_false h6]; rfl))
    refine Ev.cases (fun h7 => Ev.some ?_) (fun h7 => Ev.some ?_)
    · rw [decide_eq_false h3, decide_eq_true h4, decide_eq_false h5, decide_eq_true h6, h7]; rfl
    · rw [decide_eq_false h3, decide_eq_true h4, decide_eq_false h5, decide_eq_true h6, Bool.eq_false_iff.2 h7]; rfl

theorem impl_in.ev (n a b : Int) : impl_in.f n a b = some (inB n a b) := by
  unfold impl_in.f inB
  by_cases h : a ≤ n
  · rw [if_pos h]; simp [h]
  · rw [if_neg h]; simp [h]

theorem impl_isValue.ev (s : ByteArray) (hs : s.size ≤ 9223372036854775807) : Ev (fun k => impl_isValue.f k s) (okVal s) := by
  unfold impl_isValue.f okVal
  refine Ev.eq (Ev.up (g := fun k i => impl_isValue.l0 k s (s.size : Int) i) s.size (fun i => allFrom (okByte s) s.size i && decide (s.size ≤ 20)) ?_) rfl
  intro i hi ih
  refine Ev.step (fun k => by rw [impl_isValue.l0]) ?_
  by_cases hlt : i < s.size
  · refine Ev.pos (by omega) (Ev.pos (by omega) (Ev.pos (by omega) ?_))
    rw [allFrom_step hlt, w64_succ hlt hs]
    have ih := ih hlt
    generalize allFrom (okByte s) s.size (i + 1) = q at ih ⊢
    unfold okByte
    refine Ev.cases (fun h => Ev.some (by rw [decide_eq_false (by omega : ¬ 32 ≤ bt s i)]; rfl)) (fun h1 => ?_)
    refine Ev.cases (fun h => Ev.some (by rw [decide_eq_false (by omega : ¬ bt s i ≤ 126)]; simp)) (fun h2 => ?_)
    refine Ev.cases (fun h => Ev.some (by rw [decide_eq_true h]; simp)) (fun h3 => Ev.eq ih ?_)
    rw [decide_eq_true (by omega : 32 ≤ bt s i), decide_eq_true (by omega : bt s i ≤ 126), decide_eq_false h3]; simp
  · have : i = s.size := by omega
    subst this
    refine Ev.neg (by omega) (Ev.some ?_)
    rw [allFrom_end, Bool.true_and]
    exact decide_eq_decide.2 (by omega)

theorem impl_isLatest.ev (v : ByteArray) (t a : Int) (hs : v.size ≤ 9223372036854775807) : Ev (fun k => impl_isLatest.f k v t a) (okLatest v t a) := by
  unfold impl_isLatest.f okLatest
  refine Ev.bind (impl_isValue.ev v hs) (Ev.cases (fun h1 => ?_) (fun h1 => Ev.some (by simp at h1; simp [h1])))
  refine Ev.bindS (impl_in.ev _ _ _) (Ev.cases (fun h2 => ?_) (fun h2 => Ev.some (by simp at h2; simp [h2])))
  exact Ev.bindS (impl_in.ev _ _ _) (Ev.some (by rw [h1, h2]; rfl))

/-- The first number that is not 0. -/
def orI : List Int → Int
  | [] => 0
  | x :: r => if x = 0 then orI r else x
theorem cmp_Or_int.ev (l : List Int) (hl : l.length ≤ 9223372036854775807) : Ev (fun k => cmp_Or_int.f k l) (orI l) := by
  unfold cmp_Or_int.f
  refine Ev.eq (Ev.up (g := fun k i => cmp_Or_int.l0 k 0 l (l.length : Int) i) l.length (fun i => orI (l.drop i)) ?_) rfl
  intro i hi ih
  refine Ev.step (fun k => by rw [cmp_Or_int.l0]) ?_
  by_cases hlt : i < l.length
  · have e : orI (l.drop i) = if l[i] = 0 then orI (l.drop (i + 1)) else l[i] := by
      rw [List.drop_eq_getElem_cons hlt]; rfl
    refine Ev.pos (by omega) (Ev.pos (by omega) (Ev.pos (by omega) ?_))
    rw [rd_get hlt, w64_succ hlt hl, e]
    exact Ev.cases (fun h => Ev.eq (ih hlt) (by rw [if_pos h])) (fun h => Ev.some (by rw [if_neg h]))
  · have : i = l.length := by omega
    subst this
    exact Ev.neg (by omega) (Ev.some (by simp [orI]))

def cmpI (a b : Int) : Int := if a < b then -1 else if a > b then 1 else 0
theorem cmp_Compare_int.ev (a b : Int) : cmp_Compare_int.f a b = some (cmpI a b) := by
  unfold cmp_Compare_int.f cmp_isNaN_int.f cmpI
  simp only [Option.bind_some, bne_self_eq_false]
  rw [if_neg (by simp), if_neg (by simp)]
  split
  · rfl
  · split <;> rfl

def cmpS (a b : ByteArray) : Int := if Op.bytesLess a.toList b.toList = true then -1 else if Op.bytesLess b.toList a.toList = true then 1 else 0
theorem cmp_Compare_string.ev (a b : ByteArray) : cmp_Compare_string.f a b = some (cmpS a b) := by
  unfold cmp_Compare_string.f cmp_isNaN_string.f cmpS
  simp only [Option.bind_some, bne_self_eq_false]
  rw [if_neg (by simp), if_neg (by simp)]
  split
  · rfl
  · split <;> rfl

theorem orI_beats (v : ByteArray) (t a : Int) (v' : ByteArray) (t' a' : Int) : decide (orI [cmpI t t', cmpI a a', cmpS v v'] < 0) = !(beats v t a v' t' a') := by
  unfold beats orI cmpI
  rcases Int.lt_trichotomy t t' with h | h | h
  · simp [h]; omega
  · subst h
    simp
    unfold orI
    rcases Int.lt_trichotomy a a' with h | h | h
    · simp [h]; omega
    · subst h
      simp
      unfold orI cmpS
      by_cases h1 : Op.bytesLess v.toList v'.toList = true
      · simp [h1]
      · by_cases h2 : Op.bytesLess v'.toList v.toList = true
        · simp [h1, h2]
        · simp [h1, h2, orI]
    · have : ¬ a < a' := by omega
      simp [h, this]
  · have : ¬ t < t' := by omega
    simp [h, this]
theorem impl_MergeLatest.ev (v : ByteArray) (t a : Int) (v' : ByteArray) (t' a' : Int) (hs : v.size ≤ 9223372036854775807) (hs' : v'.size ≤ 9223372036854775807) : Ev (fun k => impl_MergeLatest.f k v t a v' t' a') (mergeL v t a v' t' a') := by
  have hj : Ev (fun k => impl_MergeLatest.j0 k true v t a v' t' a') (⟨#[]⟩, 0, 0, false) := Ev.step (fun k => by rw [impl_MergeLatest.j0]) (Ev.pos rfl (Ev.now _))
  unfold impl_MergeLatest.f mergeL
  refine Ev.bind (impl_isLatest.ev v t a hs) (Ev.cases (fun h1 => ?_) (fun h1 => Ev.eq hj (by simp at h1; simp [h1])))
  refine Ev.bind (impl_isLatest.ev v' t' a' hs') ?_
  cases h2 : okLatest v' t' a' with
  | false => exact Ev.eq hj (by simp)
  | true =>
    rw [h1]
    refine Ev.step (fun k => by rw [impl_MergeLatest.j0]) (Ev.neg (by simp) ?_)
    refine Ev.bindS (cmp_Compare_int.ev _ _) (Ev.bindS (cmp_Compare_int.ev _ _) (Ev.bindS (cmp_Compare_string.ev _ _) (Ev.bind (cmp_Or_int.ev _ (by simp)) ?_)))
    have e := orI_beats v t a v' t' a'
    refine Ev.cases (fun h => Ev.some ?_) (fun h => Ev.some ?_)
    · rw [decide_eq_true h] at e
      have : beats v t a v' t' a' = false := by simpa using e.symm
      rw [this]; rfl
    · rw [decide_eq_false h] at e
      have : beats v t a v' t' a' = true := by simpa using e.symm
      rw [this]; rfl

/-- The drawing's bytes. -/
def inCur (l : List Int) : Prop := ∀ x ∈ l, 0 ≤ x ∧ x ≤ 255
theorem inCur_of {l : List Int} (h : ∀ x ∈ l, (Lit.int .u8 x).wf = true) : inCur l := by
  intro x hx
  have h' : IntKind.u8.min ≤ x ∧ x ≤ IntKind.u8.max := by simpa [Lit.wf] using h x hx
  exact h'
theorem and255 (z : Int) (h0 : 0 ≤ z) (h1 : z < 18446744073709551616) : 0 ≤ Go.bits .and .u64 z 255 ∧ Go.bits .and .u64 z 255 ≤ 255 := by
  obtain ⟨a, rfl⟩ : ∃ a : Nat, z = (a : Int) := ⟨z.toNat, by omega⟩
  have h := bits_and_u64_nat a 255 (by omega) (by omega)
  have : ((255 : Nat) : Int) = (255 : Int) := rfl
  rw [this] at h
  rw [h]
  have := Nat.and_le_right (n := a) (m := 255)
  omega
theorem wrapU_bound (n : Int) : 0 ≤ IntKind.u64.wrap n ∧ IntKind.u64.wrap n < 18446744073709551616 := by
  rw [IntKind.wrap_u64]; omega
theorem spec_l1Cur_next.ev {l : List Int} (hl : inCur l) {p : Int} (s : Int) (h0 : 0 ≤ p) (h1 : p ≤ 4611686018427387904) :
    ∃ r p' s', spec_l1Cur_next.f l p s = some (r, p', s') ∧ 0 ≤ r ∧ r ≤ 255 ∧ 0 ≤ p' ∧ p' ≤ p + 1 := by
  unfold spec_l1Cur_next.f
  have hp : wrap64 (p + 1) = p + 1 := w64 (by omega) (by omega)
  have far : ∀ z : Int, 0 ≤ wrap64 (Go.bits .and .u64 (IntKind.u64.wrap z / 1099511627776) 255) ∧ wrap64 (Go.bits .and .u64 (IntKind.u64.wrap z / 1099511627776) 255) ≤ 255 := by
    intro z
    have hb := wrapU_bound z
    have h := and255 (IntKind.u64.wrap z / 1099511627776) (by omega) (by omega)
    rw [w64 (by omega) (by omega)]; exact h
  rw [hp]
  by_cases c1 : p < (l.length : Int)
  · rw [if_pos c1, if_pos h0]
    have hr : 0 ≤ wrap64 (rd l p) ∧ wrap64 (rd l p) ≤ 255 := by
      obtain ⟨i, rfl⟩ : ∃ i : Nat, p = (i : Int) := ⟨p.toNat, by omega⟩
      have hi : i < l.length := by omega
      rw [rd_get hi]
      have := hl _ (List.getElem_mem hi)
      rw [w64 (by omega) (by omega)]; exact this
    by_cases c2 : p + 1 ≤ (l.length : Int)
    · rw [if_pos c2]; exact ⟨_, _, _, rfl, hr.1, hr.2, by omega, by omega⟩
    · rw [if_neg c2]; exact ⟨_, _, _, rfl, (far _).1, (far _).2, by omega, by omega⟩
  · rw [if_neg c1]
    by_cases c2 : p + 1 ≤ (l.length : Int)
    · rw [if_pos c2]; exact ⟨_, _, _, rfl, by omega, by omega, by omega, by omega⟩
    · rw [if_neg c2]; exact ⟨_, _, _, rfl, (far _).1, (far _).2, by omega, by omega⟩

theorem spec_l1Cur_pick.ev {l : List Int} (hl : inCur l) {p : Int} (s n : Int) (h0 : 0 ≤ p) (h1 : p ≤ 4611686018427387000) :
    ∃ r p' s', spec_l1Cur_pick.f l p s n = some (r, p', s') ∧ 0 ≤ r ∧ (1 ≤ n → r < n) ∧ 0 ≤ p' ∧ p' ≤ p + 2 := by
  unfold spec_l1Cur_pick.f
  by_cases c : n ≤ 1
  · rw [if_pos c]; exact ⟨_, _, _, rfl, by omega, by omega, h0, by omega⟩
  · rw [if_neg c]
    obtain ⟨r, p1, s1, e, r0, r1, q0, q1⟩ := spec_l1Cur_next.ev hl s h0 (by omega)
    rw [e]; simp only [Option.bind_some]
    by_cases c2 : n > 200
    · rw [if_pos c2]
      obtain ⟨r', p2, s2, e', r0', r1', q0', q1'⟩ := spec_l1Cur_next.ev hl s1 q0 (by omega)
      rw [e']; simp only [Option.bind_some]
      rw [if_neg (by omega), w64 (x := r * 256) (by omega) (by omega), w64 (by omega) (by omega)]
      exact ⟨_, _, _, rfl, Int.tmod_nonneg _ (by omega), fun _ => Int.tmod_lt_of_pos _ (by omega), q0', by omega⟩
    · rw [if_neg c2, if_neg (by omega)]
      exact ⟨_, _, _, rfl, Int.tmod_nonneg _ (by omega), fun _ => Int.tmod_lt_of_pos _ (by omega), q0, by omega⟩

theorem spec_l1Cur_one.ev {l : List Int} (hl : inCur l) {p : Int} (s n : Int) (h0 : 0 ≤ p) (h1 : p ≤ 4611686018427387000) :
    ∃ r p' s', spec_l1Cur_one.f l p s n = some (r, p', s') ∧ 0 ≤ p' ∧ p' ≤ p + 2 := by
  unfold spec_l1Cur_one.f
  obtain ⟨r, p1, s1, e, _, _, q0, q1⟩ := spec_l1Cur_pick.ev hl s n h0 h1
  rw [e]; exact ⟨_, _, _, rfl, q0, q1⟩

theorem spec_l1Cur_of.ev {l : List Int} (hl : inCur l) {p : Int} (s : Int) (z : List ByteArray) (h0 : 0 ≤ p) (h1 : p ≤ 4611686018427387000) (hz : 0 < z.length) :
    ∃ r p' s', spec_l1Cur_of.f l p s z = some (r, p', s') ∧ r ∈ z ∧ 0 ≤ p' ∧ p' ≤ p + 2 := by
  unfold spec_l1Cur_of.f
  obtain ⟨r, p1, s1, e, r0, r1, q0, q1⟩ := spec_l1Cur_pick.ev hl s z.length h0 h1
  have r1 := r1 (by omega)
  rw [e]; simp only [Option.bind_some]
  rw [if_pos r0, if_pos r1]
  refine ⟨_, _, _, rfl, ?_, q0, q1⟩
  obtain ⟨i, rfl⟩ : ∃ i : Nat, r = (i : Int) := ⟨r.toNat, by omega⟩
  have hi : i < z.length := by omega
  have : rdOf ByteArray.empty z (i : Int) = z[i] := by simp [rdOf, hi]
  rw [this]; exact List.getElem_mem hi

theorem spec_l1Cur_value.ev {l : List Int} (hl : inCur l) {p : Int} (s : Int) (h0 : 0 ≤ p) (h1 : p ≤ 4611686018427386000) :
    ∃ r p' s', spec_l1Cur_value.f l p s = some (r, p', s') ∧ r.size ≤ 21 ∧ 0 ≤ p' ∧ p' ≤ p + 4 := by
  unfold spec_l1Cur_value.f
  obtain ⟨r, p1, s1, e, q0, q1⟩ := spec_l1Cur_one.ev hl s 60 h0 (by omega)
  rw [e]; simp only [Option.bind_some]
  by_cases c : r = true
  · rw [if_pos c]
    obtain ⟨v, p2, s2, e2, hv, u0, u1⟩ := spec_l1Cur_of.ev hl s1 [(⟨#[97, 59, 98]⟩ : ByteArray), (⟨#[10]⟩ : ByteArray), (⟨#[49, 50, 51, 52, 53, 54, 55, 56, 57, 48, 49, 50, 51, 52, 53, 54, 55, 56, 57, 48, 49]⟩ : ByteArray)] q0 (by omega) (by simp)
    rw [e2]; simp only [Option.bind_some]
    refine ⟨_, _, _, rfl, ?_, u0, by omega⟩
    simp only [List.mem_cons, List.not_mem_nil, or_false] at hv
    rcases hv with rfl | rfl | rfl <;> decide
  · rw [if_neg c]
    obtain ⟨v, p2, s2, e2, hv, u0, u1⟩ := spec_l1Cur_of.ev hl s1 [(⟨#[49]⟩ : ByteArray), (⟨#[50]⟩ : ByteArray), (⟨#[]⟩ : ByteArray), (⟨#[118, 32, 119]⟩ : ByteArray), (⟨#[120]⟩ : ByteArray)] q0 (by omega) (by simp)
    rw [e2]; simp only [Option.bind_some]
    refine ⟨_, _, _, rfl, ?_, u0, by omega⟩
    simp only [List.mem_cons, List.not_mem_nil, or_false] at hv
    rcases hv with rfl | rfl | rfl | rfl | rfl <;> decide

theorem spec_l1Cur_among.ev {l : List Int} (hl : inCur l) {p : Int} (s : Int) (z : List Int) (h0 : 0 ≤ p) (h1 : p ≤ 4611686018427387000) (hz : 0 < z.length) :
    ∃ r p' s', spec_l1Cur_among.f l p s z = some (r, p', s') ∧ r ∈ z ∧ 0 ≤ p' ∧ p' ≤ p + 2 := by
  unfold spec_l1Cur_among.f
  obtain ⟨r, p1, s1, e, r0, r1, q0, q1⟩ := spec_l1Cur_pick.ev hl s z.length h0 h1
  have r1 := r1 (by omega)
  rw [e]; simp only [Option.bind_some]
  rw [if_pos r0, if_pos r1]
  refine ⟨_, _, _, rfl, ?_, q0, q1⟩
  obtain ⟨i, rfl⟩ : ∃ i : Nat, r = (i : Int) := ⟨r.toNat, by omega⟩
  have hi : i < z.length := by omega
  rw [rd_get hi]; exact List.getElem_mem hi

theorem spec_l1Cur_latest.ev {l : List Int} (hl : inCur l) {p : Int} (s : Int) (h0 : 0 ≤ p) (h1 : p ≤ 4611686018427385000) :
    ∃ v t a p' s', spec_l1Cur_latest.f l p s = some (v, t, a, p', s') ∧ v.size ≤ 21 ∧ 0 ≤ p' ∧ p' ≤ p + 20 := by
  unfold spec_l1Cur_latest.f
  obtain ⟨v, p1, s1, e1, hv, q0, q1⟩ := spec_l1Cur_value.ev hl s h0 (by omega)
  rw [e1]; simp only [Option.bind_some]
  obtain ⟨t, p2, s2, e2, _, _, u0, u1⟩ := spec_l1Cur_pick.ev hl s1 5 q0 (by omega)
  rw [e2]; simp only [Option.bind_some]
  obtain ⟨a, p3, s3, e3, _, _, v0, v1⟩ := spec_l1Cur_pick.ev hl s2 4 u0 (by omega)
  rw [e3]; simp only [Option.bind_some]
  obtain ⟨b, p4, s4, e4, w0, w1⟩ := spec_l1Cur_one.ev hl s3 30 v0 (by omega)
  rw [e4]; simp only [Option.bind_some]
  by_cases c : b = true
  · rw [if_pos c]
    obtain ⟨x, p5, s5, e5, _, x0, x1⟩ := spec_l1Cur_among.ev hl s4 [(-1), 1000000, 1000001] w0 (by omega) (by simp)
    rw [e5]; simp only [Option.bind_some]
    exact ⟨_, _, _, _, _, rfl, hv, x0, by omega⟩
  · rw [if_neg c]; exact ⟨_, _, _, _, _, rfl, hv, w0, by omega⟩

theorem spec_DrawMergeLatest.ev {l : List Int} (hl : inCur l) : ∃ v t a v' t' a', spec_DrawMergeLatest.f l = some (v, t, a, v', t', a') ∧ v.size ≤ 21 ∧ v'.size ≤ 21 := by
  unfold spec_DrawMergeLatest.f
  obtain ⟨v, t, a, p, s, e, hv, p0, p1⟩ := spec_l1Cur_latest.ev hl (p := 0) 0 (by omega) (by omega)
  rw [e]; simp only [Option.bind_some]
  obtain ⟨v', t', a', p', s', e', hv', _, _⟩ := spec_l1Cur_latest.ev hl s p0 (by omega)
  rw [e']; exact ⟨_, _, _, _, _, _, rfl, hv, hv'⟩

theorem bl_irrefl : ∀ x : List UInt8, Op.bytesLess x x = false
  | [] => rfl
  | a :: x => by simp [Op.bytesLess, bl_irrefl x]
theorem bl_trans : ∀ x y z : List UInt8, Op.bytesLess x y = true → Op.bytesLess y z = true → Op.bytesLess x z = true
  | _, _, [], _, h => by simp [Op.bytesLess] at h
  | _, [], _ :: _, h, _ => by simp [Op.bytesLess] at h
  | [], _ :: _, _ :: _, _, _ => rfl
  | a :: x, b :: y, c :: z, h1, h2 => by
    simp only [Op.bytesLess, Bool.or_eq_true, decide_eq_true_eq, Bool.and_eq_true, beq_iff_eq] at h1 h2 ⊢
    rcases h1 with h1 | ⟨rfl, h1⟩
    · rcases h2 with h2 | ⟨rfl, h2⟩
      · exact .inl (UInt8.lt_trans h1 h2)
      · exact .inl h1
    · rcases h2 with h2 | ⟨rfl, h2⟩
      · exact .inl h2
      · exact .inr ⟨rfl, bl_trans x y z h1 h2⟩
theorem bl_tri : ∀ x y : List UInt8, Op.bytesLess x y = false → Op.bytesLess y x = false → x = y
  | [], [], _, _ => rfl
  | [], _ :: _, h, _ => by simp [Op.bytesLess] at h
  | _ :: _, [], _, h => by simp [Op.bytesLess] at h
  | a :: x, b :: y, h1, h2 => by
    simp only [Op.bytesLess, Bool.or_eq_false_iff, decide_eq_false_iff_not, Bool.and_eq_false_iff, beq_eq_false_iff_ne] at h1 h2
    have e : a = b := UInt8.le_antisymm (UInt8.not_lt.1 h2.1) (UInt8.not_lt.1 h1.1)
    subst e
    rw [bl_tri x y (h1.2.resolve_left (fun h => h rfl)) (h2.2.resolve_left (fun h => h rfl))]
theorem beats_iff {v : ByteArray} {t a : Int} {v' : ByteArray} {t' a' : Int} : beats v t a v' t' a' = true ↔ (t' < t ∨ (t = t' ∧ (a' < a ∨ (a = a' ∧ Op.bytesLess v.toList v'.toList = false)))) := by
  unfold beats; simp
theorem beats_tot {v : ByteArray} {t a : Int} {v' : ByteArray} {t' a' : Int} (h : beats v t a v' t' a' = false) : beats v' t' a' v t a = true := by
  have h' : ¬ (beats v t a v' t' a' = true) := by rw [h]; simp
  rw [beats_iff] at h' ⊢
  rcases Int.lt_trichotomy t t' with g | g | g
  · exact .inl g
  · subst g
    refine .inr ⟨rfl, ?_⟩
    rcases Int.lt_trichotomy a a' with g | g | g
    · exact .inl g
    · subst g
      refine .inr ⟨rfl, ?_⟩
      cases e : Op.bytesLess v'.toList v.toList with
      | false => rfl
      | true =>
        cases e2 : Op.bytesLess v.toList v'.toList with
        | false => exact absurd (.inr ⟨rfl, .inr ⟨rfl, e2⟩⟩) h'
        | true => have := bl_trans _ _ _ e e2; rw [bl_irrefl] at this; cases this
    · exact absurd (.inr ⟨rfl, .inl g⟩) h'
  · exact absurd (.inl g) h'
theorem beats_anti {v : ByteArray} {t a : Int} {v' : ByteArray} {t' a' : Int} (h : beats v t a v' t' a' = true) (h' : beats v' t' a' v t a = true) : v.toList = v'.toList ∧ t = t' ∧ a = a' := by
  rw [beats_iff] at h h'
  rcases h with h | ⟨rfl, h⟩
  · rcases h' with h' | ⟨rfl, h'⟩ <;> omega
  · rcases h' with h' | ⟨_, h'⟩
    · omega
    · rcases h with h | ⟨rfl, h⟩
      · rcases h' with h' | ⟨rfl, h'⟩ <;> omega
      · rcases h' with h' | ⟨_, h'⟩
        · omega
        · exact ⟨bl_tri _ _ h h', rfl, rfl⟩
theorem beats_trans {v : ByteArray} {t a : Int} {v' : ByteArray} {t' a' : Int} {u : ByteArray} {s b : Int} (h : beats v t a v' t' a' = true) (h' : beats v' t' a' u s b = true) : beats v t a u s b = true := by
  rw [beats_iff] at h h' ⊢
  rcases h with h | ⟨rfl, h⟩
  · rcases h' with h' | ⟨rfl, h'⟩ <;> exact .inl (by omega)
  · rcases h' with h' | ⟨rfl, h'⟩
    · exact .inl h'
    · refine .inr ⟨rfl, ?_⟩
      rcases h with h | ⟨rfl, h⟩
      · rcases h' with h' | ⟨rfl, h'⟩ <;> exact .inl (by omega)
      · rcases h' with h' | ⟨rfl, h'⟩
        · exact .inl h'
        · refine .inr ⟨rfl, ?_⟩
          cases e : Op.bytesLess v.toList u.toList with
          | false => rfl
          | true =>
            -- v < u, not v < v', not v' < u
            cases e2 : Op.bytesLess v'.toList v.toList with
            | true => have := bl_trans _ _ _ e2 e; rw [h'] at this; cases this
            | false => rw [bl_tri _ _ h e2, h'] at e; cases e
theorem beats_refl (v : ByteArray) (t a : Int) : beats v t a v t a = true := by
  rw [beats_iff]; exact .inr ⟨rfl, .inr ⟨rfl, bl_irrefl _⟩⟩
theorem okLatest_size {v : ByteArray} {t a : Int} (h : v.size ≤ 21) : v.size ≤ 9223372036854775807 := by omega
theorem mergeL_ok {v : ByteArray} {t a : Int} {v' : ByteArray} {t' a' : Int} (h : okLatest v t a = true) (h' : okLatest v' t' a' = true) : mergeL v t a v' t' a' = (if beats v t a v' t' a' then (v, t, a, true) else (v', t', a', true)) := by
  unfold mergeL; rw [h, h']; rfl
theorem mergeL_no {v : ByteArray} {t a : Int} {v' : ByteArray} {t' a' : Int} (h : (okLatest v t a && okLatest v' t' a') = false) : mergeL v t a v' t' a' = (⟨#[]⟩, 0, 0, false) := by
  unfold mergeL; rw [h]; rfl
theorem law_j1 (v : ByteArray) (t a : Int) (v' : ByteArray) (t' a' : Int) (u : ByteArray) (s b : Int) (m : ByteArray × Int × Int)
    (hv : v.size ≤ 21) (hv' : v'.size ≤ 21) (hu : u.size ≤ 21) (o1 : okLatest v t a = true) (o2 : okLatest v' t' a' = true) (o3 : okLatest u s b = true)
    (hm : m = if beats v t a v' t' a' then (v, t, a) else (v', t', a')) : Ev (fun k => laws_FnLatest.j1 k false v t a v' t' a' u s b m.1 m.2.1 m.2.2) true := by
  refine Ev.step (fun k => by rw [laws_FnLatest.j1]) (Ev.neg (by simp) ?_)
  have z1 : v.size ≤ 9223372036854775807 := by omega
  have z2 : v'.size ≤ 9223372036854775807 := by omega
  have z3 : u.size ≤ 9223372036854775807 := by omega
  have e1 : Ev (fun k => impl_MergeLatest.f k v t a v t a) (v, t, a, true) := Ev.eq (impl_MergeLatest.ev v t a v t a z1 z1) (by rw [mergeL_ok o1 o1, if_pos (beats_refl v t a)])
  by_cases c1 : beats v t a v' t' a' = true
  · rw [if_pos c1] at hm; subst hm
    by_cases c2 : beats v' t' a' u s b = true
    · have c3 := beats_trans c1 c2
      refine Ev.bind e1 (Ev.bind (Ev.eq (impl_MergeLatest.ev v t a u s b z1 z3) (by rw [mergeL_ok o1 o3, if_pos c3])) (Ev.bind (Ev.eq (impl_MergeLatest.ev v' t' a' u s b z2 z3) (by rw [mergeL_ok o2 o3, if_pos c2])) (Ev.bind (Ev.eq (impl_MergeLatest.ev v t a v' t' a' z1 z2) (by rw [mergeL_ok o1 o2, if_pos c1])) ?_)))
      exact Ev.pos rfl (Ev.pos rfl (Ev.pos rfl (Ev.pos rfl (Ev.pos (by simp) (Ev.pos (by simp) (Ev.pos (by simp) (Ev.now _)))))))
    · have q : ∃ y : ByteArray × Int × Int × Bool, y.2.2.2 = true ∧ (if beats v t a u s b = true then (v, t, a, true) else (u, s, b, true)) = y := ⟨_, by split <;> rfl, rfl⟩
      obtain ⟨y, hy, ey⟩ := q
      refine Ev.bind e1 (Ev.bind (Ev.eq (impl_MergeLatest.ev v t a u s b z1 z3) (by rw [mergeL_ok o1 o3, ey])) (Ev.bind (Ev.eq (impl_MergeLatest.ev v' t' a' u s b z2 z3) (by rw [mergeL_ok o2 o3, if_neg c2])) (Ev.bind (Ev.eq (impl_MergeLatest.ev v t a u s b z1 z3) (by rw [mergeL_ok o1 o3, ey])) ?_)))
      exact Ev.pos rfl (Ev.pos hy (Ev.pos rfl (Ev.pos hy (Ev.pos (by simp) (Ev.pos (by simp) (Ev.pos (by simp) (Ev.now _)))))))
  · rw [if_neg c1] at hm; subst hm
    have last : ∀ k : Nat, True := fun _ => trivial
    by_cases c2 : beats v' t' a' u s b = true
    · refine Ev.bind e1 (Ev.bind (Ev.eq (impl_MergeLatest.ev v' t' a' u s b z2 z3) (by rw [mergeL_ok o2 o3, if_pos c2])) (Ev.bind (Ev.eq (impl_MergeLatest.ev v' t' a' u s b z2 z3) (by rw [mergeL_ok o2 o3, if_pos c2])) (Ev.bind (Ev.eq (impl_MergeLatest.ev v t a v' t' a' z1 z2) (by rw [mergeL_ok o1 o2, if_neg c1])) ?_)))
      exact Ev.pos rfl (Ev.pos rfl (Ev.pos rfl (Ev.pos rfl (Ev.pos (by simp) (Ev.pos (by simp) (Ev.cases (fun _ => Ev.now _) (fun _ => Ev.some (by simp))))))))
    · have c3 : ¬ (beats v t a u s b = true) := fun h => c1 (beats_trans h (beats_tot (Bool.eq_false_iff.2 c2)))
      refine Ev.bind e1 (Ev.bind (Ev.eq (impl_MergeLatest.ev v' t' a' u s b z2 z3) (by rw [mergeL_ok o2 o3, if_neg c2])) (Ev.bind (Ev.eq (impl_MergeLatest.ev v' t' a' u s b z2 z3) (by rw [mergeL_ok o2 o3, if_neg c2])) (Ev.bind (Ev.eq (impl_MergeLatest.ev v t a u s b z1 z3) (by rw [mergeL_ok o1 o3, if_neg c3])) ?_)))
      exact Ev.pos rfl (Ev.pos rfl (Ev.pos rfl (Ev.pos rfl (Ev.pos (by simp) (Ev.pos (by simp) (Ev.cases (fun _ => Ev.now _) (fun _ => Ev.some (by simp))))))))
theorem holds_ev (l0 l1 : List Int) (h0 : inCur l0) (h1 : inCur l1) : Ev (fun k => laws_FnLatest.f k l0 l1) true := by
  unfold laws_FnLatest.f
  refine Ev.cases (fun _ => Ev.now _) (fun _ => ?_)
  obtain ⟨v, t, a, v', t', a', e, hv, hv'⟩ := spec_DrawMergeLatest.ev h0
  obtain ⟨u, s, b, u', s', b', e2, hu, hu'⟩ := spec_DrawMergeLatest.ev h1
  have z1 : v.size ≤ 9223372036854775807 := by omega
  have z2 : v'.size ≤ 9223372036854775807 := by omega
  have z3 : u.size ≤ 9223372036854775807 := by omega
  have z4 : u'.size ≤ 9223372036854775807 := by omega
  refine Ev.bindS e (Ev.bindS e2 (Ev.bind (impl_MergeLatest.ev v t a v' t' a' z1 z2) (Ev.bind (spec_MergeLatest.ev v t a v' t' a' z1 z2) (Ev.bind (impl_MergeLatest.ev v' t' a' v t a z2 z1) ?_))))
  have j1 : ∀ (v : ByteArray) (t a : Int) (v' : ByteArray) (t' a' : Int) (u : ByteArray) (s b : Int) (m : ByteArray) (x y : Int), Ev (fun k => laws_FnLatest.j1 k true v t a v' t' a' u s b m x y) true := fun _ _ _ _ _ _ _ _ _ _ _ _ => Ev.step (fun k => by rw [laws_FnLatest.j1]) (Ev.pos rfl (Ev.now _))
  cases o1 : okLatest v t a with
  | false =>
    rw [mergeL_no (by rw [o1]; rfl), mergeL_no (by rw [o1, Bool.and_false])]
    refine Ev.neg (by simp) (Ev.neg (by simp) (Ev.neg (by simp) (Ev.step (fun k => by rw [laws_FnLatest.j0]) (Ev.neg (by simp) ?_))))
    exact Ev.bind (spec_MergeLatest.ev u s b u' s' b' z3 z4) (Ev.neg (by simp) (j1 _ _ _ _ _ _ _ _ _ _ _ _))
  | true =>
    cases o2 : okLatest v' t' a' with
    | false =>
      rw [mergeL_no (by rw [o2, Bool.and_false]), mergeL_no (by rw [o2]; rfl)]
      refine Ev.neg (by simp) (Ev.neg (by simp) (Ev.neg (by simp) (Ev.step (fun k => by rw [laws_FnLatest.j0]) (Ev.neg (by simp) ?_))))
      exact Ev.bind (spec_MergeLatest.ev u s b u' s' b' z3 z4) (Ev.neg (by simp) (j1 _ _ _ _ _ _ _ _ _ _ _ _))
    | true =>
      rw [mergeL_ok o1 o2, mergeL_ok o2 o1]
      have fin : ∀ m : ByteArray × Int × Int, m = (if beats v t a v' t' a' then (v, t, a) else (v', t', a')) → Ev (fun k => laws_FnLatest.j0 k true false v t a v' t' a' u s b u' s' b' m.1 m.2.1 m.2.2) true := by
        intro m hm
        refine Ev.step (fun k => by rw [laws_FnLatest.j0]) (Ev.neg (by simp) (Ev.bind (spec_MergeLatest.ev u s b u' s' b' z3 z4) (Ev.pos rfl ?_)))
        cases o3 : (okLatest u s b && okLatest u' s' b') with
        | false => rw [mergeL_no o3]; exact j1 _ _ _ _ _ _ _ _ _ _ _ _
        | true =>
          have o4 : okLatest u s b = true := by simp at o3; exact o3.1
          have o5 : okLatest u' s' b' = true := by simp at o3; exact o3.2
          have : (mergeL u s b u' s' b').2.2.2 = true := by rw [mergeL_ok o4 o5]; split <;> rfl
          rw [this]
          exact law_j1 v t a v' t' a' u s b m hv hv' hu o1 o2 o4 hm
      by_cases c1 : beats v t a v' t' a' = true
      · rw [if_pos c1]
        by_cases c2 : beats v' t' a' v t a = true
        · rw [if_pos c2]
          obtain ⟨q1, q2, q3⟩ := beats_anti c1 c2
          refine Ev.neg (by simp) (Ev.neg (by simp) (Ev.neg (by simp) ?_))
          have : (!(v'.toList == v.toList) || (!(t' == t) || (!(a' == a)))) = false := by simp [q1, q2, q3]
          show Ev (fun k => laws_FnLatest.j0 k true (!(v'.toList == v.toList) || (!(t' == t) || (!(a' == a)))) v t a v' t' a' u s b u' s' b' v t a) true
          rw [this]
          exact fin (v, t, a) (by rw [if_pos c1])
        · rw [if_neg c2]
          refine Ev.neg (by simp) (Ev.neg (by simp) (Ev.neg (by simp) ?_))
          have : (!(v.toList == v.toList) || (!(t == t) || (!(a == a)))) = false := by simp
          show Ev (fun k => laws_FnLatest.j0 k true (!(v.toList == v.toList) || (!(t == t) || (!(a == a)))) v t a v' t' a' u s b u' s' b' v t a) true
          rw [this]
          exact fin (v, t, a) (by rw [if_pos c1])
      · have c2 := beats_tot (Bool.eq_false_iff.2 c1)
        rw [if_neg c1, if_pos c2]
        refine Ev.neg (by simp) (Ev.neg (by simp) (Ev.neg (by simp) ?_))
        have : (!(v'.toList == v'.toList) || (!(t' == t') || (!(a' == a')))) = false := by simp
        show Ev (fun k => laws_FnLatest.j0 k true (!(v'.toList == v'.toList) || (!(t' == t') || (!(a' == a')))) v t a v' t' a' u s b u' s' b' v' t' a') true
        rw [this]
        exact fin (v', t', a') (by rw [if_neg c1])

end Go.Proofs.Ytcloilddgimamaa.PLA
namespace Go.Proofs.Ytcloilddgimamaa.Pure
open Go.RowKit Go.Proofs.Ytcloilddgimamaa.PLA Go.Proofs.Ytcloilddgimamaa.Base Go.Proofs.YtcloilddgimamaaW.PrintWords Go.Proofs.YtcloilddgimamaaW.PrintLast
theorem FnLatest : laws_FnLatest.Pure := by
  intro l0 l1 _ _ h0 _ _ h1
  exact (holds_ev l0 l1 (inCur_of h0) (inCur_of h1)).rounds
end Go.Proofs.Ytcloilddgimamaa.Pure
