/- What this text proves: laws.FnLamport, told as plain functions of numbers and lists, answers true for all arguments.
   Conditions: the bounds that the typed reading gives. -/
import Derived.Test.YtgdcooiaeeajmaaPLAx7
import Derived.Test.YtgdcooiaeeajmaaBase
import Derived.Laws.BitsLemmas
import Derived.Laws.Bits64b
namespace Go.Proofs.Ytgdcooiaeeajmaa.PLA
open Go.RowKit Go.Proofs.Ytgdcooiaeeajmaa.Base Go.Proofs.YtgdcooiaeeajmaaW.PrintWords Go.Proofs.YtgdcooiaeeajmaaW.PrintLast Go.Proofs.YtgdcooiaeeajmaaW.PrintMore
set_option linter.unusedVariables false
set_option linter.unusedSimpArgs false
/-- The drawing's bytes. -/
def inCur (l : List Int) : Prop := ∀ x ∈ l, 0 ≤ x ∧ x ≤ 255
theorem inCur_of {l : List Int} (h : ∀ x ∈ l, (Lit.int .u8 x).wf = true) : inCur l := by
  intro x hx
  have h' : IntKind.u8.min ≤ x ∧ x ≤ IntKind.u8.max := by simpa [Lit.wf] using h x hx
  exact h'
theorem and255 (z : Int) (h0 : 0 ≤ z) (h1 : z < 18446744073709551616) : 0 ≤ Go.bits .and .u64 z 255 ∧ Go.bits .and .u64 z 255 ≤ 255 := by
  obtain ⟨a, rfl⟩ : ∃ a : Nat, z = (a : Int) := ⟨z.toNat, by omega⟩
  have h := bits_and_u64_nat a 255 (by omega) (by omega)
  have : ((255 : Nat) : Int) = (255 : Int) := rfl
  rw [this] at h
  rw [h]
  have := Nat.and_le_right (n := a) (m := 255)
  omega
theorem wrapU_bound (n : Int) : 0 ≤ IntKind.u64.wrap n ∧ IntKind.u64.wrap n < 18446744073709551616 := by
  rw [IntKind.wrap_u64]; omega
theorem spec_l1Cur_next.ev {l : List Int} (hl : inCur l) {p : Int} (s : Int) (h0 : 0 ≤ p) (h1 : p ≤ 4611686018427387904) :
    ∃ r p' s', spec_l1Cur_next.f l p s = some (r, p', s') ∧ 0 ≤ r ∧ r ≤ 255 ∧ 0 ≤ p' ∧ p' ≤ p + 1 := by
  unfold spec_l1Cur_next.f
  have hp : wrap64 (p + 1) = p + 1 := w64 (by omega) (by omega)
  have far : ∀ z : Int, 0 ≤ wrap64 (Go.bits .and .u64 (IntKind.u64.wrap z / 1099511627776) 255) ∧ wrap64 (Go.bits .and .u64 (IntKind.u64.wrap z / 1099511627776) 255) ≤ 255 := by
    intro z
    have hb := wrapU_bound z
    have h := and255 (IntKind.u64.wrap z / 1099511627776) (by omega) (by omega)
    rw [w64 (by omega) (by omega)]; exact h
  rw [hp]
  by_cases c1 : p < (l.length : Int)
  · rw [if_pos c1, if_pos h0]
    have hr : 0 ≤ wrap64 (rd l p) ∧ wrap64 (rd l p) ≤ 255 := by
      obtain ⟨i, rfl⟩ : ∃ i : Nat, p = (i : Int) := ⟨p.toNat, by omega⟩
      have hi : i < l.length := by omega
      rw [rd_get hi]
      have := hl _ (List.getElem_mem hi)
      rw [w64 (by omega) (by omega)]; exact this
    by_cases c2 : p + 1 ≤ (l.length : Int)
    · rw [if_pos c2]; exact ⟨_, _, _, rfl, hr.1, hr.2, by omega, by omega⟩
    · rw [if_neg c2]; exact ⟨_, _, _, rfl, (far _).1, (far _).2, by omega, by omega⟩
  · rw [if_neg c1]
    by_cases c2 : p + 1 ≤ (l.length : Int)
    · rw [if_pos c2]; exact ⟨_, _, _, rfl, by omega, by omega, by omega, by omega⟩
    · rw [if_neg c2]; exact ⟨_, _, _, rfl, (far _).1, (far _).2, by omega, by omega⟩

theorem spec_l1Cur_pick.ev {l : List Int} (hl : inCur l) {p : Int} (s n : Int) (h0 : 0 ≤ p) (h1 : p ≤ 4611686018427387000) :
    ∃ r p' s', spec_l1Cur_pick.f l p s n = some (r, p', s') ∧ 0 ≤ r ∧ (1 ≤ n → r < n) ∧ 0 ≤ p' ∧ p' ≤ p + 2 := by
  unfold spec_l1Cur_pick.f
  by_cases c : n ≤ 1
  · rw [if_pos c]; exact ⟨_, _, _, rfl, by omega, by omega, h0, by omega⟩
  · rw [if_neg c]
    obtain ⟨r, p1, s1, e, r0, r1, q0, q1⟩ := spec_l1Cur_next.ev hl s h0 (by omega)
    rw [e]; simp only [Option.bind_some]
    by_cases c2 : n > 200
    · rw [if_pos c2]
      obtain ⟨r', p2, s2, e', r0', r1', q0', q1'⟩ := spec_l1Cur_next.ev hl s1 q0 (by omega)
      rw [e']; simp only [Option.bind_some]
      rw [if_neg (by omega), w64 (x := r * 256) (by omega) (by omega), w64 (by omega) (by omega)]
      exact ⟨_, _, _, rfl, Int.tmod_nonneg _ (by omega), fun _ => Int.tmod_lt_of_pos _ (by omega), q0', by omega⟩
    · rw [if_neg c2, if_neg (by omega)]
      exact ⟨_, _, _, rfl, Int.tmod_nonneg _ (by omega), fun _ => Int.tmod_lt_of_pos _ (by omega), q0, by omega⟩

theorem spec_l1Cur_one.ev {l : List Int} (hl : inCur l) {p : Int} (s n : Int) (h0 : 0 ≤ p) (h1 : p ≤ 4611686018427387000) :
    ∃ r p' s', spec_l1Cur_one.f l p s n = some (r, p', s') ∧ 0 ≤ p' ∧ p' ≤ p + 2 := by
  unfold spec_l1Cur_one.f
  obtain ⟨r, p1, s1, e, _, _, q0, q1⟩ := spec_l1Cur_pick.ev hl s n h0 h1
  rw [e]; exact ⟨_, _, _, rfl, q0, q1⟩

/-- What a drawn row's events carry. -/
def smallEv (l : List S68) : Prop := ∀ e ∈ l, 0 ≤ e.f2 ∧ e.f2 ≤ 1000
theorem smallEv_snoc {l : List S68} {e : S68} (h : smallEv l) (h0 : 0 ≤ e.f2) (h1 : e.f2 ≤ 1000) : smallEv (l ++ [e]) := by
  intro x hx
  rcases List.mem_append.1 hx with hx | hx
  · exact h x hx
  · rw [List.mem_singleton.1 hx]; exact ⟨h0, h1⟩
theorem spec_l1Cur_events.loop {c : List Int} (hc : inCur c) : ∀ (n : Nat) (l : List S68) (o : List Int) (x p s : Int), l.length + n ≤ 61 → smallEv l → o.length + n ≤ 61 → (∀ y ∈ o, 0 ≤ y ∧ y ≤ 100) → 1 ≤ x → x + n ≤ 100 → 0 ≤ p → p + 6 * n ≤ 1000 →
    ∃ r p' s', Ev (fun k => spec_l1Cur_events.l0 k l o x (n : Int) c p s) (r, p', s') ∧ smallEv r ∧ r.length ≤ 62
  | 0, l, o, x, p, s, hl, hs, ho, hy, hx, hx2, h0, h1 => by
    obtain ⟨b, p1, s1, e1, q0, q1⟩ := spec_l1Cur_one.ev hc s 30 h0 (by omega)
    cases b with
    | false =>
      refine ⟨l, p1, s1, Ev.step (fun k => by rw [spec_l1Cur_events.l0]) (Ev.neg (by omega) (Ev.bindS e1 ?_)), hs, by omega⟩
      exact Ev.neg (by simp) (Ev.now _)
    | true =>
      obtain ⟨t1, p2, s2, e2, a0, a1, q2, q3⟩ := spec_l1Cur_pick.ev hc s1 5 q0 (by omega)
      obtain ⟨t2, p3, s3, e3, b0, b1, q4, q5⟩ := spec_l1Cur_pick.ev hc s2 8 q2 (by omega)
      obtain ⟨t3, p4, s4, e4, c0, c1, q6, q7⟩ := spec_l1Cur_pick.ev hc s3 4 q4 (by omega)
      refine ⟨l ++ [⟨t1, wrap64 (t2 - 1), t3⟩], p4, s4, Ev.step (fun k => by rw [spec_l1Cur_events.l0]) (Ev.neg (by omega) (Ev.bindS e1 (Ev.pos rfl (Ev.bindS e2 (Ev.bindS e3 (Ev.bindS e4 ?_)))))), smallEv_snoc hs c0 (show t3 ≤ 1000 by have := c1 (by omega); omega), by (try simp); omega⟩
      exact Ev.pos (by omega) (Ev.now _)
  | n + 1, l, o, x, p, s, hl, hs, ho, hy, hx, hx2, h0, h1 => by
    obtain ⟨q, p1, s1, e1, a0, a1, q0, q1⟩ := spec_l1Cur_pick.ev hc s 4 h0 (by omega)
    obtain ⟨t, p2, s2, e2, b0, b1, q2, q3⟩ := spec_l1Cur_pick.ev hc s1 4 q0 (by omega)
    have ew : wrap64 (((n + 1 : Nat) : Int) - 1) = (n : Int) := by rw [w64 (by omega) (by omega)]; omega
    have ewx : wrap64 (x + 1) = x + 1 := w64 (by omega) (by omega)
    have j2 : ∀ b : Bool, ∃ r p' s', Ev (fun k => spec_l1Cur_events.j2 k l o x ((n + 1 : Nat) : Int) t b c p2 s2 1 q 0) (r, p', s') ∧ smallEv r ∧ r.length ≤ 62 := by
      intro b
      cases b with
      | true =>
        obtain ⟨r, p', s', h, hr⟩ := spec_l1Cur_events.loop hc n (l ++ [⟨2, q, x⟩]) (o ++ [x]) (x + 1) p2 s2 (by (try simp); omega) (smallEv_snoc hs (by show 0 ≤ x; omega) (by show x ≤ 1000; omega)) (by (try simp); omega) (by
          intro y hm
          rcases List.mem_append.1 hm with hm | hm
          · exact hy y hm
          · rw [List.mem_singleton.1 hm]; omega) (by omega) (by omega) q2 (by omega)
        refine ⟨r, p', s', Ev.step (fun k => by rw [spec_l1Cur_events.j2]) (Ev.pos rfl (Ev.pos (by omega) (Ev.pos (by omega) ?_))), hr⟩
        rw [ewx, ew]; exact h
      | false =>
        have plain : ∃ r p' s', Ev (fun k => spec_l1Cur_events.l0 k (l ++ [(⟨1, q, 0⟩ : S68)]) o x (n : Int) c p2 s2) (r, p', s') ∧ smallEv r ∧ r.length ≤ 62 := spec_l1Cur_events.loop hc n _ o x p2 s2 (by (try simp); omega) (smallEv_snoc hs (by show (0 : Int) ≤ 0; omega) (by show (0 : Int) ≤ 1000; omega)) (by omega) hy hx (by omega) q2 (by omega)
        by_cases c2 : t = 2
        · by_cases c3 : (o.length : Int) > 0
          · obtain ⟨j, p3, s3, e3, d0, d1, q4, q5⟩ := spec_l1Cur_pick.ev hc s2 (o.length : Int) q2 (by omega)
            have d1 := d1 (by omega)
            have ej : wrap64 (j + 1) = j + 1 := w64 (by omega) (by omega)
            have hj : rd o j = o[j.toNat]'(by omega) := by have h := rd_get (xs := o) (i := j.toNat) (by omega); rw [show ((j.toNat : Nat) : Int) = j by omega] at h; exact h
            have hm := hy (o[j.toNat]'(by omega)) (List.getElem_mem _)
            obtain ⟨r, p', s', h, hr⟩ := spec_l1Cur_events.loop hc n (l ++ [⟨3, q, rd o j⟩]) (([] ++ o.take j.toNat) ++ o.drop (j + 1).toNat) x p3 s3 (by (try simp); omega) (smallEv_snoc hs (by show 0 ≤ rd o j; rw [hj]; omega) (by show rd o j ≤ 1000; rw [hj]; omega)) (by (try simp); omega) (by
              intro y hm
              rcases List.mem_append.1 hm with hm | hm
              · exact hy y (List.mem_of_mem_take (by simpa using hm))
              · exact hy y (List.mem_of_mem_drop hm)) hx (by omega) q4 (by omega)
            refine ⟨r, p', s', Ev.step (fun k => by rw [spec_l1Cur_events.j2]) (Ev.neg (by simp) (Ev.pos c2 (Ev.pos c3 (Ev.bindS e3 ?_)))), hr⟩
            simp only [ej, ew]
            refine Ev.pos d0 (Ev.pos d1 (Ev.bindS rfl ?_))
            refine Ev.pos (by omega) (Ev.bindS rfl ?_)
            refine Ev.pos (by (try simp); omega) (Ev.bindS rfl ?_)
            refine Ev.pos (by omega) (Ev.pos (by omega) (Ev.bindS rfl ?_))
            refine Ev.pos (by (try simp); omega) (Ev.pos (by omega) ?_)
            exact h
          · obtain ⟨r, p', s', h, hr⟩ := plain
            refine ⟨r, p', s', Ev.step (fun k => by rw [spec_l1Cur_events.j2]) (Ev.neg (by simp) (Ev.pos c2 (Ev.neg c3 (Ev.pos (by omega) ?_)))), hr⟩
            rw [ew]; exact h
        · obtain ⟨r, p', s', h, hr⟩ := plain
          refine ⟨r, p', s', Ev.step (fun k => by rw [spec_l1Cur_events.j2]) (Ev.neg (by simp) (Ev.neg c2 (Ev.pos (by omega) ?_))), hr⟩
          rw [ew]; exact h
    by_cases c1 : t = 0
    · obtain ⟨r, p', s', h, hr⟩ := j2 (t == 0)
      exact ⟨r, p', s', Ev.step (fun k => by rw [spec_l1Cur_events.l0]) (Ev.pos (by omega) (Ev.bindS e1 (Ev.bindS e2 (Ev.pos c1 h)))), hr⟩
    · obtain ⟨r, p', s', h, hr⟩ := j2 (t == 1)
      exact ⟨r, p', s', Ev.step (fun k => by rw [spec_l1Cur_events.l0]) (Ev.pos (by omega) (Ev.bindS e1 (Ev.bindS e2 (Ev.neg c1 h)))), hr⟩
theorem spec_l1Cur_events.ev {c : List Int} (hc : inCur c) : ∃ r p' s', Ev (fun k => spec_l1Cur_events.f k c 0 0) (r, p', s') ∧ smallEv r ∧ r.length ≤ 62 := by
  unfold spec_l1Cur_events.f
  obtain ⟨n, p1, s1, e1, a0, a1, q0, q1⟩ := spec_l1Cur_pick.ev hc 0 14 (p := 0) (by omega) (by omega)
  have a1 := a1 (by omega)
  obtain ⟨b, p2, s2, e2, q2, q3⟩ := spec_l1Cur_one.ev hc s1 20 q0 (by omega)
  cases b with
  | true =>
    obtain ⟨m, p3, s3, e3, b0, b1, q4, q5⟩ := spec_l1Cur_pick.ev hc s2 2 q2 (by omega)
    have b1 := b1 (by omega)
    obtain ⟨r, p', s', h, hr⟩ := spec_l1Cur_events.loop hc (60 + m).toNat [] [] 1 p3 s3 (by (try simp); omega) (by simp [smallEv]) (by (try simp); omega) (by simp) (by omega) (by omega) q4 (by omega)
    refine ⟨r, p', s', Ev.bindS e1 (Ev.bindS e2 (Ev.pos rfl (Ev.bindS e3 (Ev.step (fun k => by rw [spec_l1Cur_events.j0]) ?_)))), hr⟩
    rw [show wrap64 (60 + m) = (((60 + m).toNat : Nat) : Int) by rw [w64 (by omega) (by omega)]; omega]
    exact h
  | false =>
    obtain ⟨r, p', s', h, hr⟩ := spec_l1Cur_events.loop hc n.toNat [] [] 1 p2 s2 (by (try simp); omega) (by simp [smallEv]) (by (try simp); omega) (by simp) (by omega) (by omega) q2 (by omega)
    refine ⟨r, p', s', Ev.bindS e1 (Ev.bindS e2 (Ev.neg (by simp) (Ev.step (fun k => by rw [spec_l1Cur_events.j0]) ?_))), hr⟩
    rw [show ((n.toNat : Nat) : Int) = n by omega] at h
    exact h

theorem spec_DrawGoodEvents.ev {c : List Int} (hc : inCur c) : ∃ r, Ev (fun k => spec_DrawGoodEvents.f k c) r ∧ smallEv r ∧ r.length ≤ 62 := by
  obtain ⟨r, p, s, h, hr⟩ := spec_l1Cur_events.ev hc
  exact ⟨r, by unfold spec_DrawGoodEvents.f; exact Ev.bind h (Ev.now _), hr⟩

theorem spec_DrawLamportOf.ev {c : List Int} (hc : inCur c) : ∃ r, Ev (fun k => spec_DrawLamportOf.f k c) r ∧ smallEv r ∧ r.length ≤ 62 := by
  obtain ⟨r, h, hr⟩ := spec_DrawGoodEvents.ev hc
  exact ⟨r, by unfold spec_DrawLamportOf.f; exact Ev.bind h (Ev.now _), hr⟩

theorem impl_in.ev (n a b : Int) : impl_in.f n a b = some (inB n a b) := by
  unfold impl_in.f inB
  by_cases h : a ≤ n
  · rw [if_pos h]; simp [h]
  · rw [if_neg h]; simp [h]

theorem spec_l1In.ev (n a b : Int) : spec_l1In.f n a b = some (inB n a b) := by
  unfold spec_l1In.f inB
  by_cases h : a ≤ n
  · rw [if_pos h]; simp [h]
  · rw [if_neg h]; simp [h]

theorem laws_sameInts.refl (l : List Int) (hl : l.length ≤ 1048576) : Ev (fun k => laws_sameInts.f k l l) true := by
  unfold laws_sameInts.f
  refine Ev.pos rfl (Ev.eq (Ev.up (g := fun k i => laws_sameInts.l0 k l l (l.length : Int) i) l.length (fun _ => true) ?_) rfl)
  intro i hi ih
  refine Ev.step (fun k => by rw [laws_sameInts.l0]) ?_
  by_cases hlt : i < l.length
  · rw [w64_succ hlt (by omega)]
    exact Ev.pos (by omega) (Ev.pos (by omega) (Ev.pos (by omega) (Ev.pos (by omega) (Ev.pos rfl (ih hlt)))))
  · exact Ev.neg (by omega) (Ev.now _)

theorem zip_len {a b : List Int} (h : b.length = a.length) : (List.zipWith mx a b).length = a.length := by rw [List.length_zipWith]; omega
theorem zip_get {a b : List Int} {i : Nat} (h : i < a.length) (h' : i < b.length) : (List.zipWith mx a b)[i]'(by rw [List.length_zipWith]; omega) = mx a[i] b[i] := by rw [List.getElem_zipWith]
theorem impl_greater.ev (a b : List Int) (h : b.length = a.length) (ha : a.length ≤ 1048576) : Ev (fun k => impl_greater.f k a b) (List.zipWith mx a b) := by
  unfold impl_greater.f
  have hz := zip_len h
  refine Ev.eq (Ev.congr (fun k => ?_) (Ev.up (g := fun k i => impl_greater.l0 k b ((List.zipWith mx a b).take i.toNat) a (a.length : Int) i) a.length (fun _ => List.zipWith mx a b) ?_)) rfl
  · simp
  intro i hi ih
  refine Ev.step (fun k => by rw [impl_greater.l0]) ?_
  simp only [Int.toNat_natCast]
  by_cases hlt : i < a.length
  · refine Ev.pos (by omega) (Ev.pos (by omega) (Ev.pos (by omega) (Ev.pos (by omega) (Ev.pos (by simp; omega) ?_))))
    rw [rd_get hlt, rd_get (by omega : i < b.length), w64_succ hlt (by omega), ← zip_get hlt (by omega : i < b.length), ← take_snoc _ (by omega)]
    have h2 := ih hlt
    simp only [Int.toNat_natCast] at h2
    exact h2
  · have : i = a.length := by omega
    subst this
    refine Ev.neg (by omega) (Ev.some ?_)
    rw [List.take_of_length_le (by omega)]

/-- The number of events of process p ahead of i. -/
def cnt (proc : Nat → Int) (p : Int) : Nat → Int
  | 0 => 0
  | i + 1 => cnt proc p i + if proc i = p then 1 else 0
inductive Reach (own sent : Nat → Option Nat) : Nat → Nat → Prop
  | refl (j : Nat) : Reach own sent j j
  | own {j k i : Nat} : own j = some k → Reach own sent k i → Reach own sent j i
  | sent {j k i : Nat} : sent j = some k → Reach own sent k i → Reach own sent j i
structure Clocks (n : Nat) (proc : Nat → Int) (own sent : Nat → Option Nat) : Prop where
  own1 : ∀ j k, j < n → own j = some k → k < j ∧ proc k = proc j ∧ ∀ m, k < m → m < j → proc m ≠ proc j
  own0 : ∀ j, j < n → own j = none → ∀ m, m < j → proc m ≠ proc j
  sent1 : ∀ j k, j < n → sent j = some k → k < j
def part (v : Nat → Int) : Option Nat → Int
  | none => 0
  | some k => v k
variable {n : Nat} {proc : Nat → Int} {own sent : Nat → Option Nat}
theorem cnt_nonneg (p : Int) (i : Nat) : 0 ≤ cnt proc p i := by
  induction i with
  | zero => simp [cnt]
  | succ i ih => simp only [cnt]; split <;> omega
theorem cnt_mono (p : Int) {i j : Nat} (h : i ≤ j) : cnt proc p i ≤ cnt proc p j := by
  induction j with
  | zero => rw [show i = 0 by omega]; exact Int.le_refl _
  | succ j ih =>
    by_cases e : i = j + 1
    · rw [e]; exact Int.le_refl _
    · have := ih (by omega); simp only [cnt]; split <;> omega
theorem cnt_le (p : Int) (i : Nat) : cnt proc p i ≤ i := by
  induction i with
  | zero => simp [cnt]
  | succ i ih => simp only [cnt]; split <;> omega
theorem cnt_skip (p : Int) {i j : Nat} (h : i ≤ j) (hn : ∀ m, i ≤ m → m < j → proc m ≠ p) : cnt proc p j = cnt proc p i := by
  induction j with
  | zero => rw [show i = 0 by omega]
  | succ j ih =>
    by_cases e : i = j + 1
    · rw [e]
    · rw [cnt, ih (by omega) (fun m h1 h2 => hn m h1 (by omega)), if_neg (hn j (by omega) (by omega))]; omega
theorem own_cnt (H : Clocks n proc own sent) {j : Nat} (hj : j < n) : cnt proc (proc j) j = part (fun k => cnt proc (proc j) (k + 1)) (own j) := by
  cases h : own j with
  | none => exact (cnt_skip (proc j) (Nat.zero_le j) (fun m _ h2 => H.own0 j hj h m h2)).trans rfl
  | some k => obtain ⟨h1, h2, h3⟩ := H.own1 j k hj h; exact (cnt_skip (proc j) (i := k + 1) (by omega) (fun m q1 q2 => h3 m (by omega) q2))
theorem Reach.le (H : Clocks n proc own sent) {i j : Nat} (h : Reach own sent j i) : j < n → i ≤ j := by
  induction h with
  | refl => intro _; omega
  | own e _ ih => intro hj; have := (H.own1 _ _ hj e).1; have := ih (by omega); omega
  | sent e _ ih => intro hj; have := H.sent1 _ _ hj e; have := ih (by omega); omega
/-- The vectors that the recursion gives. -/
def Vecs (n : Nat) (proc : Nat → Int) (own sent : Nat → Option Nat) (vec : Nat → Int → Int) : Prop :=
  ∀ j, j < n → ∀ i, i < n → vec j (proc i) = max (max 0 (part (fun k => vec k (proc i)) (own j))) (part (fun k => vec k (proc i)) (sent j)) + if proc j = proc i then 1 else 0
variable {vec : Nat → Int → Int}
theorem vec_cnt (H : Clocks n proc own sent) (V : Vecs n proc own sent vec) (i : Nat) (hi : i < n) : ∀ j, j < n → vec j (proc i) ≤ cnt proc (proc i) (j + 1) ∧ (proc j = proc i → vec j (proc i) = cnt proc (proc i) (j + 1)) := by
  intro j
  induction j using Nat.strongRecOn with
  | _ j ih =>
    intro hj
    have e := V j hj i hi
    have c0 := cnt_nonneg (proc := proc) (proc i) j
    have s1 : part (fun k => vec k (proc i)) (sent j) ≤ cnt proc (proc i) j := by
      cases h : sent j with
      | none => exact c0
      | some k =>
        have h1 := H.sent1 j k hj h
        exact Int.le_trans (ih k h1 (by omega)).1 (cnt_mono _ (by omega))
    have s2 : part (fun k => vec k (proc i)) (own j) ≤ cnt proc (proc i) j := by
      cases h : own j with
      | none => exact c0
      | some k =>
        have h1 := (H.own1 j k hj h).1
        exact Int.le_trans (ih k h1 (by omega)).1 (cnt_mono _ (by omega))
    have ec : cnt proc (proc i) (j + 1) = cnt proc (proc i) j + if proc j = proc i then 1 else 0 := rfl
    refine ⟨by rw [ec]; omega, fun hp => ?_⟩
    have s3 : part (fun k => vec k (proc i)) (own j) = cnt proc (proc i) j := by
      rw [← hp, own_cnt H hj, hp]
      cases h : own j with
      | none => rfl
      | some k =>
        obtain ⟨h1, h2, _⟩ := H.own1 j k hj h
        exact (ih k h1 (by omega)).2 (h2.trans hp)
    rw [ec]; omega
theorem vec_le (H : Clocks n proc own sent) (V : Vecs n proc own sent vec) {i j : Nat} (h : Reach own sent j i) : j < n → ∀ m, m < n → vec i (proc m) ≤ vec j (proc m) := by
  induction h with
  | refl => intro _ _ _; exact Int.le_refl _
  | @own j k i e _ ih =>
    intro hj m hm
    have h1 := (H.own1 _ _ hj e).1
    have h2 := ih (by omega) m hm
    have h3 := V j hj m hm
    rw [e] at h3; simp only [part] at h3
    split at h3 <;> omega
  | @sent j k i e _ ih =>
    intro hj m hm
    have h1 := H.sent1 _ _ hj e
    have h2 := ih (by omega) m hm
    have h3 := V j hj m hm
    rw [e] at h3; simp only [part] at h3
    split at h3 <;> omega
/-- The clock theorem. -/
theorem vec_iff (H : Clocks n proc own sent) (V : Vecs n proc own sent vec) {i : Nat} (hi : i < n) : ∀ j, j < n → (vec i (proc i) ≤ vec j (proc i) ↔ Reach own sent j i) := by
  intro j
  induction j using Nat.strongRecOn with
  | _ j ih =>
    intro hj
    constructor
    · intro h
      have ei := (vec_cnt H V i hi i hi).2 rfl
      rw [ei] at h
      have eci : cnt proc (proc i) (i + 1) = cnt proc (proc i) i + 1 := by simp [cnt]
      have c0 := cnt_nonneg (proc := proc) (proc i) i
      by_cases hp : proc j = proc i
      · rw [(vec_cnt H V i hi j hj).2 hp] at h
        have hij : i ≤ j := by
          apply Classical.byContradiction
          intro hn
          have := cnt_mono (proc := proc) (proc i) (i := j + 1) (j := i) (by omega)
          omega
        by_cases e : i = j
        · rw [e]; exact .refl j
        · cases ho : own j with
          | none => exact absurd hp.symm (H.own0 j hj ho i (by omega))
          | some k =>
            obtain ⟨h1, h2, h3⟩ := H.own1 j k hj ho
            have hik : i ≤ k := by
              apply Classical.byContradiction
              intro hn
              exact h3 i (by omega) (by omega) hp.symm
            refine .own ho ((ih k h1 (by omega)).1 ?_)
            rw [ei, (vec_cnt H V i hi k (by omega)).2 (h2.trans hp)]
            exact cnt_mono _ (by omega)
      · have e := V j hj i hi
        rw [if_neg hp] at e
        have hh : cnt proc (proc i) (i + 1) ≤ part (fun k => vec k (proc i)) (own j) ∨ cnt proc (proc i) (i + 1) ≤ part (fun k => vec k (proc i)) (sent j) := by omega
        cases hh with
        | inl hh =>
          cases ho : own j with
          | none => rw [ho] at hh; simp only [part] at hh; omega
          | some k =>
            rw [ho] at hh; simp only [part] at hh
            have h1 := (H.own1 j k hj ho).1
            exact .own ho ((ih k h1 (by omega)).1 (by rw [ei]; exact hh))
        | inr hh =>
          cases ho : sent j with
          | none => rw [ho] at hh; simp only [part] at hh; omega
          | some k =>
            rw [ho] at hh; simp only [part] at hh
            have h1 := H.sent1 j k hj ho
            exact .sent ho ((ih k h1 (by omega)).1 (by rw [ei]; exact hh))
    · intro h; exact vec_le H V h hj i hi
/-- The clock condition. -/
theorem lam_lt (H : Clocks n proc own sent) {t : Nat → Int} (T : ∀ j, j < n → t j = max (max 0 (part t (own j))) (part t (sent j)) + 1) {i j : Nat} (h : Reach own sent j i) : j < n → i ≠ j → t i < t j := by
  induction h with
  | refl => intro _ h; exact absurd rfl h
  | @own j k i e _ ih =>
    intro hj hne
    have h1 := (H.own1 _ _ hj e).1
    have h3 := T j hj
    rw [e] at h3; simp only [part] at h3
    by_cases q : i = k
    · rw [q]; omega
    · have := ih (by omega) q; omega
  | @sent j k i e _ ih =>
    intro hj hne
    have h1 := H.sent1 _ _ hj e
    have h3 := T j hj
    rw [e] at h3; simp only [part] at h3
    by_cases q : i = k
    · rw [q]; omega
    · have := ih (by omega) q; omega
/-- The k-th event. -/
def E (l : List S68) (k : Nat) : S68 := l.getD k z68
theorem rdE (l : List S68) (k : Nat) : rd_T68 l (k : Int) = E l k := by simp [rd_T68, E]
theorem E_get {l : List S68} {k : Nat} (h : k < l.length) : E l k = l[k] := by simp [E, h]
theorem E_take {l : List S68} {k j : Nat} (h : k < j) : E (l.take j) k = E l k := by simp [E, List.getElem?_take, h]
theorem E_succ (e : S68) (l : List S68) (k : Nat) : E (e :: l) (k + 1) = E l k := by simp [E]
def lastP (p : Nat → Bool) : Nat → Option Nat
  | 0 => none
  | m + 1 => if p m then some m else lastP p m
theorem lastP_some {p : Nat → Bool} {k : Nat} : ∀ {m : Nat}, lastP p m = some k → k < m ∧ p k = true ∧ ∀ j, k < j → j < m → p j = false
  | 0, h => by simp [lastP] at h
  | m + 1, h => by
    simp only [lastP] at h
    by_cases c : p m = true
    · rw [if_pos c] at h; injection h with h; subst h
      exact ⟨by omega, c, fun j h1 h2 => by omega⟩
    · rw [if_neg c] at h
      obtain ⟨h1, h2, h3⟩ := lastP_some h
      refine ⟨by omega, h2, fun j q1 q2 => ?_⟩
      by_cases e : j = m
      · rw [e]; simpa using c
      · exact h3 j q1 (by omega)
theorem lastP_none {p : Nat → Bool} : ∀ {m : Nat}, lastP p m = none → ∀ j, j < m → p j = false
  | 0, _, j, hj => by omega
  | m + 1, h, j, hj => by
    simp only [lastP] at h
    by_cases c : p m = true
    · rw [if_pos c] at h; cases h
    · rw [if_neg c] at h
      by_cases e : j = m
      · rw [e]; simpa using c
      · exact lastP_none h j (by omega)
def o2i : Option Nat → Int
  | none => -1
  | some k => (k : Int)
def optL : Option Nat → List Int
  | none => []
  | some k => [(k : Int)]
def ownP (l : List S68) (j k : Nat) : Bool := decide ((E l k).f1 = (E l j).f1)
def sentP (l : List S68) (j k : Nat) : Bool := decide ((E l j).f0 = 3) && (decide ((E l k).f0 = 2) && decide ((E l k).f2 = (E l j).f2))
def ownO (l : List S68) (j : Nat) : Option Nat := lastP (ownP l j) j
def sentO (l : List S68) (j : Nat) : Option Nat := lastP (sentP l j) j
theorem spec_l2Causes.ev {l : List S68} {j : Nat} (hj : j < l.length) (hl : l.length ≤ 1000000) : Ev (fun k => spec_l2Causes.f k l (j : Int)) (o2i (ownO l j), o2i (sentO l j)) := by
  unfold spec_l2Causes.f
  refine Ev.pos (by omega) (Ev.pos (by omega) (Ev.bindS rfl ?_))
  simp only [Int.toNat_natCast]
  have ht : ((l.take j).length : Int) = j := by simp; omega
  rw [ht]
  have key : ∀ d i : Nat, i + d = j → Ev (fun k => spec_l2Causes.l0 k l (j : Int) (o2i (lastP (ownP l j) i)) (o2i (lastP (sentP l j) i)) (l.take j) (j : Int) (i : Int)) (o2i (ownO l j), o2i (sentO l j)) := by
    intro d
    induction d with
    | zero =>
      intro i hi
      have hi : i = j := by omega
      refine Ev.step (fun k => by rw [spec_l2Causes.l0]) (Ev.neg (by omega) (Ev.some ?_))
      rw [hi]; rfl
    | succ d ih =>
      intro i hi
      have ih := ih (i + 1) (by omega)
      have e1 : o2i (lastP (ownP l j) (i + 1)) = if (E l i).f1 = (E l j).f1 then (i : Int) else o2i (lastP (ownP l j) i) := by
        simp only [lastP, ownP, decide_eq_true_eq]; split <;> simp_all [o2i]
      have e2 : o2i (lastP (sentP l j) (i + 1)) = if (E l j).f0 = 3 then (if (E l i).f0 = 2 then (if (E l i).f2 = (E l j).f2 then (i : Int) else o2i (lastP (sentP l j) i)) else o2i (lastP (sentP l j) i)) else o2i (lastP (sentP l j) i) := by
        by_cases c1 : (E l j).f0 = 3 <;> by_cases c2 : (E l i).f0 = 2 <;> by_cases c3 : (E l i).f2 = (E l j).f2 <;> simp [lastP, sentP, c1, c2, c3, o2i]
      rw [e1, e2] at ih
      refine Ev.step (fun k => by rw [spec_l2Causes.l0]) ?_
      simp only [rdE, E_take (show i < j by omega), w64_succ (show i < j by omega) (show j ≤ 9223372036854775807 by omega)]
      refine Ev.pos (by omega) (Ev.pos (by omega) (Ev.pos (by simp; omega) (Ev.pos (by omega) (Ev.pos (by omega) ?_))))
      by_cases c1 : (E l i).f1 = (E l j).f1 <;> by_cases c2 : (E l j).f0 = 3 <;> by_cases c3 : (E l i).f0 = 2 <;> by_cases c4 : (E l i).f2 = (E l j).f2
      all_goals simp only [c1, c2, c3, c4, if_true, if_false] at ih ⊢
      all_goals first | exact ih | simpa using ih
  exact key j 0 (by omega)
def matchL (p : Nat → Bool) : Nat → List Int
  | 0 => []
  | m + 1 => matchL p m ++ (if p m then [(m : Int)] else [])
theorem matchL_len (p : Nat → Bool) : ∀ m, (matchL p m).length ≤ m
  | 0 => by simp [matchL]
  | m + 1 => by have := matchL_len p m; simp only [matchL, List.length_append]; split <;> simp <;> omega
theorem matchL_none {p : Nat → Bool} : ∀ {m : Nat}, (∀ j, j < m → p j = false) → matchL p m = []
  | 0, _ => rfl
  | m + 1, h => by
    have h2 : matchL p m = [] := matchL_none (fun j hj => h j (by omega))
    simp [matchL, h m (by omega), h2]
theorem matchL_one {p : Nat → Bool} : ∀ {m : Nat}, (∀ a b, a < m → b < m → p a = true → p b = true → a = b) → matchL p m = optL (lastP p m)
  | 0, _ => rfl
  | m + 1, h => by
    by_cases c : p m = true
    · have : matchL p m = [] := matchL_none (fun j hj => by
        cases hp : p j with
        | false => rfl
        | true => have := h j m (by omega) (by omega) hp c; omega)
      simp [matchL, lastP, c, this, optL]
    · simp only [matchL, lastP, if_neg c, List.append_nil]
      exact matchL_one (fun a b ha hb => h a b (by omega) (by omega))
def UniqS (l : List S68) : Prop := ∀ a b, a < l.length → b < l.length → (E l a).f0 = 2 → (E l b).f0 = 2 → (E l a).f2 = (E l b).f2 → a = b
def causeL (l : List S68) (j : Nat) : List Int := optL (ownO l j) ++ optL (sentO l j)
theorem impl_causes.ev {l : List S68} {j : Nat} (hj : j < l.length) (hl : l.length ≤ 1000000) (hu : UniqS l) : Ev (fun k => impl_causes.f k l (j : Int)) (causeL l j) := by
  unfold impl_causes.f
  have hm : matchL (sentP l j) j = optL (sentO l j) := matchL_one (fun a b ha hb pa pb => by
    simp only [sentP, Bool.and_eq_true, decide_eq_true_eq] at pa pb
    exact hu a b (by omega) (by omega) pa.2.1 pb.2.1 (pa.2.2.trans pb.2.2.symm))
  have j1 : ∀ pre : List Int, pre.length ≤ 1 → Ev (fun k => impl_causes.j1 k l (j : Int) pre) (pre ++ optL (sentO l j)) := by
    intro pre hp
    refine Ev.step (fun k => by rw [impl_causes.j1]) ?_
    have key : ∀ d i : Nat, i + d = j → Ev (fun k => impl_causes.l1 k l (j : Int) (pre ++ matchL (sentP l j) i) (j : Int) (i : Int)) (pre ++ optL (sentO l j)) := by
      intro d
      induction d with
      | zero =>
        intro i hi
        have hi : i = j := by omega
        refine Ev.step (fun k => by rw [impl_causes.l1]) (Ev.neg (by omega) (Ev.some ?_))
        rw [hi, hm]
      | succ d ih =>
        intro i hi
        have ih := ih (i + 1) (by omega)
        have hlen := matchL_len (sentP l j) i
        have e2 : matchL (sentP l j) (i + 1) = if (E l j).f0 = 3 then (if (E l i).f0 = 2 then (if (E l i).f2 = (E l j).f2 then matchL (sentP l j) i ++ [(i : Int)] else matchL (sentP l j) i) else matchL (sentP l j) i) else matchL (sentP l j) i := by
          by_cases c1 : (E l j).f0 = 3 <;> by_cases c2 : (E l i).f0 = 2 <;> by_cases c3 : (E l i).f2 = (E l j).f2 <;> simp [matchL, sentP, c1, c2, c3]
        rw [e2] at ih
        refine Ev.step (fun k => by rw [impl_causes.l1]) ?_
        simp only [rdE, w64_succ (show i < j by omega) (show j ≤ 9223372036854775807 by omega)]
        refine Ev.pos (by omega) (Ev.pos (by omega) (Ev.pos (by omega) ?_))
        by_cases c1 : (E l j).f0 = 3
        · rw [if_pos c1] at ih
          refine Ev.pos c1 (Ev.pos (by omega) (Ev.pos (by omega) ?_))
          by_cases c2 : (E l i).f0 = 2
          · rw [if_pos c2] at ih
            refine Ev.pos c2 ?_
            by_cases c3 : (E l i).f2 = (E l j).f2
            · rw [if_pos c3] at ih
              refine Ev.pos c3 (Ev.pos (by simp; omega) ?_)
              rw [List.append_assoc]; exact ih
            · rw [if_neg c3] at ih; exact Ev.neg c3 ih
          · rw [if_neg c2] at ih; exact Ev.neg c2 ih
        · rw [if_neg c1] at ih; exact Ev.neg c1 ih
    have := key j 0 (by omega)
    simp only [matchL, List.append_nil] at this
    exact this
  have down : ∀ i : Nat, i ≤ j → ownO l j = lastP (ownP l j) i → Ev (fun k => impl_causes.l0 k l (j : Int) [] ((i : Int) - 1)) (causeL l j) := by
    intro i
    induction i with
    | zero =>
      intro _ ho
      have h := j1 [] (by simp)
      refine Ev.step (fun k => by rw [impl_causes.l0]) (Ev.neg (by omega) ?_)
      unfold causeL; rw [ho]; exact h
    | succ m ih =>
      intro hi ho
      refine Ev.step (fun k => by rw [impl_causes.l0]) ?_
      have e : (((m + 1 : Nat) : Int) - 1) = (m : Int) := by omega
      simp only [e, rdE]
      refine Ev.pos (by omega) (Ev.pos (by omega) (Ev.pos (by omega) (Ev.pos (by omega) (Ev.pos (by omega) ?_))))
      by_cases c : (E l m).f1 = (E l j).f1
      · have ho' : ownO l j = some m := by rw [ho]; simp [lastP, ownP, c]
        refine Ev.pos c (Ev.pos (by simp) ?_)
        have h := j1 [(m : Int)] (by simp)
        unfold causeL; rw [ho']; exact h
      · have ho' : ownO l j = lastP (ownP l j) m := by rw [ho]; simp [lastP, ownP, c]
        refine Ev.neg c ?_
        rw [w64 (by omega) (by omega)]
        exact ih (by omega) ho'
  have h := down j (Nat.le_refl _) rfl
  rw [w64 (by omega) (by omega)]
  exact h
/-- Events that are good. -/
def areEv (l : List S68) : Bool := goodEv l [] [] && decide (l.length ≤ 60)
theorem impl_areEvents.ev {l : List S68} (h : smallEv l) (k : Nat) : impl_areEvents.f k l = some (areEv l) := by
  unfold impl_areEvents.f
  rw [if_pos]; · rfl
  rw [List.all_eq_true]
  intro e he
  have := h e he
  have h2 : IntKind.i64.min ≤ e.f2 ∧ e.f2 ≤ IntKind.i64.max := ⟨by show -9223372036854775808 ≤ e.f2; omega, by show e.f2 ≤ 9223372036854775807; omega⟩
  simpa [szEv, Lit.wf] using h2
theorem okEv_f1 {S T : List Int} {e : S68} (h : okEv S T e = true) : 0 ≤ e.f1 ∧ e.f1 ≤ 5 := by
  unfold okEv at h; rw [Bool.and_eq_true] at h; exact inB_iff.1 h.1
theorem goodEv_facts : ∀ {l : List S68} {S T : List Int}, goodEv l S T = true → (∀ a, a < l.length → 0 ≤ (E l a).f1 ∧ (E l a).f1 ≤ 5) ∧ (∀ a, a < l.length → (E l a).f0 = 2 → (E l a).f2 ∉ S) ∧ UniqS l
  | [], S, T, _ => ⟨fun a h => by simp at h, fun a h => by simp at h, fun a b h => by simp at h⟩
  | e :: r, S, T, h => by
    simp only [goodEv, Bool.and_eq_true] at h
    obtain ⟨h0, h1⟩ := h
    obtain ⟨i1, i2, i3⟩ := goodEv_facts h1
    have hz : e.f0 = 2 → e.f2 ∉ S := by
      intro c hm
      unfold okEv at h0
      simp [c, hm] at h0
    refine ⟨fun a ha => ?_, fun a ha c => ?_, fun a b ha hb ca cb hab => ?_⟩
    · cases a with
      | zero => exact okEv_f1 h0
      | succ a => rw [E_succ]; exact i1 a (by simpa using ha)
    · cases a with
      | zero => exact hz c
      | succ a =>
        rw [E_succ] at c ⊢
        have := i2 a (by simpa using ha) c
        intro hm
        apply this
        split
        · exact List.mem_cons_of_mem _ hm
        · exact hm
    · cases a with
      | zero =>
        cases b with
        | zero => rfl
        | succ b =>
          rw [E_succ] at cb hab
          have := i2 b (by simpa using hb) cb
          have ca' : e.f0 = 2 := ca
          rw [if_pos ca'] at this
          exact absurd (by rw [← hab]; exact List.mem_cons_self) this
      | succ a =>
        cases b with
        | zero =>
          rw [E_succ] at ca hab
          have := i2 a (by simpa using ha) ca
          have cb' : e.f0 = 2 := cb
          rw [if_pos cb'] at this
          exact absurd (by rw [hab]; exact List.mem_cons_self) this
        | succ b =>
          rw [E_succ] at ca cb
          rw [E_succ, E_succ] at hab
          rw [i3 a b (by simpa using ha) (by simpa using hb) ca cb hab]
/-- What the reference asks of an event behind others. -/
def twin (a b : Int) (o : S68) : Bool := decide (o.f2 = b) && decide (o.f0 = a)
theorem spec_GoodEvents.inner {l : List S68} {n i : Int} {a q b : Int} {r : Bool} (P : List S68) (hP : P.length ≤ 1000000) : ∀ (d j : Nat) (s : Bool), j + d = P.length →
    (((P.drop j).any (twin a b) = true → r = false) ∧ ((P.drop j).any (twin a b) = false → Ev (fun k => (spec_l1In.f b 1 1000).bind fun t212 => (if t212 = true then (if a = 3 then (if (s || (P.drop j).any (twin 2 b)) = true then (spec_GoodEvents.l0 k l l n (wrap64 (i + 1))) else (some false)) else (spec_GoodEvents.l0 k l l n (wrap64 (i + 1)))) else (some false))) r)) →
    Ev (fun k => spec_GoodEvents.l1 k l s l n i P (P.length : Int) (j : Int) a q b) r
  | 0, j, s, hj, h => by
    have e : P.drop j = [] := List.drop_eq_nil_of_le (by omega)
    rw [e] at h
    refine Ev.step (fun k => by rw [spec_GoodEvents.l1]) (Ev.neg (by omega) ?_)
    have h2 := h.2 rfl
    simpa using h2
  | d + 1, j, s, hj, h => by
    have hlt : j < P.length := by omega
    have e : P.drop j = P[j] :: P.drop (j + 1) := List.drop_eq_getElem_cons hlt
    have ih := fun s' h' => spec_GoodEvents.inner (l := l) (n := n) (i := i) (a := a) (q := q) (b := b) (r := r) P hP d (j + 1) s' (by omega) h'
    rw [e] at h
    simp only [List.any_cons] at h
    refine Ev.step (fun k => by rw [spec_GoodEvents.l1]) ?_
    simp only [rdE, w64_succ hlt (show P.length ≤ 9223372036854775807 by omega), E_get hlt]
    refine Ev.pos (by omega) (Ev.pos (by omega) (Ev.pos (by omega) ?_))
    by_cases c1 : P[j].f2 = b
    · refine Ev.pos c1 ?_
      by_cases c2 : P[j].f0 = a
      · refine Ev.pos c2 (Ev.some ?_)
        exact (h.1 (by simp [twin, c1, c2])).symm
      · refine Ev.neg c2 ?_
        have t1 : twin a b P[j] = false := by simp [twin, c2]
        rw [t1] at h
        simp only [Bool.false_or] at h
        cases s with
        | true => exact Ev.pos rfl (ih true (by simpa using h))
        | false =>
          refine Ev.neg (by simp) (ih _ ?_)
          have t2 : twin 2 b P[j] = (P[j].f0 == 2) := by simp [twin, c1]; rfl
          simp only [t2] at h
          simpa using h
    · refine Ev.neg c1 ?_
      have t1 : twin a b P[j] = false := by simp [twin, c1]
      have t2 : twin 2 b P[j] = false := by simp [twin, c1]
      simp only [t1, t2, Bool.false_or] at h
      cases s with
      | true => exact Ev.pos rfl (ih true h)
      | false => exact Ev.neg (by simp) (ih false h)
theorem any_twin {P : List S68} {a b : Int} {S : List Int} (h : ∀ x, x ∈ S ↔ ∃ o ∈ P, o.f0 = a ∧ o.f2 = x) : P.any (twin a b) = decide (b ∈ S) := by
  rw [Bool.eq_iff_iff, List.any_eq_true, decide_eq_true_eq, h]
  simp only [twin, Bool.and_eq_true, decide_eq_true_eq]
  constructor
  · rintro ⟨o, h1, h2, h3⟩; exact ⟨o, h1, h3, h2⟩
  · rintro ⟨o, h1, h2, h3⟩; exact ⟨o, h1, h3, h2⟩
theorem mem_more {P : List S68} {e : S68} {a : Int} {S : List Int} (h : ∀ x, x ∈ S ↔ ∃ o ∈ P, o.f0 = a ∧ o.f2 = x) : ∀ x, x ∈ (if e.f0 = a then e.f2 :: S else S) ↔ ∃ o ∈ P ++ [e], o.f0 = a ∧ o.f2 = x := by
  intro x
  by_cases c : e.f0 = a
  · rw [if_pos c, List.mem_cons, h]
    constructor
    · rintro (rfl | ⟨o, h1, h2⟩)
      · exact ⟨e, by simp, c, rfl⟩
      · exact ⟨o, by simp [h1], h2⟩
    · rintro ⟨o, h1, h2, h3⟩
      rcases List.mem_append.1 h1 with h1 | h1
      · exact .inr ⟨o, h1, h2, h3⟩
      · rw [List.mem_singleton] at h1; subst h1; exact .inl h3.symm
  · rw [if_neg c, h]
    constructor
    · rintro ⟨o, h1, h2⟩; exact ⟨o, by simp [h1], h2⟩
    · rintro ⟨o, h1, h2, h3⟩
      rcases List.mem_append.1 h1 with h1 | h1
      · exact ⟨o, h1, h2, h3⟩
      · rw [List.mem_singleton] at h1; subst h1; exact absurd h2 c
theorem spec_GoodEvents.ev {l : List S68} (hl : l.length ≤ 1000000) : Ev (fun k => spec_GoodEvents.f k l) (areEv l) := by
  unfold spec_GoodEvents.f
  have key : ∀ (d i : Nat) (S T : List Int), i + d = l.length → (∀ x, x ∈ S ↔ ∃ o ∈ l.take i, o.f0 = 2 ∧ o.f2 = x) → (∀ x, x ∈ T ↔ ∃ o ∈ l.take i, o.f0 = 3 ∧ o.f2 = x) → (∀ x ∈ S, 1 ≤ x ∧ x ≤ 1000) →
      Ev (fun k => spec_GoodEvents.l0 k l l (l.length : Int) (i : Int)) (goodEv (l.drop i) S T && decide (l.length ≤ 60)) := by
    intro d
    induction d with
    | zero =>
      intro i S T hi _ _ _
      have hi : i = l.length := by omega
      refine Ev.step (fun k => by rw [spec_GoodEvents.l0]) (Ev.neg (by omega) (Ev.some ?_))
      rw [hi, List.drop_length]
      exact decide_eq_decide.2 (by omega)
    | succ d ih =>
      intro i S T hi hS hT hB
      have hlt : i < l.length := by omega
      have eg : goodEv (l.drop i) S T = (okEv S T l[i] && goodEv (l.drop (i + 1)) (if l[i].f0 = 2 then l[i].f2 :: S else S) (if l[i].f0 = 3 then l[i].f2 :: T else T)) := by
        rw [List.drop_eq_getElem_cons hlt]; rfl
      rw [eg]
      have et : l.take (i + 1) = l.take i ++ [l[i]] := take_snoc l hlt
      have next : okEv S T l[i] = true → Ev (fun k => spec_GoodEvents.l0 k l l (l.length : Int) (((i + 1 : Nat)) : Int)) (goodEv (l.drop (i + 1)) (if l[i].f0 = 2 then l[i].f2 :: S else S) (if l[i].f0 = 3 then l[i].f2 :: T else T) && decide (l.length ≤ 60)) := by
        intro ho
        refine ih (i + 1) _ _ (by omega) (by rw [et]; exact mem_more hS) (by rw [et]; exact mem_more hT) ?_
        intro x hx
        by_cases c : l[i].f0 = 2
        · rw [if_pos c] at hx
          rcases List.mem_cons.1 hx with rfl | hx
          · unfold okEv at ho
            simp only [c, Bool.and_eq_true] at ho
            have := ho.2
            simp only [if_neg (show ¬ (2 : Int) = 1 by omega), if_true, Bool.and_eq_true] at this
            exact inB_iff.1 this.1
          · exact hB x hx
        · rw [if_neg c] at hx; exact hB x hx
      refine Ev.step (fun k => by rw [spec_GoodEvents.l0]) ?_
      simp only [rdE, w64_succ hlt (show l.length ≤ 9223372036854775807 by omega), E_get hlt]
      refine Ev.pos (by omega) (Ev.pos (by omega) (Ev.pos (by omega) (Ev.bindS (spec_l1In.ev _ _ _) ?_)))
      by_cases c0 : inB l[i].f0 1 3 = true
      rotate_left
      · refine Ev.neg c0 (Ev.step (fun k => by rw [spec_GoodEvents.j1]) (Ev.pos rfl (Ev.some ?_)))
        have : ¬ (1 ≤ l[i].f0 ∧ l[i].f0 ≤ 3) := fun h => c0 (inB_iff.2 h)
        have n1 : ¬ l[i].f0 = 1 := by omega
        have n2 : ¬ l[i].f0 = 2 := by omega
        have n3 : ¬ l[i].f0 = 3 := by omega
        simp [okEv, n1, n2, n3]
      refine Ev.pos c0 (Ev.bindS (spec_l1In.ev _ _ _) (Ev.step (fun k => by rw [spec_GoodEvents.j1]) ?_))
      by_cases c1 : inB l[i].f1 0 5 = true
      rotate_left
      · refine Ev.pos (by simp [c1]) (Ev.some ?_)
        simp [okEv, c1]
      refine Ev.neg (by simp [c1]) ?_
      by_cases d1 : l[i].f0 = 1
      · refine Ev.pos d1 ?_
        by_cases d2 : l[i].f2 = 0
        · refine Ev.pos d2 ?_
          have ho : okEv S T l[i] = true := by simp [okEv, c1, d1, d2]
          rw [ho, Bool.true_and, w64_succ hlt (by omega)]
          exact next ho
        · refine Ev.neg d2 (Ev.some ?_)
          simp [okEv, d1, d2]
      · refine Ev.neg d1 (Ev.pos (by omega) (Ev.pos (by omega) (Ev.bindS rfl ?_)))
        simp only [Int.toNat_natCast]
        have aS := fun b => any_twin (P := l.take i) (a := 2) (b := b) hS
        have aT := fun b => any_twin (P := l.take i) (a := 3) (b := b) hT
        refine spec_GoodEvents.inner (l.take i) (by simp; omega) (l.take i).length 0 false (by omega) ⟨fun h => ?_, fun h => Ev.bindS (spec_l1In.ev _ _ _) ?_⟩
        · simp only [List.drop_zero] at h
          have hc := inB_iff.1 c0
          by_cases d2 : l[i].f0 = 2
          · rw [d2, aS] at h
            have := of_decide_eq_true h
            simp [okEv, d2, this]
          · have d3 : l[i].f0 = 3 := by omega
            rw [d3, aT] at h
            have := of_decide_eq_true h
            simp [okEv, d3, this]
        · simp only [List.drop_zero, Bool.false_or] at h ⊢
          have hc := inB_iff.1 c0
          rw [aS]
          rw [w64_succ hlt (by omega)]
          by_cases d2 : l[i].f0 = 2
          · rw [d2, aS] at h
            have hn := of_decide_eq_false h
            by_cases b1 : inB l[i].f2 1 1000 = true
            · refine Ev.pos b1 (Ev.neg (by omega) ?_)
              have ho : okEv S T l[i] = true := by simp [okEv, c1, d2, b1, hn]
              rw [ho, Bool.true_and]
              exact next ho
            · refine Ev.neg b1 (Ev.some ?_)
              simp [okEv, d2, b1]
          · have d3 : l[i].f0 = 3 := by omega
            rw [d3, aT] at h
            have hn := of_decide_eq_false h
            by_cases hm : l[i].f2 ∈ S
            · have b1 : inB l[i].f2 1 1000 = true := inB_iff.2 (hB _ hm)
              refine Ev.pos b1 (Ev.pos d3 (Ev.pos (decide_eq_true hm) ?_))
              have ho : okEv S T l[i] = true := by simp [okEv, c1, d3, hm, hn]
              rw [ho, Bool.true_and]
              exact next ho
            · have ho : okEv S T l[i] = false := by simp [okEv, d3, hm]
              rw [ho, Bool.false_and]
              by_cases b1 : inB l[i].f2 1 1000 = true
              · exact Ev.pos b1 (Ev.pos d3 (Ev.neg (by simp [hm]) (Ev.now _)))
              · exact Ev.neg b1 (Ev.now _)
  exact key l.length 0 [] [] (by omega) (by simp) (by simp) (by simp)
section
variable {α : Type} (z : α) (step : Nat → List α → α)
def build : Nat → List α
  | 0 => []
  | i + 1 => build i ++ [step i (build i)]
theorem build_len : ∀ n, (build step n).length = n
  | 0 => rfl
  | n + 1 => by simp [build, build_len n]
theorem build_get {k : Nat} : ∀ {n : Nat}, k < n → (build step n).getD k z = step k (build step k)
  | 0, h => by omega
  | n + 1, h => by
    by_cases e : k = n
    · subst e
      simp [build, List.getD_eq_getElem?_getD, List.getElem?_append, build_len]
    · have h2 := build_get (n := n) (show k < n by omega)
      rw [← h2]
      simp [build, List.getD_eq_getElem?_getD, List.getElem?_append, build_len, show k < n by omega]
end
theorem part_congr {f g : Nat → Int} {o : Option Nat} (h : ∀ k, o = some k → f k = g k) : part f o = part g o := by
  cases o with
  | none => rfl
  | some k => exact h k rfl
theorem own_lt {l : List S68} {j k : Nat} (h : ownO l j = some k) : k < j := (lastP_some h).1
theorem sent_lt {l : List S68} {j k : Nat} (h : sentO l j = some k) : k < j := (lastP_some h).1
/-- Lamport's numbers. -/
def lamStep (l : List S68) (j : Nat) (t : List Int) : Int := max (max 0 (part (fun k => t.getD k 0) (ownO l j))) (part (fun k => t.getD k 0) (sentO l j)) + 1
def lamL (l : List S68) : Nat → List Int := build (lamStep l)
def lamT (l : List S68) (k : Nat) : Int := lamStep l k (lamL l k)
theorem lamL_get {l : List S68} {k n : Nat} (h : k < n) : (lamL l n).getD k 0 = lamT l k := build_get 0 (lamStep l) h
theorem lamL_len (l : List S68) (n : Nat) : (lamL l n).length = n := build_len (lamStep l) n
theorem lamT_eq (l : List S68) (j : Nat) : lamT l j = max (max 0 (part (lamT l) (ownO l j))) (part (lamT l) (sentO l j)) + 1 := by
  have e1 : part (fun k => (lamL l j).getD k 0) (ownO l j) = part (lamT l) (ownO l j) := part_congr (fun k h => lamL_get (own_lt h))
  have e2 : part (fun k => (lamL l j).getD k 0) (sentO l j) = part (lamT l) (sentO l j) := part_congr (fun k h => lamL_get (sent_lt h))
  show lamStep l j (lamL l j) = _
  unfold lamStep; rw [e1, e2]
theorem part_bound {f : Nat → Int} {o : Option Nat} {j : Nat} (ho : ∀ k, o = some k → k < j) (hf : ∀ k, k < j → 0 ≤ f k ∧ f k ≤ k + 1) : 0 ≤ part f o ∧ part f o ≤ j := by
  cases o with
  | none => simp [part]
  | some k => have := ho k rfl; have := hf k this; simp only [part]; omega
theorem lamT_bound (l : List S68) : ∀ j, 0 ≤ lamT l j ∧ lamT l j ≤ j + 1 := by
  intro j
  induction j using Nat.strongRecOn with
  | _ j ih =>
    have h1 := part_bound (f := lamT l) (o := ownO l j) (j := j) (fun k => own_lt) ih
    have h2 := part_bound (f := lamT l) (o := sentO l j) (j := j) (fun k => sent_lt) ih
    rw [lamT_eq]; omega
theorem mx_max (a b : Int) : mx a b = max a b := by unfold mx; split <;> omega
/-- The program's numbers. -/
theorem impl_LamportOf.inner {l : List S68} {t : List Int} {n i : Int} {r : List Int × Bool} (ht : t.length ≤ 1000000) (c : List Int) (hlen : c.length ≤ 1000000) (hc : ∀ q ∈ c, 0 ≤ q ∧ q < (t.length : Int)) : ∀ (d j : Nat) (x : Int), j + d = c.length →
    Ev (fun k => impl_LamportOf.l0 k l (t ++ [wrap64 ((c.drop j).foldl (fun m q => mx m (rd t q)) x + 1)]) n (wrap64 (i + 1))) r →
    Ev (fun k => impl_LamportOf.l1 k l t x n i c (c.length : Int) (j : Int)) r
  | 0, j, x, hj, h => by
    have e : c.drop j = [] := List.drop_eq_nil_of_le (by omega)
    rw [e] at h
    refine Ev.step (fun k => by rw [impl_LamportOf.l1]) ?_
    exact Ev.neg (by omega) (Ev.pos (by omega) h)
  | d + 1, j, x, hj, h => by
    have hlt : j < c.length := by omega
    have e : c.drop j = c[j] :: c.drop (j + 1) := List.drop_eq_getElem_cons hlt
    rw [e] at h
    have ih := impl_LamportOf.inner (l := l) (n := n) (i := i) (r := r) ht c hlen hc d (j + 1) (mx x (rd t c[j])) (by omega) h
    have hq := hc _ (List.getElem_mem hlt)
    refine Ev.step (fun k => by rw [impl_LamportOf.l1]) ?_
    simp only [rd_get hlt, w64_succ hlt (show c.length ≤ 9223372036854775807 by omega)]
    exact Ev.pos (by omega) (Ev.pos (by omega) (Ev.pos (by omega) (Ev.pos hq.1 (Ev.pos hq.2 ih))))
theorem optL_mem {o : Option Nat} {j : Nat} (ho : ∀ k, o = some k → k < j) : ∀ q ∈ optL o, 0 ≤ q ∧ q < (j : Int) := by
  intro q hq
  cases o with
  | none => simp [optL] at hq
  | some k => rw [optL, List.mem_singleton] at hq; have := ho k rfl; omega
theorem causeL_mem (l : List S68) (j : Nat) : ∀ q ∈ causeL l j, 0 ≤ q ∧ q < (j : Int) := by
  intro q hq
  rcases List.mem_append.1 hq with h | h
  · exact optL_mem (fun k => own_lt) q h
  · exact optL_mem (fun k => sent_lt) q h
theorem causeL_len (l : List S68) (j : Nat) : (causeL l j).length ≤ 2 := by
  unfold causeL
  cases ownO l j <;> cases sentO l j <;> simp [optL]
theorem fold_lam (l : List S68) (j : Nat) : (causeL l j).foldl (fun m q => mx m (rd (lamL l j) q)) 0 + 1 = lamStep l j (lamL l j) := by
  unfold causeL lamStep
  have hp : ∀ k, part (fun k => (lamL l j).getD k 0) (some k) = (lamL l j).getD k 0 := fun _ => rfl
  have h0 := part_bound (f := fun k => (lamL l j).getD k 0) (o := ownO l j) (j := j) (fun k => own_lt) (fun k h => by rw [lamL_get h]; exact lamT_bound l k)
  have h1 := part_bound (f := fun k => (lamL l j).getD k 0) (o := sentO l j) (j := j) (fun k => sent_lt) (fun k h => by rw [lamL_get h]; exact lamT_bound l k)
  cases ho : ownO l j <;> cases hs : sentO l j <;> rw [ho] at h0 <;> rw [hs] at h1 <;> simp only [optL, part, List.nil_append, List.cons_append, List.foldl_nil, List.foldl_cons, rd_nat, mx_max] at h0 h1 ⊢ <;> omega
theorem impl_LamportOf.good {l : List S68} (hl : l.length ≤ 1000) (hu : UniqS l) : Ev (fun k => impl_LamportOf.l0 k l [] (l.length : Int) 0) (lamL l l.length, true) := by
  have key : ∀ d i : Nat, i + d = l.length → Ev (fun k => impl_LamportOf.l0 k l (lamL l i) (l.length : Int) (i : Int)) (lamL l l.length, true) := by
    intro d
    induction d with
    | zero =>
      intro i hi
      have hi : i = l.length := by omega
      refine Ev.step (fun k => by rw [impl_LamportOf.l0]) (Ev.neg (by omega) (Ev.some ?_))
      rw [hi]
    | succ d ih =>
      intro i hi
      have hlt : i < l.length := by omega
      have ih := ih (i + 1) (by omega)
      have hlen := causeL_len l i
      refine Ev.step (fun k => by rw [impl_LamportOf.l0]) (Ev.pos (by omega) (Ev.bind (impl_causes.ev hlt (by omega) hu) ?_))
      refine impl_LamportOf.inner (by rw [lamL_len]; omega) _ (by omega) (by rw [lamL_len]; exact causeL_mem l i) (causeL l i).length 0 0 (by omega) ?_
      rw [List.drop_zero, w64_succ hlt (by omega), fold_lam]
      have hb := lamT_bound l i
      have hb' : lamStep l i (lamL l i) = lamT l i := rfl
      rw [w64 (by omega) (by omega)]
      exact ih
  exact key l.length 0 (by omega)
def lamR (l : List S68) : List Int × Bool := if areEv l = true then (lamL l l.length, true) else ([], false)
theorem areEv_facts {l : List S68} (h : areEv l = true) : l.length ≤ 60 ∧ UniqS l ∧ ∀ a, a < l.length → 0 ≤ (E l a).f1 ∧ (E l a).f1 ≤ 5 := by
  unfold areEv at h
  simp only [Bool.and_eq_true, decide_eq_true_eq] at h
  obtain ⟨f1, _, f3⟩ := goodEv_facts h.1
  exact ⟨h.2, f3, f1⟩
theorem impl_areEvents.evE {l : List S68} (h : smallEv l) : Ev (fun k => impl_areEvents.f k l) (areEv l) := ⟨0, fun k _ => impl_areEvents.ev h k⟩
theorem impl_LamportOf.ev {l : List S68} (hs : smallEv l) : Ev (fun k => impl_LamportOf.f k l) (lamR l) := by
  unfold impl_LamportOf.f lamR
  refine Ev.bind (impl_areEvents.evE hs) ?_
  by_cases c : areEv l = true
  · obtain ⟨f1, f2, _⟩ := areEv_facts c
    rw [if_pos c]
    exact Ev.pos c (impl_LamportOf.good (by omega) f2)
  · rw [if_neg c]; exact Ev.neg c (Ev.now _)
/-- The reference's numbers. -/
theorem spec_LamportOf.inner {l : List S68} {t : List Int} {n i : Int} {r : List Int × Bool} (ht : t.length ≤ 1000000) (c : List Int) (hlen : c.length ≤ 1000000) (hc : ∀ q ∈ c, q < (t.length : Int)) : ∀ (d j : Nat) (x : Int), j + d = c.length →
    Ev (fun k => spec_LamportOf.l0 k l (t ++ [wrap64 ((c.drop j).foldl (fun m q => if q ≥ 0 then mx m (rd t q) else m) x + 1)]) n (wrap64 (i + 1))) r →
    Ev (fun k => spec_LamportOf.l1 k l t x n i c (c.length : Int) (j : Int)) r
  | 0, j, x, hj, h => by
    have e : c.drop j = [] := List.drop_eq_nil_of_le (by omega)
    rw [e] at h
    refine Ev.step (fun k => by rw [spec_LamportOf.l1]) ?_
    exact Ev.neg (by omega) (Ev.pos (by omega) h)
  | d + 1, j, x, hj, h => by
    have hlt : j < c.length := by omega
    have e : c.drop j = c[j] :: c.drop (j + 1) := List.drop_eq_getElem_cons hlt
    rw [e, List.foldl_cons] at h
    have ih := spec_LamportOf.inner (l := l) (n := n) (i := i) (r := r) ht c hlen hc d (j + 1) _ (by omega) h
    have hq := hc _ (List.getElem_mem hlt)
    refine Ev.step (fun k => by rw [spec_LamportOf.l1]) ?_
    simp only [rd_get hlt, w64_succ hlt (show c.length ≤ 9223372036854775807 by omega)]
    refine Ev.pos (by omega) (Ev.pos (by omega) (Ev.pos (by omega) ?_))
    by_cases c1 : c[j] ≥ 0
    · rw [if_pos c1] at ih
      refine Ev.pos c1 (Ev.pos c1 (Ev.pos hq ?_))
      unfold mx at ih
      by_cases c2 : rd t c[j] > x
      · rw [if_pos c2] at ih; exact Ev.pos c2 ih
      · rw [if_neg c2] at ih; exact Ev.neg c2 ih
    · rw [if_neg c1] at ih; exact Ev.neg c1 ih
theorem o2i_lt {o : Option Nat} {j : Nat} (ho : ∀ k, o = some k → k < j) : o2i o < (j : Int) := by
  cases o with
  | none => show (-1 : Int) < j; omega
  | some k => have := ho k rfl; show (k : Int) < j; omega
theorem fold_lam2 (l : List S68) (j : Nat) : [o2i (ownO l j), o2i (sentO l j)].foldl (fun m q => if q ≥ 0 then mx m (rd (lamL l j) q) else m) 0 + 1 = lamStep l j (lamL l j) := by
  unfold lamStep
  have h0 := part_bound (f := fun k => (lamL l j).getD k 0) (o := ownO l j) (j := j) (fun k => own_lt) (fun k h => by rw [lamL_get h]; exact lamT_bound l k)
  have h1 := part_bound (f := fun k => (lamL l j).getD k 0) (o := sentO l j) (j := j) (fun k => sent_lt) (fun k h => by rw [lamL_get h]; exact lamT_bound l k)
  have n0 : ¬ ((-1 : Int) ≥ 0) := by omega
  have n1 : ∀ k : Nat, ((k : Int) ≥ 0) := fun k => by omega
  cases ho : ownO l j <;> cases hs : sentO l j <;> rw [ho] at h0 <;> rw [hs] at h1 <;> simp only [o2i, part, if_neg n0, if_pos (n1 _), List.foldl_nil, List.foldl_cons, rd_nat, mx_max] at h0 h1 ⊢ <;> omega
theorem spec_LamportOf.good {l : List S68} (hl : l.length ≤ 1000) : Ev (fun k => spec_LamportOf.l0 k l [] (l.length : Int) 0) (lamL l l.length, true) := by
  have key : ∀ d i : Nat, i + d = l.length → Ev (fun k => spec_LamportOf.l0 k l (lamL l i) (l.length : Int) (i : Int)) (lamL l l.length, true) := by
    intro d
    induction d with
    | zero =>
      intro i hi
      have hi : i = l.length := by omega
      refine Ev.step (fun k => by rw [spec_LamportOf.l0]) (Ev.neg (by omega) (Ev.some ?_))
      rw [hi]
    | succ d ih =>
      intro i hi
      have hlt : i < l.length := by omega
      have ih := ih (i + 1) (by omega)
      refine Ev.step (fun k => by rw [spec_LamportOf.l0]) (Ev.pos (by omega) (Ev.bind (spec_l2Causes.ev hlt (by omega)) (Ev.bindS rfl ?_)))
      refine spec_LamportOf.inner (by rw [lamL_len]; omega) _ (by simp) (by
        rw [lamL_len]; intro q hq
        rcases List.mem_cons.1 hq with rfl | hq
        · exact o2i_lt (fun k => own_lt)
        · rw [List.mem_singleton] at hq; subst hq; exact o2i_lt (fun k => sent_lt)) 2 0 0 (by simp) ?_
      rw [List.drop_zero, w64_succ hlt (by omega), fold_lam2]
      have hb := lamT_bound l i
      have hb' : lamStep l i (lamL l i) = lamT l i := rfl
      rw [w64 (by omega) (by omega)]
      exact ih
  exact key l.length 0 (by omega)
theorem spec_LamportOf.ev {l : List S68} (hl : l.length ≤ 1000) : Ev (fun k => spec_LamportOf.f k l) (lamR l) := by
  unfold spec_LamportOf.f lamR
  refine Ev.bind (spec_GoodEvents.ev (by omega)) ?_
  by_cases c : areEv l = true
  · rw [if_pos c]
    exact Ev.pos c (spec_LamportOf.good hl)
  · rw [if_neg c]; exact Ev.neg c (Ev.now _)
theorem laws_sameInts.same {a b : List Int} (h : a = b) (hl : a.length ≤ 1000000) : Ev (fun k => laws_sameInts.f k a b) true := by subst h; exact laws_sameInts.refl a (by omega)
theorem rd_zip {a b : List Int} {p : Int} (ha : a.length = 6) (hb : b.length = 6) (h0 : 0 ≤ p) (h1 : p ≤ 5) : rd (List.zipWith mx a b) p = max (rd a p) (rd b p) := by
  obtain ⟨i, rfl⟩ : ∃ i : Nat, p = (i : Int) := ⟨p.toNat, by omega⟩
  rw [rd_get (by omega : i < a.length), rd_get (by omega : i < b.length), rd_get (by rw [List.length_zipWith]; omega), List.getElem_zipWith, mx_max]
theorem rd_rep (p : Int) : rd (List.replicate 6 (0 : Int)) p = 0 := by
  simp only [rd, List.getD_eq_getElem?_getD, List.getElem?_replicate]; split <;> rfl
theorem rd_put {a : List Int} {p q v : Int} (ha : a.length = 6) (h0 : 0 ≤ p) (h1 : p ≤ 5) (q0 : 0 ≤ q) : rd (a.set p.toNat v) q = if p = q then v else rd a q := by
  simp only [rd, List.getD_eq_getElem?_getD, List.getElem?_set]
  by_cases e : p = q
  · subst e; rw [if_pos rfl, if_pos rfl, if_pos (by omega)]; rfl
  · rw [if_neg (by omega), if_neg e]
theorem rdT70 (v : List S70) (k : Nat) : rd_T70 v (k : Int) = v.getD k z70 := by simp [rd_T70]
def vecRow (l : List S68) (j : Nat) (v : List S70) : List Int := (causeL l j).foldl (fun m q => List.zipWith mx m (rd_T70 v q).f0) (List.replicate 6 0)
def vecStep (l : List S68) (j : Nat) (v : List S70) : S70 := ⟨(vecRow l j v).set ((E l j).f1).toNat (wrap64 (rd (vecRow l j v) (E l j).f1 + 1))⟩
def vecL (l : List S68) : Nat → List S70 := build (vecStep l)
def vecT (l : List S68) (k : Nat) : S70 := vecStep l k (vecL l k)
def V (l : List S68) (k : Nat) (p : Int) : Int := rd (vecT l k).f0 p
theorem vecL_get {l : List S68} {k n : Nat} (h : k < n) : (vecL l n).getD k z70 = vecT l k := build_get z70 (vecStep l) h
theorem vecL_len (l : List S68) (n : Nat) : (vecL l n).length = n := build_len (vecStep l) n
theorem vecRow_facts {l : List S68} {j : Nat} (h : ∀ k, k < j → (vecT l k).f0.length = 6 ∧ ∀ p, 0 ≤ p → p ≤ 5 → 0 ≤ V l k p) : (vecRow l j (vecL l j)).length = 6 ∧ ∀ p, 0 ≤ p → p ≤ 5 → rd (vecRow l j (vecL l j)) p = max (max 0 (part (fun k => V l k p) (ownO l j))) (part (fun k => V l k p) (sentO l j)) := by
  have r6 : (List.replicate 6 (0 : Int)).length = 6 := by simp
  have g : ∀ k, k < j → (rd_T70 (vecL l j) (k : Int)).f0 = (vecT l k).f0 := fun k hk => by rw [rdT70, vecL_get hk]
  unfold vecRow causeL
  cases ho : ownO l j with
  | none =>
    cases hs : sentO l j with
    | none => exact ⟨r6, fun p h0 h1 => by simp only [optL, List.nil_append, List.foldl_nil, rd_rep, part]; omega⟩
    | some b =>
      have hb := h b (sent_lt hs)
      have gb := g b (sent_lt hs)
      simp only [optL, List.nil_append, List.foldl_nil, List.foldl_cons, gb, part]
      exact ⟨by rw [List.length_zipWith, r6, hb.1]; rfl, fun p h0 h1 => by rw [rd_zip r6 hb.1 h0 h1, rd_rep]; show max 0 (V l b p) = _; omega⟩
  | some a =>
    have ha := h a (own_lt ho)
    have ga := g a (own_lt ho)
    have z6 : (List.zipWith mx (List.replicate 6 (0 : Int)) (vecT l a).f0).length = 6 := by rw [List.length_zipWith, r6, ha.1]; rfl
    have zr : ∀ p, 0 ≤ p → p ≤ 5 → rd (List.zipWith mx (List.replicate 6 (0 : Int)) (vecT l a).f0) p = max 0 (V l a p) := fun p h0 h1 => by rw [rd_zip r6 ha.1 h0 h1, rd_rep]; rfl
    cases hs : sentO l j with
    | none =>
      simp only [optL, List.append_nil, List.foldl_nil, List.foldl_cons, ga, part]
      exact ⟨z6, fun p h0 h1 => by rw [zr p h0 h1]; omega⟩
    | some b =>
      have hb := h b (sent_lt hs)
      have gb := g b (sent_lt hs)
      simp only [optL, List.cons_append, List.nil_append, List.foldl_nil, List.foldl_cons, ga, gb, part]
      exact ⟨by rw [List.length_zipWith, z6, hb.1]; rfl, fun p h0 h1 => by rw [rd_zip z6 hb.1 h0 h1, zr p h0 h1]; rfl⟩
theorem vec_facts {l : List S68} (hl : l.length ≤ 1000) (hf : ∀ a, a < l.length → 0 ≤ (E l a).f1 ∧ (E l a).f1 ≤ 5) : ∀ j, j < l.length → (vecT l j).f0.length = 6 ∧ ∀ p, 0 ≤ p → p ≤ 5 → (V l j p = max (max 0 (part (fun k => V l k p) (ownO l j))) (part (fun k => V l k p) (sentO l j)) + if (E l j).f1 = p then 1 else 0) ∧ 0 ≤ V l j p ∧ V l j p ≤ j + 1 := by
  intro j
  induction j using Nat.strongRecOn with
  | _ j ih =>
    intro hj
    have hfj := hf j hj
    obtain ⟨r6, rr⟩ := vecRow_facts (l := l) (j := j) (fun k hk => ⟨(ih k hk (by omega)).1, fun p h0 h1 => ((ih k hk (by omega)).2 p h0 h1).2.1⟩)
    have bd : ∀ p, 0 ≤ p → p ≤ 5 → 0 ≤ rd (vecRow l j (vecL l j)) p ∧ rd (vecRow l j (vecL l j)) p ≤ j := by
      intro p h0 h1
      have q0 := part_bound (f := fun k => V l k p) (o := ownO l j) (j := j) (fun k => own_lt) (fun k hk => ((ih k hk (by omega)).2 p h0 h1).2)
      have q1 := part_bound (f := fun k => V l k p) (o := sentO l j) (j := j) (fun k => sent_lt) (fun k hk => ((ih k hk (by omega)).2 p h0 h1).2)
      rw [rr p h0 h1]; omega
    refine ⟨by show ((vecRow l j (vecL l j)).set _ _).length = 6; rw [List.length_set]; exact r6, fun p h0 h1 => ?_⟩
    have ev : V l j p = if (E l j).f1 = p then wrap64 (rd (vecRow l j (vecL l j)) (E l j).f1 + 1) else rd (vecRow l j (vecL l j)) p := rd_put r6 hfj.1 hfj.2 h0
    have b1 := bd p h0 h1
    by_cases c : (E l j).f1 = p
    · rw [if_pos c, c, w64 (by omega) (by omega)] at ev
      rw [ev, rr p h0 h1, if_pos c]
      rw [rr p h0 h1] at b1
      exact ⟨rfl, by omega, by omega⟩
    · rw [if_neg c] at ev
      rw [ev, if_neg c]
      exact ⟨by rw [rr p h0 h1]; omega, by omega, by omega⟩
theorem impl_vectors.inner {l : List S68} {v : List S70} {n i : Int} {a q b : Int} {r : List S70} (hv : v.length ≤ 1000000) (h6 : ∀ k : Nat, k < v.length → (v.getD k z70).f0.length = 6) (hq : 0 ≤ q ∧ q ≤ 5) (c : List Int) (hlen : c.length ≤ 1000000) (hc : ∀ x ∈ c, 0 ≤ x ∧ x < (v.length : Int)) : ∀ (d j : Nat) (m : List Int), j + d = c.length → m.length = 6 →
    Ev (fun k => impl_vectors.l0 k l (v ++ [(⟨((c.drop j).foldl (fun m x => List.zipWith mx m (rd_T70 v x).f0) m).set q.toNat (wrap64 (rd ((c.drop j).foldl (fun m x => List.zipWith mx m (rd_T70 v x).f0) m) q + 1))⟩ : S70)]) l n (wrap64 (i + 1))) r →
    Ev (fun k => impl_vectors.l1 k l v m l n i c (c.length : Int) (j : Int) a q b) r
  | 0, j, m, hj, hm, h => by
    have e : c.drop j = [] := List.drop_eq_nil_of_le (by omega)
    rw [e] at h
    refine Ev.step (fun k => by rw [impl_vectors.l1]) ?_
    exact Ev.neg (by omega) (Ev.pos (by omega) (Ev.pos (by omega) (Ev.pos (by omega) h)))
  | d + 1, j, m, hj, hm, h => by
    have hlt : j < c.length := by omega
    have e : c.drop j = c[j] :: c.drop (j + 1) := List.drop_eq_getElem_cons hlt
    rw [e, List.foldl_cons] at h
    have hx := hc _ (List.getElem_mem hlt)
    obtain ⟨y, hy⟩ : ∃ y : Nat, c[j] = (y : Int) := ⟨c[j].toNat, by omega⟩
    have h6y : (rd_T70 v c[j]).f0.length = 6 := by rw [hy, rdT70]; exact h6 y (by omega)
    have ih := impl_vectors.inner (l := l) (n := n) (i := i) (a := a) (q := q) (b := b) (r := r) hv h6 hq c hlen hc d (j + 1) _ (by omega) (by rw [List.length_zipWith, hm, h6y]; rfl) h
    refine Ev.step (fun k => by rw [impl_vectors.l1]) ?_
    simp only [rd_get hlt, w64_succ hlt (show c.length ≤ 9223372036854775807 by omega)]
    exact Ev.pos (by omega) (Ev.pos (by omega) (Ev.pos (by omega) (Ev.pos hx.1 (Ev.pos hx.2 (Ev.bind (impl_greater.ev m _ (by omega) (by omega)) ih)))))
theorem impl_vectors.ev {l : List S68} (hl : l.length ≤ 1000) (hu : UniqS l) (hf : ∀ a, a < l.length → 0 ≤ (E l a).f1 ∧ (E l a).f1 ≤ 5) : Ev (fun k => impl_vectors.f k l) (vecL l l.length) := by
  unfold impl_vectors.f
  have vf := vec_facts hl hf
  have key : ∀ d i : Nat, i + d = l.length → Ev (fun k => impl_vectors.l0 k l (vecL l i) l (l.length : Int) (i : Int)) (vecL l l.length) := by
    intro d
    induction d with
    | zero =>
      intro i hi
      have hi : i = l.length := by omega
      refine Ev.step (fun k => by rw [impl_vectors.l0]) (Ev.neg (by omega) (Ev.some ?_))
      rw [hi]
    | succ d ih =>
      intro i hi
      have hlt : i < l.length := by omega
      have ih := ih (i + 1) (by omega)
      have hlen := causeL_len l i
      refine Ev.step (fun k => by rw [impl_vectors.l0]) ?_
      simp only [rdE]
      refine Ev.pos (by omega) (Ev.pos (by omega) (Ev.pos (by omega) (Ev.pos (by omega) (Ev.bind (impl_causes.ev hlt (by omega) hu) ?_))))
      refine impl_vectors.inner (by rw [vecL_len]; omega) (fun k hk => by rw [vecL_len] at hk; rw [vecL_get hk]; exact (vf k (by omega)).1) (hf i hlt) (causeL l i) (by omega) (by rw [vecL_len]; exact causeL_mem l i) (causeL l i).length 0 (List.replicate 6 0) (by omega) (by simp) ?_
      rw [List.drop_zero, w64_succ hlt (by omega)]
      exact ih
  exact key l.length 0 (by omega)
theorem clocks (l : List S68) : Clocks l.length (fun k => (E l k).f1) (ownO l) (sentO l) where
  own1 := fun j k _ h => by
    obtain ⟨h1, h2, h3⟩ := lastP_some h
    refine ⟨h1, of_decide_eq_true h2, fun m q1 q2 => ?_⟩
    exact of_decide_eq_false (h3 m q1 q2)
  own0 := fun j _ h m hm => of_decide_eq_false (lastP_none h m hm)
  sent1 := fun j k _ h => (lastP_some h).1
theorem vecs {l : List S68} (hl : l.length ≤ 1000) (hf : ∀ a, a < l.length → 0 ≤ (E l a).f1 ∧ (E l a).f1 ≤ 5) : Vecs l.length (fun k => (E l k).f1) (ownO l) (sentO l) (V l) := by
  intro j hj i hi
  exact ((vec_facts hl hf j hj).2 _ (hf i hi).1 (hf i hi).2).1
/-- Whether one is ahead. -/
noncomputable def aheadB (l : List S68) (i j : Nat) : Bool := (!decide (i = j)) && decide (V l j (E l i).f1 ≥ V l i (E l i).f1)
theorem impl_AheadOf.ev {l : List S68} (hs : smallEv l) (hg : areEv l = true) {i j : Nat} (hi : i < l.length) (hj : j < l.length) : Ev (fun k => impl_AheadOf.f k l (i : Int) (j : Int)) (aheadB l i j, true) := by
  obtain ⟨hl, hu, hf⟩ := areEv_facts hg
  have vf := vec_facts (by omega) hf
  unfold impl_AheadOf.f
  have w : wrap64 ((l.length : Int) - 1) = (l.length : Int) - 1 := w64 (by omega) (by omega)
  refine Ev.bind (impl_areEvents.evE hs) (Ev.pos hg (Ev.bindS (impl_in.ev _ _ _) (Ev.pos (inB_iff.2 (by rw [w]; omega)) (Ev.bindS (impl_in.ev _ _ _) (Ev.pos (inB_iff.2 (by rw [w]; omega)) (Ev.bind (impl_vectors.ev (by omega) hu hf) ?_))))))
  simp only [rdE, rdT70, vecL_get hi, vecL_get hj, vecL_len, (vf i hi).1, (vf j hj).1]
  have f1 := hf i hi
  refine Ev.pos (by omega) (Ev.pos (by omega) ?_)
  by_cases e : i = j
  · refine Ev.pos (by omega) (Ev.some ?_)
    simp [aheadB, e]
  · refine Ev.neg (by omega) (Ev.pos (by omega) (Ev.pos (by omega) (Ev.pos f1.1 (Ev.pos (by omega) (Ev.pos (by omega) (Ev.pos (by omega) (Ev.some ?_)))))))
    simp [aheadB, e, V]
theorem Reach.snoc {own sent : Nat → Option Nat} {j y x : Nat} (h : Reach own sent j y) : (own y = some x ∨ sent y = some x) → Reach own sent j x := by
  induction h with
  | refl j => exact fun q => q.elim (fun e => .own e (.refl _)) (fun e => .sent e (.refl _))
  | own e _ ih => intro q; exact .own e (ih q)
  | sent e _ ih => intro q; exact .sent e (ih q)
theorem Reach.last {own sent : Nat → Option Nat} {j x : Nat} (h : Reach own sent j x) : x = j ∨ ∃ y, Reach own sent j y ∧ (own y = some x ∨ sent y = some x) := by
  induction h with
  | refl j => exact .inl rfl
  | @own j k i e _ ih =>
    rcases ih with rfl | ⟨y, h1, h2⟩
    · exact .inr ⟨j, .refl j, .inl e⟩
    · exact .inr ⟨y, .own e h1, h2⟩
  | @sent j k i e _ ih =>
    rcases ih with rfl | ⟨y, h1, h2⟩
    · exact .inr ⟨j, .refl j, .inr e⟩
    · exact .inr ⟨y, .sent e h1, h2⟩
def markB (out : List Bool) : Option Nat → List Bool
  | none => out
  | some a => out.set a true
theorem markB_len (out : List Bool) (o : Option Nat) : (markB out o).length = out.length := by cases o <;> simp [markB]
theorem markB_get {out : List Bool} {o : Option Nat} {x : Nat} (hx : x < out.length) : (markB out o).getD x false = true ↔ o = some x ∨ out.getD x false = true := by
  cases o with
  | none => simp [markB]
  | some a =>
    simp only [markB, List.getD_eq_getElem?_getD, List.getElem?_set]
    by_cases e : a = x
    · subst e; simp [hx]
    · simp [e]
theorem rdB (xs : List Bool) (i : Nat) : rdOf false xs (i : Int) = xs.getD i false := by simp [rdOf]
def InvB (l : List S68) (j m : Nat) (out : List Bool) : Prop :=
  out.length = l.length ∧ ∀ x, x < l.length → (out.getD x false = true ↔ x = j ∨ ∃ y, m ≤ y ∧ y ≤ j ∧ Reach (ownO l) (sentO l) j y ∧ (ownO l y = some x ∨ sentO l y = some x))
theorem InvB.next {l : List S68} {j m : Nat} {out : List Bool} (h : InvB l j (m + 1) out) (hm : m ≤ j) (hj : j < l.length) : InvB l j m (if out.getD m false = true then markB (markB out (ownO l m)) (sentO l m) else out) := by
  obtain ⟨h1, h2⟩ := h
  have hr : out.getD m false = true ↔ Reach (ownO l) (sentO l) j m := by
    rw [h2 m (by omega)]
    constructor
    · rintro (rfl | ⟨y, _, _, q1, q2⟩)
      · exact .refl _
      · exact q1.snoc q2
    · intro q
      rcases q.last with e | ⟨y, q1, q2⟩
      · exact .inl e
      · have := q1.le (clocks l) hj
        refine .inr ⟨y, ?_, this, q1, q2⟩
        rcases q2 with q2 | q2
        · have := own_lt q2; omega
        · have := sent_lt q2; omega
  by_cases c : out.getD m false = true
  · rw [if_pos c]
    refine ⟨by rw [markB_len, markB_len]; exact h1, fun x hx => ?_⟩
    rw [markB_get (by rw [markB_len]; omega), markB_get (by omega), h2 x hx]
    constructor
    · rintro (q | q | q | ⟨y, q1, q2, q3, q4⟩)
      · exact .inr ⟨m, by omega, hm, hr.1 c, .inr q⟩
      · exact .inr ⟨m, by omega, hm, hr.1 c, .inl q⟩
      · exact .inl q
      · exact .inr ⟨y, by omega, q2, q3, q4⟩
    · rintro (q | ⟨y, q1, q2, q3, q4⟩)
      · exact .inr (.inr (.inl q))
      · by_cases e : y = m
        · subst e
          rcases q4 with q4 | q4
          · exact .inr (.inl q4)
          · exact .inl q4
        · exact .inr (.inr (.inr ⟨y, by omega, q2, q3, q4⟩))
  · rw [if_neg c]
    refine ⟨h1, fun x hx => ?_⟩
    rw [h2 x hx]
    constructor
    · rintro (q | ⟨y, q1, q2, q3, q4⟩)
      · exact .inl q
      · exact .inr ⟨y, by omega, q2, q3, q4⟩
    · rintro (q | ⟨y, q1, q2, q3, q4⟩)
      · exact .inl q
      · by_cases e : y = m
        · subst e; exact absurd (hr.2 q3) c
        · exact .inr ⟨y, by omega, q2, q3, q4⟩
theorem spec_l2Before.loop {l : List S68} {j : Nat} (hj : j < l.length) (hl : l.length ≤ 1000) : ∀ (m : Nat) (out : List Bool), m ≤ j + 1 → InvB l j m out →
    ∃ r, Ev (fun k => spec_l2Before.l0 k l (j : Int) out ((m : Int) - 1)) r ∧ r.length = l.length ∧ ∀ x, x < l.length → (r.getD x false = true ↔ Reach (ownO l) (sentO l) j x ∧ x ≠ j)
  | 0, out, hm, hI => by
    obtain ⟨h1, h2⟩ := hI
    refine ⟨out.set j false, ?_, by simp [h1], fun x hx => ?_⟩
    · refine Ev.step (fun k => by rw [spec_l2Before.l0]) ?_
      refine Ev.neg (by omega) (Ev.pos (by omega) (Ev.pos (by omega) (Ev.some ?_)))
      simp
    · have e : (out.set j false).getD x false = if j = x then false else out.getD x false := by
        simp only [List.getD_eq_getElem?_getD, List.getElem?_set]
        by_cases e : j = x
        · subst e; simp [h1, hj]
        · simp [e]
      rw [e]
      by_cases c : j = x
      · rw [if_pos c]; simp [c]
      · rw [if_neg c, h2 x hx]
        constructor
        · rintro (q | ⟨y, _, _, q1, q2⟩)
          · exact absurd q.symm c
          · exact ⟨q1.snoc q2, fun q => c q.symm⟩
        · rintro ⟨q, _⟩
          rcases q.last with q | ⟨y, q1, q2⟩
          · exact .inl q
          · exact .inr ⟨y, Nat.zero_le _, q1.le (clocks l) hj, q1, q2⟩
  | m + 1, out, hm, hI => by
    have hn := hI.next (by omega) hj
    obtain ⟨r, h, hr⟩ := spec_l2Before.loop hj hl m _ (by omega) hn
    obtain ⟨h1, h2⟩ := hI
    refine ⟨r, ?_, hr⟩
    have e : (((m + 1 : Nat) : Int) - 1) = (m : Int) := by omega
    have w : wrap64 ((m : Int) - 1) = (m : Int) - 1 := w64 (by omega) (by omega)
    refine Ev.step (fun k => by rw [spec_l2Before.l0]) ?_
    simp only [e, rdB, w]
    refine Ev.pos (by omega) (Ev.pos (by omega) (Ev.pos (by omega) ?_))
    by_cases c : out.getD m false = true
    · rw [if_pos c] at h
      refine Ev.pos c (Ev.bind (spec_l2Causes.ev (by omega) (by omega)) ?_)
      cases ho : ownO l m with
      | none =>
        rw [ho] at h
        refine Ev.neg (by show ¬ (-1 : Int) ≥ 0; omega) ?_
        cases hs : sentO l m with
        | none => rw [hs] at h; exact Ev.neg (by show ¬ (-1 : Int) ≥ 0; omega) h
        | some b =>
          rw [hs] at h
          have := sent_lt hs
          refine Ev.pos (by show (b : Int) ≥ 0; omega) (Ev.pos (by show 0 ≤ (b : Int); omega) (Ev.pos (by show (b : Int) < _; omega) ?_))
          simpa [o2i, markB] using h
      | some a =>
        rw [ho] at h
        have := own_lt ho
        refine Ev.pos (by show (a : Int) ≥ 0; omega) (Ev.pos (by show 0 ≤ (a : Int); omega) (Ev.pos (by show (a : Int) < _; omega) (Ev.bindS rfl ?_)))
        cases hs : sentO l m with
        | none => rw [hs] at h; refine Ev.neg (by show ¬ (-1 : Int) ≥ 0; omega) ?_; simpa [o2i, markB] using h
        | some b =>
          rw [hs] at h
          have := sent_lt hs
          refine Ev.pos (by show (b : Int) ≥ 0; omega) (Ev.pos (by show 0 ≤ (b : Int); omega) (Ev.pos (by show (b : Int) < _; omega) ?_))
          simpa [o2i, markB] using h
    · rw [if_neg c] at h; exact Ev.neg c h
theorem spec_l2Before.ev {l : List S68} {j : Nat} (hj : j < l.length) (hl : l.length ≤ 1000) : ∃ r, Ev (fun k => spec_l2Before.f k l (j : Int)) r ∧ r.length = l.length ∧ ∀ x, x < l.length → (r.getD x false = true ↔ Reach (ownO l) (sentO l) j x ∧ x ≠ j) := by
  have hI : InvB l j (j + 1) ((List.replicate l.length false).set j true) := by
    refine ⟨by simp, fun x hx => ?_⟩
    have := markB_get (out := List.replicate l.length false) (o := some j) (x := x) (by simpa using hx)
    simp only [markB] at this
    rw [this]
    constructor
    · rintro (q | q)
      · injection q with q; exact .inl q.symm
      · simp [List.getD_eq_getElem?_getD, List.getElem?_replicate, hx] at q
    · rintro (q | ⟨y, q1, q2, _⟩)
      · exact .inl (by rw [q])
      · omega
  obtain ⟨r, h, hr⟩ := spec_l2Before.loop hj hl (j + 1) _ (Nat.le_refl _) hI
  refine ⟨r, ?_, hr⟩
  unfold spec_l2Before.f
  refine Ev.pos (by omega) (Ev.pos (by omega) (Ev.bindS rfl (Ev.pos (by omega) (Ev.pos (by simp; omega) ?_))))
  rw [show (((j + 1 : Nat) : Int) - 1) = (j : Int) by omega] at h
  simpa using h
theorem spec_AheadOf.ev {l : List S68} (hg : areEv l = true) {i j : Nat} (hi : i < l.length) (hj : j < l.length) : ∃ b, Ev (fun k => spec_AheadOf.f k l (i : Int) (j : Int)) (b, true) ∧ (b = true ↔ Reach (ownO l) (sentO l) j i ∧ i ≠ j) := by
  obtain ⟨hl, hu, hf⟩ := areEv_facts hg
  obtain ⟨r, h, hr1, hr2⟩ := spec_l2Before.ev hj (by omega)
  have w : wrap64 ((l.length : Int) - 1) = (l.length : Int) - 1 := w64 (by omega) (by omega)
  refine ⟨r.getD i false, ?_, hr2 i hi⟩
  unfold spec_AheadOf.f
  refine Ev.bind (spec_GoodEvents.ev (by omega)) (Ev.pos hg (Ev.bindS (spec_l1In.ev _ _ _) (Ev.pos (inB_iff.2 (by rw [w]; omega)) (Ev.bindS (spec_l1In.ev _ _ _) (Ev.pos (inB_iff.2 (by rw [w]; omega)) (Ev.bind h ?_))))))
  simp only [rdB]
  exact Ev.pos (by omega) (Ev.pos (by omega) (Ev.now _))
theorem law_l0 {l : List S68} (hs : smallEv l) (hg : areEv l = true) : Ev (fun k => laws_FnLamport.l0 k l (lamL l l.length) (l.length : Int) 0) true := by
  obtain ⟨hl, hu, hf⟩ := areEv_facts hg
  have T : ∀ j, j < l.length → lamT l j = max (max 0 (part (lamT l) (ownO l j))) (part (lamT l) (sentO l j)) + 1 := fun j _ => lamT_eq l j
  have rdT : ∀ k, k < l.length → rd (lamL l l.length) (k : Int) = lamT l k := fun k hk => by rw [rd_nat]; exact lamL_get hk
  refine Ev.up (g := fun k i => laws_FnLamport.l0 k l (lamL l l.length) (l.length : Int) i) l.length (fun _ => true) ?_
  intro i hi ih
  refine Ev.step (fun k => by rw [laws_FnLamport.l0]) ?_
  by_cases hlt : i < l.length
  rotate_left
  · exact Ev.neg (by omega) (Ev.now _)
  refine Ev.pos (by omega) ?_
  rw [lamL_len]
  refine Ev.up (g := fun k j => laws_FnLamport.l1 k l (lamL l l.length) (i : Int) (l.length : Int) (i : Int) (l.length : Int) j) l.length (fun _ => true) ?_
  intro j hj jh
  refine Ev.step (fun k => by rw [laws_FnLamport.l1]) ?_
  by_cases hlt2 : j < l.length
  rotate_left
  · refine Ev.neg (by omega) ?_
    rw [w64_succ hlt (by omega)]
    exact ih hlt
  obtain ⟨b, hb, hbi⟩ := spec_AheadOf.ev hg hlt hlt2
  have hc := vec_iff (clocks l) (vecs (by omega) hf) hlt j hlt2
  have e : aheadB l i j = b := by
    rw [Bool.eq_iff_iff, hbi]
    unfold aheadB
    simp only [Bool.and_eq_true, Bool.not_eq_true', decide_eq_false_iff_not, decide_eq_true_eq]
    constructor
    · rintro ⟨h1, h2⟩; exact ⟨hc.1 h2, h1⟩
    · rintro ⟨h1, h2⟩; exact ⟨h2, hc.2 h1⟩
  refine Ev.pos (by omega) (Ev.bind (impl_AheadOf.ev hs hg hlt hlt2) (Ev.bind hb ?_))
  rw [e]
  refine Ev.neg (by simp) (Ev.neg (by simp) ?_)
  rw [w64_succ hlt2 (by omega)]
  cases b with
  | false => exact Ev.neg (by simp) (jh hlt2)
  | true =>
    obtain ⟨h1, h2⟩ := hbi.1 rfl
    have hlt3 := lam_lt (clocks l) T h1 hlt2 h2
    refine Ev.pos rfl ?_
    simp only [lamL_len, rdT i hlt, rdT j hlt2]
    exact Ev.pos (by omega) (Ev.pos (by omega) (Ev.pos (by omega) (Ev.pos (by omega) (Ev.neg (by omega) (jh hlt2)))))
theorem holds_ev (c : List Int) (hc : inCur c) : Ev (fun k => laws_FnLamport.f k c) true := by
  unfold laws_FnLamport.f
  refine Ev.cases (fun _ => Ev.now _) (fun _ => ?_)
  obtain ⟨l, hd, hs, hl⟩ := spec_DrawLamportOf.ev hc
  refine Ev.bind hd (Ev.bind (impl_LamportOf.ev hs) (Ev.bind (spec_LamportOf.ev (by omega)) (Ev.neg (by simp) ?_)))
  refine Ev.bind (laws_sameInts.same rfl (by
    unfold lamR; split
    · show (lamL l l.length).length ≤ 1000000; rw [lamL_len]; omega
    · exact Nat.zero_le _)) ?_
  refine Ev.step (fun k => by rw [laws_FnLamport.j0]) (Ev.neg (by simp) (Ev.cases (fun _ => Ev.now _) (fun _ => ?_)))
  unfold lamR
  by_cases c : areEv l = true
  · rw [if_pos c]
    show Ev (fun k => laws_FnLamport.l0 k l (lamL l l.length) ((lamL l l.length).length : Int) 0) true
    rw [lamL_len]
    exact law_l0 hs c
  · rw [if_neg c]
    exact Ev.step (fun k => by rw [laws_FnLamport.l0]) (Ev.neg (by simp) (Ev.now _))

end Go.Proofs.Ytgdcooiaeeajmaa.PLA
namespace Go.Proofs.Ytgdcooiaeeajmaa.Pure
open Go.RowKit Go.Proofs.Ytgdcooiaeeajmaa.PLA Go.Proofs.Ytgdcooiaeeajmaa.Base Go.Proofs.YtgdcooiaeeajmaaW.PrintWords Go.Proofs.YtgdcooiaeeajmaaW.PrintLast
theorem FnLamport : laws_FnLamport.Pure := by
  intro l0 _ _ h0
  exact (holds_ev l0 (inCur_of h0)).rounds
end Go.Proofs.Ytgdcooiaeeajmaa.Pure
