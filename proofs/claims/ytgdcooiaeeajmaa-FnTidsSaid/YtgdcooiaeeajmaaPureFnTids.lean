/- What this text proves: laws.FnTids, told as plain functions of numbers and lists, answers true for all arguments.
   Conditions: the bounds that the typed reading gives. -/
import Derived.Test.YtgdcooiaeeajmaaPTDx5
import Derived.Test.YtgdcooiaeeajmaaBase
import Derived.Laws.BitsLemmas
import Derived.Laws.Bits64b
namespace Go.Proofs.Ytgdcooiaeeajmaa.PTD
open Go.RowKit Go.Proofs.Ytgdcooiaeeajmaa.Base Go.Proofs.YtgdcooiaeeajmaaW.PrintWords Go.Proofs.YtgdcooiaeeajmaaW.PrintLast Go.Proofs.YtgdcooiaeeajmaaW.PrintMore
set_option linter.unusedVariables false
set_option linter.unusedSimpArgs false
theorem impl_in.ev (n a b : Int) : impl_in.f n a b = some (inB n a b) := by
  unfold impl_in.f inB
  by_cases h : a ≤ n
  · rw [if_pos h]; simp [h]
  · rw [if_neg h]; simp [h]

def okTid (e s : Int) : Bool := inB e 0 1048575 && inB s 0 16777215
theorem okTid_iff {e s : Int} : okTid e s = true ↔ (0 ≤ e ∧ e ≤ 1048575) ∧ (0 ≤ s ∧ s ≤ 16777215) := by
  unfold okTid; rw [Bool.and_eq_true, inB_iff, inB_iff]
theorem impl_isTid.ev (e s : Int) (c : Bool) : impl_isTid.f e s c = some (okTid e s) := by
  unfold impl_isTid.f okTid
  rw [impl_in.ev]; simp only [Option.bind_some]
  by_cases h : inB e 0 1048575 = true
  · rw [if_pos h, impl_in.ev, h]; rfl
  · rw [if_neg h, Bool.eq_false_iff.2 h]; rfl

/-- The first number that is not 0. -/
def orI : List Int → Int
  | [] => 0
  | x :: r => if x = 0 then orI r else x
theorem cmp_Or_int.ev (l : List Int) (hl : l.length ≤ 9223372036854775807) : Ev (fun k => cmp_Or_int.f k l) (orI l) := by
  unfold cmp_Or_int.f
  refine Ev.eq (Ev.up (g := fun k i => cmp_Or_int.l0 k 0 l (l.length : Int) i) l.length (fun i => orI (l.drop i)) ?_) rfl
  intro i hi ih
  refine Ev.step (fun k => by rw [cmp_Or_int.l0]) ?_
  by_cases hlt : i < l.length
  · have e : orI (l.drop i) = if l[i] = 0 then orI (l.drop (i + 1)) else l[i] := by
      rw [List.drop_eq_getElem_cons hlt]; rfl
    refine Ev.pos (by omega) (Ev.pos (by omega) (Ev.pos (by omega) ?_))
    rw [rd_get hlt, w64_succ hlt hl, e]
    exact Ev.cases (fun h => Ev.eq (ih hlt) (by rw [if_pos h])) (fun h => Ev.some (by rw [if_neg h]))
  · have : i = l.length := by omega
    subst this
    exact Ev.neg (by omega) (Ev.some (by simp [orI]))

def cmpI (a b : Int) : Int := if a < b then -1 else if a > b then 1 else 0
theorem cmp_Compare_int.ev (a b : Int) : cmp_Compare_int.f a b = some (cmpI a b) := by
  unfold cmp_Compare_int.f cmp_isNaN_int.f cmpI
  simp only [Option.bind_some, bne_self_eq_false]
  rw [if_neg (by simp), if_neg (by simp)]
  split
  · rfl
  · split <;> rfl

def cmpT (e s e' s' : Int) : Int := if e < e' then -1 else if e' < e then 1 else if s < s' then -1 else if s' < s then 1 else 0
theorem impl_compareTid.ev (e s : Int) (c : Bool) (e' s' : Int) (c' : Bool) : Ev (fun k => impl_compareTid.f k e s c e' s' c') (cmpT e s e' s') := by
  unfold impl_compareTid.f
  refine Ev.bindS (cmp_Compare_int.ev _ _) (Ev.bindS (cmp_Compare_int.ev _ _) (Ev.bind (cmp_Or_int.ev _ (by simp)) (Ev.some ?_)))
  unfold cmpT orI orI orI cmpI
  by_cases h1 : e < e'
  · simp [h1]
  · by_cases h2 : e > e'
    · simp [h1, h2]
    · simp [h1, h2]
      by_cases h3 : s < s'
      · simp [h3]
      · by_cases h4 : s > s'
        · simp [h3, h4]
        · simp [h3, h4]

def cmpTB (e s e' s' : Int) : Int × Bool := if okTid e s && okTid e' s' then (cmpT e s e' s', true) else (0, false)
theorem impl_CompareTid.ev (e s : Int) (c : Bool) (e' s' : Int) (c' : Bool) : Ev (fun k => impl_CompareTid.f k e s c e' s' c') (cmpTB e s e' s') := by
  unfold impl_CompareTid.f cmpTB
  refine Ev.bindS (impl_isTid.ev _ _ _) (Ev.cases (fun h => Ev.bindS (impl_isTid.ev _ _ _) (Ev.cases (fun h' => Ev.bind (impl_compareTid.ev _ _ _ _ _ _) (Ev.some ?_)) (fun h' => Ev.some ?_))) (fun h => Ev.some ?_))
  · rw [h, h']; rfl
  · rw [h, Bool.eq_false_iff.2 h']; rfl
  · rw [Bool.eq_false_iff.2 h]; rfl

theorem spec_l1In.ev (n a b : Int) : spec_l1In.f n a b = some (inB n a b) := by
  unfold spec_l1In.f inB
  by_cases h : a ≤ n
  · rw [if_pos h]; simp [h]
  · rw [if_neg h]; simp [h]

theorem spec_l1Tid.ev (e s : Int) (c : Bool) : spec_l1Tid.f e s c = some (okTid e s) := by
  unfold spec_l1Tid.f okTid
  rw [spec_l1In.ev]; simp only [Option.bind_some]
  by_cases h : inB e 0 1048575 = true
  · rw [if_pos h, spec_l1In.ev, h]; rfl
  · rw [if_neg h, Bool.eq_false_iff.2 h]; rfl

theorem spec_l1Compare.ev (e s : Int) (c : Bool) (e' s' : Int) (c' : Bool) : Ev (fun k => spec_l1Compare.f k e s c e' s' c') (cmpT e s e' s') := by
  unfold spec_l1Compare.f cmpT
  refine Ev.cases (fun h => ?_) (fun h => Ev.cases (fun h' => ?_) (fun h' => ?_))
  · refine Ev.step (fun k => by rw [spec_l1Compare.j0]) (Ev.pos rfl (Ev.some (by rw [if_pos h])))
  · subst h'
    rw [if_neg h, if_neg h]
    refine Ev.step (fun k => by rw [spec_l1Compare.j0]) ?_
    by_cases h1 : s < s'
    · exact Ev.pos (by simpa using h1) (Ev.some (by rw [if_pos h1]))
    · rw [if_neg h1]
      exact Ev.neg (by simpa using h1) (Ev.neg (by omega) (Ev.cases (fun h2 => Ev.some (by rw [if_pos (by omega)])) (fun h2 => Ev.some (by rw [if_neg (by omega)]))))
  · rw [if_neg h, if_pos (by omega)]
    exact Ev.step (fun k => by rw [spec_l1Compare.j0]) (Ev.neg (by simp) (Ev.pos (by omega) (Ev.now _)))

theorem spec_CompareTid.ev (e s : Int) (c : Bool) (e' s' : Int) (c' : Bool) : Ev (fun k => spec_CompareTid.f k e s c e' s' c') (cmpTB e s e' s') := by
  unfold spec_CompareTid.f cmpTB
  refine Ev.bindS (spec_l1Tid.ev _ _ _) (Ev.cases (fun h => Ev.bindS (spec_l1Tid.ev _ _ _) (Ev.cases (fun h' => Ev.bind (spec_l1Compare.ev _ _ _ _ _ _) (Ev.some ?_)) (fun h' => Ev.some ?_))) (fun h => Ev.some ?_))
  · rw [h, h']; rfl
  · rw [h, Bool.eq_false_iff.2 h']; rfl
  · rw [Bool.eq_false_iff.2 h]; rfl

/-- The drawing's bytes. -/
def inCur (l : List Int) : Prop := ∀ x ∈ l, 0 ≤ x ∧ x ≤ 255
theorem inCur_of {l : List Int} (h : ∀ x ∈ l, (Lit.int .u8 x).wf = true) : inCur l := by
  intro x hx
  have h' : IntKind.u8.min ≤ x ∧ x ≤ IntKind.u8.max := by simpa [Lit.wf] using h x hx
  exact h'
theorem and255 (z : Int) (h0 : 0 ≤ z) (h1 : z < 18446744073709551616) : 0 ≤ Go.bits .and .u64 z 255 ∧ Go.bits .and .u64 z 255 ≤ 255 := by
  obtain ⟨a, rfl⟩ : ∃ a : Nat, z = (a : Int) := ⟨z.toNat, by omega⟩
  have h := bits_and_u64_nat a 255 (by omega) (by omega)
  have : ((255 : Nat) : Int) = (255 : Int) := rfl
  rw [this] at h
  rw [h]
  have := Nat.and_le_right (n := a) (m := 255)
  omega
theorem wrapU_bound (n : Int) : 0 ≤ IntKind.u64.wrap n ∧ IntKind.u64.wrap n < 18446744073709551616 := by
  rw [IntKind.wrap_u64]; omega
theorem spec_l1Cur_next.ev {l : List Int} (hl : inCur l) {p : Int} (s : Int) (h0 : 0 ≤ p) (h1 : p ≤ 4611686018427387904) :
    ∃ r p' s', spec_l1Cur_next.f l p s = some (r, p', s') ∧ 0 ≤ r ∧ r ≤ 255 ∧ 0 ≤ p' ∧ p' ≤ p + 1 := by
  unfold spec_l1Cur_next.f
  have hp : wrap64 (p + 1) = p + 1 := w64 (by omega) (by omega)
  have far : ∀ z : Int, 0 ≤ wrap64 (Go.bits .and .u64 (IntKind.u64.wrap z / 1099511627776) 255) ∧ wrap64 (Go.bits .and .u64 (IntKind.u64.wrap z / 1099511627776) 255) ≤ 255 := by
    intro z
    have hb := wrapU_bound z
    have h := and255 (IntKind.u64.wrap z / 1099511627776) (by omega) (by omega)
    rw [w64 (by omega) (by omega)]; exact h
  rw [hp]
  by_cases c1 : p < (l.length : Int)
  · rw [if_pos c1, if_pos h0]
    have hr : 0 ≤ wrap64 (rd l p) ∧ wrap64 (rd l p) ≤ 255 := by
      obtain ⟨i, rfl⟩ : ∃ i : Nat, p = (i : Int) := ⟨p.toNat, by omega⟩
      have hi : i < l.length := by omega
      rw [rd_get hi]
      have := hl _ (List.getElem_mem hi)
      rw [w64 (by omega) (by omega)]; exact this
    by_cases c2 : p + 1 ≤ (l.length : Int)
    · rw [if_pos c2]; exact ⟨_, _, _, rfl, hr.1, hr.2, by omega, by omega⟩
    · rw [if_neg c2]; exact ⟨_, _, _, rfl, (far _).1, (far _).2, by omega, by omega⟩
  · rw [if_neg c1]
    by_cases c2 : p + 1 ≤ (l.length : Int)
    · rw [if_pos c2]; exact ⟨_, _, _, rfl, by omega, by omega, by omega, by omega⟩
    · rw [if_neg c2]; exact ⟨_, _, _, rfl, (far _).1, (far _).2, by omega, by omega⟩

theorem spec_l1Cur_pick.ev {l : List Int} (hl : inCur l) {p : Int} (s n : Int) (h0 : 0 ≤ p) (h1 : p ≤ 4611686018427387000) :
    ∃ r p' s', spec_l1Cur_pick.f l p s n = some (r, p', s') ∧ 0 ≤ r ∧ (1 ≤ n → r < n) ∧ 0 ≤ p' ∧ p' ≤ p + 2 := by
  unfold spec_l1Cur_pick.f
  by_cases c : n ≤ 1
  · rw [if_pos c]; exact ⟨_, _, _, rfl, by omega, by omega, h0, by omega⟩
  · rw [if_neg c]
    obtain ⟨r, p1, s1, e, r0, r1, q0, q1⟩ := spec_l1Cur_next.ev hl s h0 (by omega)
    rw [e]; simp only [Option.bind_some]
    by_cases c2 : n > 200
    · rw [if_pos c2]
      obtain ⟨r', p2, s2, e', r0', r1', q0', q1'⟩ := spec_l1Cur_next.ev hl s1 q0 (by omega)
      rw [e']; simp only [Option.bind_some]
      rw [if_neg (by omega), w64 (x := r * 256) (by omega) (by omega), w64 (by omega) (by omega)]
      exact ⟨_, _, _, rfl, Int.tmod_nonneg _ (by omega), fun _ => Int.tmod_lt_of_pos _ (by omega), q0', by omega⟩
    · rw [if_neg c2, if_neg (by omega)]
      exact ⟨_, _, _, rfl, Int.tmod_nonneg _ (by omega), fun _ => Int.tmod_lt_of_pos _ (by omega), q0, by omega⟩

theorem spec_l1Cur_one.ev {l : List Int} (hl : inCur l) {p : Int} (s n : Int) (h0 : 0 ≤ p) (h1 : p ≤ 4611686018427387000) :
    ∃ r p' s', spec_l1Cur_one.f l p s n = some (r, p', s') ∧ 0 ≤ p' ∧ p' ≤ p + 2 := by
  unfold spec_l1Cur_one.f
  obtain ⟨r, p1, s1, e, _, _, q0, q1⟩ := spec_l1Cur_pick.ev hl s n h0 h1
  rw [e]; exact ⟨_, _, _, rfl, q0, q1⟩

theorem spec_l1Cur_among.ev {l : List Int} (hl : inCur l) {p : Int} (s : Int) (z : List Int) (h0 : 0 ≤ p) (h1 : p ≤ 4611686018427387000) (hz : 0 < z.length) :
    ∃ r p' s', spec_l1Cur_among.f l p s z = some (r, p', s') ∧ r ∈ z ∧ 0 ≤ p' ∧ p' ≤ p + 2 := by
  unfold spec_l1Cur_among.f
  obtain ⟨r, p1, s1, e, r0, r1, q0, q1⟩ := spec_l1Cur_pick.ev hl s z.length h0 h1
  have r1 := r1 (by omega)
  rw [e]; simp only [Option.bind_some]
  rw [if_pos r0, if_pos r1]
  refine ⟨_, _, _, rfl, ?_, q0, q1⟩
  obtain ⟨i, rfl⟩ : ∃ i : Nat, r = (i : Int) := ⟨r.toNat, by omega⟩
  have hi : i < z.length := by omega
  rw [rd_get hi]; exact List.getElem_mem hi

theorem spec_l1Cur_tid.ev {l : List Int} (hl : inCur l) {p : Int} (s : Int) (h0 : 0 ≤ p) (h1 : p ≤ 4611686018427385000) :
    ∃ e q c p' s', spec_l1Cur_tid.f l p s = some (e, q, c, p', s') ∧ -1 ≤ e ∧ e ≤ 1048576 ∧ -1 ≤ q ∧ q ≤ 16777216 ∧ 0 ≤ p' ∧ p' ≤ p + 20 := by
  unfold spec_l1Cur_tid.f
  obtain ⟨t, p1, s1, e1, t0, t1, q0, q1⟩ := spec_l1Cur_pick.ev hl s 4 h0 (by omega)
  rw [e1]; simp only [Option.bind_some]
  obtain ⟨u, p2, s2, e2, u0, u1, v0, v1⟩ := spec_l1Cur_pick.ev hl s1 6 q0 (by omega)
  rw [e2]; simp only [Option.bind_some]
  obtain ⟨c, p3, s3, e3, w0, w1⟩ := spec_l1Cur_one.ev hl s2 4 v0 (by omega)
  rw [e3]; simp only [Option.bind_some]
  obtain ⟨b, p4, s4, e4, _, _, x0, x1⟩ := spec_l1Cur_pick.ev hl s3 20 w0 (by omega)
  rw [e4]; simp only [Option.bind_some]
  have t1 := t1 (by omega)
  have u1 := u1 (by omega)
  by_cases c1 : b = 0
  · rw [if_pos c1]
    obtain ⟨x, p5, s5, e5, hx, y0, y1⟩ := spec_l1Cur_among.ev hl s4 [(-1), 1048575, 1048576] x0 (by omega) (by simp)
    rw [e5]; simp only [Option.bind_some]
    simp only [List.mem_cons, List.not_mem_nil, or_false] at hx
    exact ⟨_, _, _, _, _, rfl, by omega, by omega, by omega, by omega, y0, by omega⟩
  · rw [if_neg c1]
    by_cases c2 : b = 1
    · rw [if_pos c2]
      obtain ⟨x, p5, s5, e5, hx, y0, y1⟩ := spec_l1Cur_among.ev hl s4 [(-1), 16777215, 16777216] x0 (by omega) (by simp)
      rw [e5]; simp only [Option.bind_some]
      simp only [List.mem_cons, List.not_mem_nil, or_false] at hx
      exact ⟨_, _, _, _, _, rfl, by omega, by omega, by omega, by omega, y0, by omega⟩
    · rw [if_neg c2]; exact ⟨_, _, _, _, _, rfl, by omega, by omega, by omega, by omega, x0, by omega⟩

theorem spec_DrawCompareTid.ev {l : List Int} (hl : inCur l) : ∃ e q c e' q' c', spec_DrawCompareTid.f l = some (e, q, c, e', q', c') := by
  unfold spec_DrawCompareTid.f
  obtain ⟨e, q, c, p, s, h, _, _, _, _, p0, p1⟩ := spec_l1Cur_tid.ev hl (p := 0) 0 (by omega) (by omega)
  rw [h]; simp only [Option.bind_some]
  obtain ⟨e', q', c', p', s', h', _, _, _, _, _, _⟩ := spec_l1Cur_tid.ev hl s p0 (by omega)
  rw [h']; exact ⟨_, _, _, _, _, _, rfl⟩

def pk (e s : Int) (c : Bool) : Int := e * 33554432 + s * 2 + (if c = true then 1 else 0)
theorem or_join (a b : Nat) (i : Nat) (hb : b < 2 ^ i) : a * 2 ^ i ||| b = a * 2 ^ i + b := by
  rw [← Nat.shiftLeft_eq, Nat.shiftLeft_add_eq_or_of_lt hb]
theorem pk_or {e s : Int} (h : okTid e s = true) : Go.bits .or .u64 (IntKind.u64.wrap ((IntKind.u64.wrap e) * 33554432)) (IntKind.u64.wrap ((IntKind.u64.wrap s) * 2)) = e * 33554432 + s * 2 := by
  obtain ⟨⟨e0, e1⟩, s0, s1⟩ := okTid_iff.1 h
  obtain ⟨a, rfl⟩ : ∃ a : Nat, e = (a : Int) := ⟨e.toNat, by omega⟩
  obtain ⟨b, rfl⟩ : ∃ b : Nat, s = (b : Int) := ⟨s.toNat, by omega⟩
  have w1 : IntKind.u64.wrap ((IntKind.u64.wrap (a : Int)) * 33554432) = ((a * 33554432 : Nat) : Int) := by
    rw [IntKind.wrap_u64, IntKind.wrap_u64]; omega
  have w2 : IntKind.u64.wrap ((IntKind.u64.wrap (b : Int)) * 2) = ((b * 2 : Nat) : Int) := by
    rw [IntKind.wrap_u64, IntKind.wrap_u64]; omega
  rw [w1, w2, bits_or_u64_nat _ _ (by omega) (by omega)]
  have := or_join a (b * 2) 25 (by omega)
  have e25 : (2 : Nat) ^ 25 = 33554432 := by decide
  rw [e25] at this
  rw [this]; omega
theorem pk_or1 {e s : Int} (h : okTid e s = true) : Go.bits .or .u64 (e * 33554432 + s * 2) 1 = e * 33554432 + s * 2 + 1 := by
  obtain ⟨⟨e0, e1⟩, s0, s1⟩ := okTid_iff.1 h
  obtain ⟨a, ha⟩ : ∃ a : Nat, e * 16777216 + s = (a : Int) := ⟨(e * 16777216 + s).toNat, by omega⟩
  have q : e * 33554432 + s * 2 = ((a * 2 : Nat) : Int) := by omega
  rw [q]
  have := bits_or_u64_nat (a * 2) 1 (by omega) (by omega)
  have o : ((1 : Nat) : Int) = (1 : Int) := rfl
  rw [o] at this
  rw [this]
  have := or_join a 1 1 (by omega)
  have e1 : (2 : Nat) ^ 1 = 2 := by decide
  rw [e1] at this
  rw [this]; omega
theorem impl_packTid.ev {e s : Int} (c : Bool) (h : okTid e s = true) : impl_packTid.f e s c = some (pk e s c) := by
  unfold impl_packTid.f pk
  rw [pk_or h]
  cases c with
  | true => rw [if_pos rfl, pk_or1 h]; rfl
  | false => simp

def pkB (e s : Int) (c : Bool) : Int × Bool := if okTid e s = true then (pk e s c, true) else (0, false)
theorem impl_PackTid.ev (e s : Int) (c : Bool) : impl_PackTid.f e s c = some (pkB e s c) := by
  unfold impl_PackTid.f pkB
  rw [impl_isTid.ev]; simp only [Option.bind_some]
  by_cases h : okTid e s = true
  · rw [if_pos h, if_pos h, impl_packTid.ev c h]; rfl
  · rw [if_neg h, if_neg h]

theorem and_mask (z : Int) (h0 : 0 ≤ z) (h1 : z < 18446744073709551616) : Go.bits .and .u64 z 16777215 = z % 16777216 := by
  obtain ⟨a, rfl⟩ : ∃ a : Nat, z = (a : Int) := ⟨z.toNat, by omega⟩
  have h := bits_and_u64_nat a 16777215 (by omega) (by omega)
  have o : ((16777215 : Nat) : Int) = (16777215 : Int) := rfl
  rw [o] at h
  rw [h]
  have e : a &&& 16777215 = a % 16777216 := Nat.and_two_pow_sub_one_eq_mod a 24
  rw [e]; omega
theorem and_one (z : Int) (h0 : 0 ≤ z) (h1 : z < 18446744073709551616) : Go.bits .and .u64 z 1 = z % 2 := by
  obtain ⟨a, rfl⟩ : ∃ a : Nat, z = (a : Int) := ⟨z.toNat, by omega⟩
  have h := bits_and_u64_nat a 1 (by omega) (by omega)
  have o : ((1 : Nat) : Int) = (1 : Int) := rfl
  rw [o] at h
  rw [h]
  have e : a &&& 1 = a % 2 := Nat.and_two_pow_sub_one_eq_mod a 1
  rw [e]; omega
def unpk (t : Int) : Int × Int × Bool × Bool := if t ≥ 35184372088832 then (0, 0, false, false) else (t / 33554432, (t / 2) % 16777216, t % 2 == 1, true)
theorem impl_UnpackTid.ev (t : Int) (h0 : 0 ≤ t) (h1 : t < 18446744073709551616) : impl_UnpackTid.f t = some (unpk t) := by
  unfold impl_UnpackTid.f unpk
  rw [and_mask _ (by omega) (by omega), and_one _ h0 h1, w64 (by omega) (by omega), w64 (by omega) (by omega)]
  by_cases h : t ≥ 35184372088832
  · rw [if_pos h, if_pos h]
  · rw [if_neg h, if_neg h]
theorem unpk_pk {e s : Int} (c : Bool) (h : okTid e s = true) : unpk (pk e s c) = (e, s, c, true) := by
  obtain ⟨⟨e0, e1⟩, s0, s1⟩ := okTid_iff.1 h
  unfold unpk pk
  cases c with
  | true =>
    simp only [if_true]
    rw [if_neg (by omega), show (e * 33554432 + s * 2 + 1) / 33554432 = e by omega, show (e * 33554432 + s * 2 + 1) / 2 % 16777216 = s by omega, show (e * 33554432 + s * 2 + 1) % 2 = 1 by omega]; rfl
  | false =>
    simp only [Bool.false_eq_true, if_false, Int.add_zero]
    rw [if_neg (by omega), show (e * 33554432 + s * 2) / 33554432 = e by omega, show (e * 33554432 + s * 2) / 2 % 16777216 = s by omega, show (e * 33554432 + s * 2) % 2 = 0 by omega]; rfl
theorem pk_unpk {t : Int} (h0 : 0 ≤ t) (h : ¬ t ≥ 35184372088832) : okTid (t / 33554432) ((t / 2) % 16777216) = true ∧ pk (t / 33554432) ((t / 2) % 16777216) (t % 2 == 1) = t := by
  refine ⟨okTid_iff.2 ⟨by omega, by omega⟩, ?_⟩
  unfold pk
  by_cases c : t % 2 = 1
  · rw [if_pos (by simp [c])]; omega
  · rw [if_neg (by simp [c])]; omega
theorem pk_bounds {e s : Int} (c : Bool) (h : okTid e s = true) : 0 ≤ pk e s c ∧ pk e s c < 35184372088832 ∧ pk e s c / 2 = e * 16777216 + s := by
  obtain ⟨⟨e0, e1⟩, s0, s1⟩ := okTid_iff.1 h
  unfold pk
  cases c <;> simp <;> omega

theorem spec_PackTid.ev (e s : Int) (c : Bool) : spec_PackTid.f e s c = some (pkB e s c) := by
  unfold spec_PackTid.f pkB
  rw [spec_l1Tid.ev]; simp only [Option.bind_some]
  by_cases h : okTid e s = true
  · rw [if_pos h, if_pos h]
    have : spec_l1Pack.f e s c = some (pk e s c) := impl_packTid.ev c h
    rw [this]; rfl
  · rw [if_neg h, if_neg h]

theorem spec_l1Cur_wide.ev {l : List Int} (hl : inCur l) {p : Int} (s : Int) (h0 : 0 ≤ p) (h1 : p ≤ 4611686018427385000) : ∃ r p' s', Ev (fun k => spec_l1Cur_wide.f k l p s) (r, p', s') := by
  have key : ∀ (n i : Nat) (x p s : Int), i + n = 8 → 0 ≤ p → p ≤ 4611686018427385000 + i → ∃ r p' s', Ev (fun k => spec_l1Cur_wide.l0 k x (i : Int) l p s) (r, p', s') := by
    intro n
    induction n with
    | zero => intro i x p s hi _ _; exact ⟨_, _, _, Ev.step (fun k => by rw [spec_l1Cur_wide.l0]) (Ev.neg (by omega) (Ev.now _))⟩
    | succ n ih =>
      intro i x p s hi hp hp1
      obtain ⟨r, p1, s1, e, _, _, q0, q1⟩ := spec_l1Cur_next.ev hl s hp (by omega)
      obtain ⟨r', p', s', e'⟩ := ih (i + 1) (Go.bits .or .i64 (wrap64 (x * 256)) r) p1 s1 (by omega) q0 (by omega)
      refine ⟨r', p', s', Ev.step (fun k => by rw [spec_l1Cur_wide.l0]) (Ev.pos (by omega) (Ev.bindS e ?_))⟩
      have : wrap64 ((i : Int) + 1) = ((i + 1 : Nat) : Int) := by rw [w64 (by omega) (by omega)]; omega
      rw [this]; exact e'
  exact key 8 0 0 p s rfl h0 (by omega)

theorem spec_DrawUnpackTid.ev {l : List Int} (hl : inCur l) : ∃ t, Ev (fun k => spec_DrawUnpackTid.f k l) t ∧ 0 ≤ t ∧ t < 18446744073709551616 := by
  unfold spec_DrawUnpackTid.f
  obtain ⟨e, q, c, p, s, h, _, _, _, _, p0, p1⟩ := spec_l1Cur_tid.ev hl (p := 0) 0 (by omega) (by omega)
  obtain ⟨b, p2, s2, h2, q0, q1⟩ := spec_l1Cur_one.ev hl s 6 p0 (by omega)
  obtain ⟨r, p3, s3, h3⟩ := spec_l1Cur_wide.ev hl s2 q0 (by omega)
  cases b with
  | true =>
    have hb := wrapU_bound r
    exact ⟨_, Ev.bindS h (Ev.bindS (spec_PackTid.ev _ _ _) (Ev.bindS h2 (Ev.pos rfl (Ev.bind h3 (Ev.now _))))), hb.1, hb.2⟩
  | false =>
    have hb : 0 ≤ (pkB e q c).1 ∧ (pkB e q c).1 < 18446744073709551616 := by
      unfold pkB
      by_cases h : okTid e q = true
      · rw [if_pos h]; have := pk_bounds c h; exact ⟨this.1, by show pk e q c < _; omega⟩
      · rw [if_neg h]; exact ⟨Int.le_refl _, by show (0 : Int) < _; omega⟩
    exact ⟨_, Ev.bindS h (Ev.bindS (spec_PackTid.ev _ _ _) (Ev.bindS h2 (Ev.neg (by simp) (Ev.now _)))), hb.1, hb.2⟩

theorem spec_UnpackTid.ev (t : Int) (h0 : 0 ≤ t) (h1 : t < 18446744073709551616) : spec_UnpackTid.f t = some (unpk t) := by
  unfold spec_UnpackTid.f unpk
  rw [and_mask _ (by omega) (by omega), and_one _ h0 h1, w64 (by omega) (by omega), w64 (by omega) (by omega), spec_l1Tid.ev]
  simp only [Option.bind_some]
  by_cases h : t ≥ 35184372088832
  · rw [if_pos h, if_neg (fun g => by have := okTid_iff.1 g; omega)]
  · rw [if_neg h, if_pos (pk_unpk h0 h).1]

theorem law_j3 {l : List Int} (hl : inCur l) : Ev (fun k => laws_FnTids.j3 k l) true := by
  obtain ⟨t, h, t0, t1⟩ := spec_DrawUnpackTid.ev hl
  refine Ev.step (fun k => by rw [laws_FnTids.j3]) (Ev.bind h (Ev.bindS (impl_UnpackTid.ev t t0 t1) (Ev.bindS (spec_UnpackTid.ev t t0 t1) ?_)))
  refine Ev.neg (by simp) ?_
  have hz : (!((unpk t).1 == (unpk t).1) || (!((unpk t).2.1 == (unpk t).2.1) || (!((unpk t).2.2.1 == (unpk t).2.2.1)))) = false := by simp
  rw [hz]
  refine Ev.step (fun k => by rw [laws_FnTids.j4]) (Ev.neg (by simp) ?_)
  unfold unpk
  by_cases h : t ≥ 35184372088832
  · rw [if_pos h]; exact Ev.neg (by simp) (Ev.some (by simp))
  · rw [if_neg h]
    obtain ⟨o, q⟩ := pk_unpk t0 h
    refine Ev.pos rfl (Ev.bindS (impl_PackTid.ev _ _ _) ?_)
    unfold pkB
    rw [if_pos o]
    refine Ev.pos rfl (Ev.some ?_)
    simp [q]
theorem holds_ev (l0 l1 : List Int) (h0 : inCur l0) (h1 : inCur l1) : Ev (fun k => laws_FnTids.f k l0 l1) true := by
  unfold laws_FnTids.f
  refine Ev.cases (fun _ => Ev.now _) (fun _ => ?_)
  obtain ⟨e, s, c, e', s', c', hd⟩ := spec_DrawCompareTid.ev h0
  refine Ev.bindS hd (Ev.bind (impl_CompareTid.ev e s c e' s' c') (Ev.bind (spec_CompareTid.ev e s c e' s' c') (Ev.neg (by simp) ?_)))
  have hz : ((cmpTB e s e' s').1 != (cmpTB e s e' s').1) = false := by simp
  rw [hz]
  refine Ev.step (fun k => by rw [laws_FnTids.j0]) (Ev.neg (by simp) (Ev.bindS (impl_PackTid.ev e s c) (Ev.bindS (impl_PackTid.ev e' s' c') ?_)))
  have j2 : ∀ (x : Int × Bool), x = pkB e s c → Ev (fun k => laws_FnTids.j2 k l1 x.1 x.2 false e s c) true := by
    intro x hx
    refine Ev.step (fun k => by rw [laws_FnTids.j2]) (Ev.neg (by simp) ?_)
    subst hx
    unfold pkB
    by_cases o : okTid e s = true
    · rw [if_pos o]
      have hb := pk_bounds c o
      refine Ev.pos rfl (Ev.bindS (impl_UnpackTid.ev _ hb.1 (by show pk e s c < _; omega)) ?_)
      show Ev (fun k => if (unpk (pk e s c)).2.2.2 = true then (if (!((unpk (pk e s c)).1 == e) || (!((unpk (pk e s c)).2.1 == s) || (!((unpk (pk e s c)).2.2.1 == c)))) = true then none else laws_FnTids.j3 k l1) else none) true
      rw [unpk_pk c o]
      exact Ev.pos rfl (Ev.neg (by simp) (law_j3 h1))
    · rw [if_neg o]; exact Ev.neg (by simp) (law_j3 h1)
  unfold cmpTB
  cases o1 : okTid e s with
  | false =>
    have e1 : pkB e s c = (0, false) := by unfold pkB; rw [o1]; rfl
    have j2 := j2 _ rfl
    rw [e1] at j2 ⊢
    refine Ev.neg (by simp) (Ev.step (fun k => by rw [laws_FnTids.j1]) (Ev.neg (by simp) (Ev.neg (by simp) j2)))
  | true =>
    cases o2 : okTid e' s' with
    | false =>
      have e1 : pkB e s c = (pk e s c, true) := by unfold pkB; rw [o1]; rfl
      have e2 : pkB e' s' c' = (0, false) := by unfold pkB; rw [o2]; rfl
      have j2 := j2 _ rfl
      rw [e1] at j2 ⊢
      rw [e2]
      exact Ev.pos rfl (Ev.step (fun k => by rw [laws_FnTids.j1]) (Ev.neg (by simp) (Ev.neg (by simp) j2)))
    | true =>
      have e1 : pkB e s c = (pk e s c, true) := by unfold pkB; rw [o1]; rfl
      have e2 : pkB e' s' c' = (pk e' s' c', true) := by unfold pkB; rw [o2]; rfl
      have j2 := j2 _ rfl
      rw [e1] at j2 ⊢
      rw [e2]
      obtain ⟨_, _, q1⟩ := pk_bounds c o1
      obtain ⟨_, _, q2⟩ := pk_bounds c' o2
      obtain ⟨⟨a0, a1⟩, b0, b1⟩ := okTid_iff.1 o1
      obtain ⟨⟨a0', a1'⟩, b0', b1'⟩ := okTid_iff.1 o2
      have ec : (if (true && true) = true then (cmpT e s e' s', true) else ((0 : Int), false)) = (cmpT e s e' s', true) := rfl
      rw [ec]
      refine Ev.pos rfl (Ev.step (fun k => by rw [laws_FnTids.j1]) (Ev.neg (by simp) (Ev.pos rfl (Ev.neg ?_ ?_))))
      · show ¬ ((decide (pk e s c / 2 < pk e' s' c' / 2)) != (decide (cmpT e s e' s' < 0))) = true
        rw [q1, q2]
        have : decide (e * 16777216 + s < e' * 16777216 + s') = decide (cmpT e s e' s' < 0) := by
          apply decide_eq_decide.2
          unfold cmpT
          repeat' split
          all_goals omega
        rw [this]; simp
      · show Ev (fun k => laws_FnTids.j2 k l1 (pk e s c) true (((pk e s c / 2) == (pk e' s' c' / 2)) != (cmpT e s e' s' == 0)) e s c) true
        rw [q1, q2]
        have : (e * 16777216 + s == e' * 16777216 + s') = (cmpT e s e' s' == 0) := by
          rw [Bool.eq_iff_iff, beq_iff_eq, beq_iff_eq]
          unfold cmpT
          repeat' split
          all_goals omega
        rw [this]
        simpa using j2

end Go.Proofs.Ytgdcooiaeeajmaa.PTD
namespace Go.Proofs.Ytgdcooiaeeajmaa.Pure
open Go.RowKit Go.Proofs.Ytgdcooiaeeajmaa.PTD Go.Proofs.Ytgdcooiaeeajmaa.Base Go.Proofs.YtgdcooiaeeajmaaW.PrintWords Go.Proofs.YtgdcooiaeeajmaaW.PrintLast
theorem FnTids : laws_FnTids.Pure := by
  intro l0 l1 _ _ h0 _ _ h1
  exact (holds_ev l0 l1 (inCur_of h0) (inCur_of h1)).rounds
end Go.Proofs.Ytgdcooiaeeajmaa.Pure
