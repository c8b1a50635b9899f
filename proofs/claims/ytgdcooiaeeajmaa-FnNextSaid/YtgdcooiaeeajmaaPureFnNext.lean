/- What this text proves: laws.FnNext, told as plain functions of numbers and lists, answers true for all arguments.
   Conditions: the bounds that the typed reading gives. -/
import Derived.Test.YtgdcooiaeeajmaaPNXx6
import Derived.Test.YtgdcooiaeeajmaaBase
import Derived.Laws.BitsLemmas
import Derived.Laws.Bits64b
namespace Go.Proofs.Ytgdcooiaeeajmaa.PNX
open Go.RowKit Go.Proofs.Ytgdcooiaeeajmaa.Base Go.Proofs.YtgdcooiaeeajmaaW.PrintWords Go.Proofs.YtgdcooiaeeajmaaW.PrintLast Go.Proofs.YtgdcooiaeeajmaaW.PrintMore
set_option linter.unusedVariables false
set_option linter.unusedSimpArgs false
/-- The drawing's bytes. -/
def inCur (l : List Int) : Prop := ∀ x ∈ l, 0 ≤ x ∧ x ≤ 255
theorem inCur_of {l : List Int} (h : ∀ x ∈ l, (Lit.int .u8 x).wf = true) : inCur l := by
  intro x hx
  have h' : IntKind.u8.min ≤ x ∧ x ≤ IntKind.u8.max := by simpa [Lit.wf] using h x hx
  exact h'
theorem and255 (z : Int) (h0 : 0 ≤ z) (h1 : z < 18446744073709551616) : 0 ≤ Go.bits .and .u64 z 255 ∧ Go.bits .and .u64 z 255 ≤ 255 := by
  obtain ⟨a, rfl⟩ : ∃ a : Nat, z = (a : Int) := ⟨z.toNat, by omega⟩
  have h := bits_and_u64_nat a 255 (by omega) (by omega)
  have : ((255 : Nat) : Int) = (255 : Int) := rfl
  rw [this] at h
  rw [h]
  have := Nat.and_le_right (n := a) (m := 255)
  omega
theorem wrapU_bound (n : Int) : 0 ≤ IntKind.u64.wrap n ∧ IntKind.u64.wrap n < 18446744073709551616 := by
  rw [IntKind.wrap_u64]; omega
theorem spec_l1Cur_next.ev {l : List Int} (hl : inCur l) {p : Int} (s : Int) (h0 : 0 ≤ p) (h1 : p ≤ 4611686018427387904) :
    ∃ r p' s', spec_l1Cur_next.f l p s = some (r, p', s') ∧ 0 ≤ r ∧ r ≤ 255 ∧ 0 ≤ p' ∧ p' ≤ p + 1 := by
  unfold spec_l1Cur_next.f
  have hp : wrap64 (p + 1) = p + 1 := w64 (by omega) (by omega)
  have far : ∀ z : Int, 0 ≤ wrap64 (Go.bits .and .u64 (IntKind.u64.wrap z / 1099511627776) 255) ∧ wrap64 (Go.bits .and .u64 (IntKind.u64.wrap z / 1099511627776) 255) ≤ 255 := by
    intro z
    have hb := wrapU_bound z
    have h := and255 (IntKind.u64.wrap z / 1099511627776) (by omega) (by omega)
    rw [w64 (by omega) (by omega)]; exact h
  rw [hp]
  by_cases c1 : p < (l.length : Int)
  · rw [if_pos c1, if_pos h0]
    have hr : 0 ≤ wrap64 (rd l p) ∧ wrap64 (rd l p) ≤ 255 := by
      obtain ⟨i, rfl⟩ : ∃ i : Nat, p = (i : Int) := ⟨p.toNat, by omega⟩
      have hi : i < l.length := by omega
      rw [rd_get hi]
      have := hl _ (List.getElem_mem hi)
      rw [w64 (by omega) (by omega)]; exact this
    by_cases c2 : p + 1 ≤ (l.length : Int)
    · rw [if_pos c2]; exact ⟨_, _, _, rfl, hr.1, hr.2, by omega, by omega⟩
    · rw [if_neg c2]; exact ⟨_, _, _, rfl, (far _).1, (far _).2, by omega, by omega⟩
  · rw [if_neg c1]
    by_cases c2 : p + 1 ≤ (l.length : Int)
    · rw [if_pos c2]; exact ⟨_, _, _, rfl, by omega, by omega, by omega, by omega⟩
    · rw [if_neg c2]; exact ⟨_, _, _, rfl, (far _).1, (far _).2, by omega, by omega⟩

theorem spec_l1Cur_pick.ev {l : List Int} (hl : inCur l) {p : Int} (s n : Int) (h0 : 0 ≤ p) (h1 : p ≤ 4611686018427387000) :
    ∃ r p' s', spec_l1Cur_pick.f l p s n = some (r, p', s') ∧ 0 ≤ r ∧ (1 ≤ n → r < n) ∧ 0 ≤ p' ∧ p' ≤ p + 2 := by
  unfold spec_l1Cur_pick.f
  by_cases c : n ≤ 1
  · rw [if_pos c]; exact ⟨_, _, _, rfl, by omega, by omega, h0, by omega⟩
  · rw [if_neg c]
    obtain ⟨r, p1, s1, e, r0, r1, q0, q1⟩ := spec_l1Cur_next.ev hl s h0 (by omega)
    rw [e]; simp only [Option.bind_some]
    by_cases c2 : n > 200
    · rw [if_pos c2]
      obtain ⟨r', p2, s2, e', r0', r1', q0', q1'⟩ := spec_l1Cur_next.ev hl s1 q0 (by omega)
      rw [e']; simp only [Option.bind_some]
      rw [if_neg (by omega), w64 (x := r * 256) (by omega) (by omega), w64 (by omega) (by omega)]
      exact ⟨_, _, _, rfl, Int.tmod_nonneg _ (by omega), fun _ => Int.tmod_lt_of_pos _ (by omega), q0', by omega⟩
    · rw [if_neg c2, if_neg (by omega)]
      exact ⟨_, _, _, rfl, Int.tmod_nonneg _ (by omega), fun _ => Int.tmod_lt_of_pos _ (by omega), q0, by omega⟩

theorem spec_l1Cur_one.ev {l : List Int} (hl : inCur l) {p : Int} (s n : Int) (h0 : 0 ≤ p) (h1 : p ≤ 4611686018427387000) :
    ∃ r p' s', spec_l1Cur_one.f l p s n = some (r, p', s') ∧ 0 ≤ p' ∧ p' ≤ p + 2 := by
  unfold spec_l1Cur_one.f
  obtain ⟨r, p1, s1, e, _, _, q0, q1⟩ := spec_l1Cur_pick.ev hl s n h0 h1
  rw [e]; exact ⟨_, _, _, rfl, q0, q1⟩

theorem spec_l1Cur_among.ev {l : List Int} (hl : inCur l) {p : Int} (s : Int) (z : List Int) (h0 : 0 ≤ p) (h1 : p ≤ 4611686018427387000) (hz : 0 < z.length) :
    ∃ r p' s', spec_l1Cur_among.f l p s z = some (r, p', s') ∧ r ∈ z ∧ 0 ≤ p' ∧ p' ≤ p + 2 := by
  unfold spec_l1Cur_among.f
  obtain ⟨r, p1, s1, e, r0, r1, q0, q1⟩ := spec_l1Cur_pick.ev hl s z.length h0 h1
  have r1 := r1 (by omega)
  rw [e]; simp only [Option.bind_some]
  rw [if_pos r0, if_pos r1]
  refine ⟨_, _, _, rfl, ?_, q0, q1⟩
  obtain ⟨i, rfl⟩ : ∃ i : Nat, r = (i : Int) := ⟨r.toNat, by omega⟩
  have hi : i < z.length := by omega
  rw [rd_get hi]; exact List.getElem_mem hi

theorem spec_l1Cur_tid.ev {l : List Int} (hl : inCur l) {p : Int} (s : Int) (h0 : 0 ≤ p) (h1 : p ≤ 4611686018427385000) :
    ∃ e q c p' s', spec_l1Cur_tid.f l p s = some (e, q, c, p', s') ∧ -1 ≤ e ∧ e ≤ 1048576 ∧ -1 ≤ q ∧ q ≤ 16777216 ∧ 0 ≤ p' ∧ p' ≤ p + 20 := by
  unfold spec_l1Cur_tid.f
  obtain ⟨t, p1, s1, e1, t0, t1, q0, q1⟩ := spec_l1Cur_pick.ev hl s 4 h0 (by omega)
  rw [e1]; simp only [Option.bind_some]
  obtain ⟨u, p2, s2, e2, u0, u1, v0, v1⟩ := spec_l1Cur_pick.ev hl s1 6 q0 (by omega)
  rw [e2]; simp only [Option.bind_some]
  obtain ⟨c, p3, s3, e3, w0, w1⟩ := spec_l1Cur_one.ev hl s2 4 v0 (by omega)
  rw [e3]; simp only [Option.bind_some]
  obtain ⟨b, p4, s4, e4, _, _, x0, x1⟩ := spec_l1Cur_pick.ev hl s3 20 w0 (by omega)
  rw [e4]; simp only [Option.bind_some]
  have t1 := t1 (by omega)
  have u1 := u1 (by omega)
  by_cases c1 : b = 0
  · rw [if_pos c1]
    obtain ⟨x, p5, s5, e5, hx, y0, y1⟩ := spec_l1Cur_among.ev hl s4 [(-1), 1048575, 1048576] x0 (by omega) (by simp)
    rw [e5]; simp only [Option.bind_some]
    simp only [List.mem_cons, List.not_mem_nil, or_false] at hx
    exact ⟨_, _, _, _, _, rfl, by omega, by omega, by omega, by omega, y0, by omega⟩
  · rw [if_neg c1]
    by_cases c2 : b = 1
    · rw [if_pos c2]
      obtain ⟨x, p5, s5, e5, hx, y0, y1⟩ := spec_l1Cur_among.ev hl s4 [(-1), 16777215, 16777216] x0 (by omega) (by simp)
      rw [e5]; simp only [Option.bind_some]
      simp only [List.mem_cons, List.not_mem_nil, or_false] at hx
      exact ⟨_, _, _, _, _, rfl, by omega, by omega, by omega, by omega, y0, by omega⟩
    · rw [if_neg c2]; exact ⟨_, _, _, _, _, rfl, by omega, by omega, by omega, by omega, x0, by omega⟩

theorem spec_DrawNextTid.ev {l : List Int} (hl : inCur l) : ∃ x e, Ev (fun k => spec_DrawNextTid.f k l) (x, e) ∧ x.length ≤ 61 := by
  have key : ∀ (n : Nat) (x : List S27) (p s : Int), x.length + n ≤ 61 → 0 ≤ p → p ≤ 2000 + 20 * x.length → ∃ y e, Ev (fun k => spec_DrawNextTid.l0 k x (n : Int) l p s) (y, e) ∧ y.length ≤ 61 := by
    intro n
    induction n with
    | zero =>
      intro x p s hx hp hp1
      obtain ⟨r, p1, s1, e1, _, _, q0, q1⟩ := spec_l1Cur_pick.ev hl s 6 hp (by omega)
      obtain ⟨r', p2, s2, e2, _, _, _, _⟩ := spec_l1Cur_pick.ev hl s1 2 q0 (by omega)
      refine ⟨x, wrap64 (r - r'), Ev.step (fun k => by rw [spec_DrawNextTid.l0]) (Ev.neg (by omega) (Ev.bindS e1 ?_)), by omega⟩
      exact Ev.bindS e2 (Ev.now _)
    | succ n ih =>
      intro x p s hx hp hp1
      obtain ⟨e, q, c, p1, s1, h, _, _, _, _, q0, q1⟩ := spec_l1Cur_tid.ev hl s hp (by omega)
      obtain ⟨y, e', h', hy⟩ := ih (x ++ [(⟨e, q, c⟩ : S27)]) p1 s1 (by simp; omega) q0 (by simp; omega)
      refine ⟨y, e', Ev.step (fun k => by rw [spec_DrawNextTid.l0]) (Ev.pos (by omega) (Ev.bindS h ?_)), hy⟩
      refine Ev.pos (show x.length < 5864062014805 by omega) ?_
      have : wrap64 (((n + 1 : Nat) : Int) - 1) = (n : Int) := by rw [w64 (by omega) (by omega)]; omega
      rw [this]; exact h'
  unfold spec_DrawNextTid.f
  obtain ⟨n, p1, s1, e1, n0, n1, q0, q1⟩ := spec_l1Cur_pick.ev hl (p := 0) 0 5 (by omega) (by omega)
  obtain ⟨b, p2, s2, e2, u0, u1⟩ := spec_l1Cur_one.ev hl s1 30 q0 (by omega)
  have n1 := n1 (by omega)
  cases b with
  | true =>
    obtain ⟨m, p3, s3, e3, m0, m1, v0, v1⟩ := spec_l1Cur_pick.ev hl s2 2 u0 (by omega)
    have m1 := m1 (by omega)
    obtain ⟨a, ha⟩ : ∃ a : Nat, wrap64 (60 + m) = (a : Int) := ⟨(60 + m).toNat, by rw [w64 (by omega) (by omega)]; omega⟩
    have ha' : (60 + m) = (a : Int) := by rw [← ha, w64 (by omega) (by omega)]
    obtain ⟨y, e, h, hy⟩ := key a [] p3 s3 (by simp; omega) v0 (by simp; omega)
    refine ⟨y, e, Ev.bindS e1 (Ev.bindS e2 (Ev.pos rfl (Ev.bindS e3 ?_))), hy⟩
    show Ev (fun k => spec_DrawNextTid.j0 k [] (wrap64 (60 + m)) l p3 s3) (y, e)
    rw [ha]
    exact Ev.step (fun k => by rw [spec_DrawNextTid.j0]) h
  | false =>
    obtain ⟨a, ha⟩ : ∃ a : Nat, n = (a : Int) := ⟨n.toNat, by omega⟩
    obtain ⟨y, e, h, hy⟩ := key a [] p2 s2 (by simp; omega) u0 (by simp; omega)
    refine ⟨y, e, Ev.bindS e1 (Ev.bindS e2 (Ev.neg (by simp) ?_)), hy⟩
    subst ha
    exact Ev.step (fun k => by rw [spec_DrawNextTid.j0]) h

theorem impl_in.ev (n a b : Int) : impl_in.f n a b = some (inB n a b) := by
  unfold impl_in.f inB
  by_cases h : a ≤ n
  · rw [if_pos h]; simp [h]
  · rw [if_neg h]; simp [h]

def cmpT (e s e' s' : Int) : Int := if e < e' then -1 else if e' < e then 1 else if s < s' then -1 else if s' < s then 1 else 0
def okTid (e s : Int) : Bool := inB e 0 1048575 && inB s 0 16777215
theorem okTid_iff {e s : Int} : okTid e s = true ↔ (0 ≤ e ∧ e ≤ 1048575) ∧ (0 ≤ s ∧ s ≤ 16777215) := by
  unfold okTid; rw [Bool.and_eq_true, inB_iff, inB_iff]
theorem impl_isTid.ev (e s : Int) (c : Bool) : impl_isTid.f e s c = some (okTid e s) := by
  unfold impl_isTid.f okTid
  rw [impl_in.ev]; simp only [Option.bind_some]
  by_cases h : inB e 0 1048575 = true
  · rw [if_pos h, impl_in.ev, h]; rfl
  · rw [if_neg h, Bool.eq_false_iff.2 h]; rfl

abbrev R4 := Int × Int × Bool × Bool
def zero4 : R4 := (0, 0, false, false)
def okT (x : S27) : Bool := okTid x.f0 x.f1
/-- The next tid behind those of a list, from a number on. -/
def resI (e : Int) : Int → List S27 → R4
  | s, [] => if s > 16777215 then zero4 else (e, s, false, true)
  | s, x :: r => if okT x = true ∧ x.f0 ≤ e then (if x.f0 = e then resI e (max s (x.f1 + 1)) r else resI e s r) else zero4
def nextT (l : List S27) (e : Int) : R4 := if (l.length : Int) > 60 ∨ inB e 0 1048575 = false then zero4 else resI e 0 l
theorem impl_NextTid.ev (l : List S27) (e : Int) (hl : l.length ≤ 61) : Ev (fun k => impl_NextTid.f k l e) (nextT l e) := by
  have no : Ev (fun k => impl_NextTid.j0 k l e true) zero4 := by
    refine Ev.step (fun k => by rw [impl_NextTid.j0]) ?_
    exact Ev.pos rfl (Ev.now _)
  unfold impl_NextTid.f nextT
  refine Ev.cases (fun h => Ev.eq no (by rw [if_pos (.inl h)])) (fun h => Ev.bindS (impl_in.ev _ _ _) ?_)
  cases hi : inB e 0 1048575 with
  | false => exact Ev.eq no (by rw [if_pos (.inr rfl)])
  | true =>
    rw [if_neg (by simp; omega)]
    obtain ⟨i0, i1⟩ := inB_iff.1 hi
    refine Ev.step (fun k => by rw [impl_NextTid.j0]) (Ev.neg (by simp) ?_)
    have key : ∀ d i : Nat, i + d = l.length → ∀ s : Int, 0 ≤ s → s ≤ 16777216 → Ev (fun k => impl_NextTid.l0 k e l (l.length : Int) (i : Int) e s false) (resI e s (l.drop i)) := by
      intro d
      induction d with
      | zero =>
        intro i hd s h0 h1
        refine Ev.step (fun k => by rw [impl_NextTid.l0]) (Ev.neg (by omega) ?_)
        rw [List.drop_of_length_le (by omega)]
        unfold resI
        exact Ev.cases (fun h => Ev.some (by rw [if_pos h]; rfl)) (fun h => Ev.some (by rw [if_neg h]))
      | succ d ih =>
        intro i hd s h0 h1
        have hlt : i < l.length := by omega
        have er : rd_T27 l (i : Int) = l[i] := getD_nat l _ hlt
        refine Ev.step (fun k => by rw [impl_NextTid.l0]) (Ev.pos (by omega) (Ev.pos (by omega) (Ev.pos (by omega) ?_)))
        rw [er, List.drop_eq_getElem_cons hlt]
        refine Ev.bindS (impl_isTid.ev _ _ _) ?_
        have bad : Ev (fun k => impl_NextTid.j2 k e l (l.length : Int) (i : Int) true e s false l[i].f0 l[i].f1 l[i].f2) zero4 := by
          refine Ev.step (fun k => by rw [impl_NextTid.j2]) ?_
          exact Ev.pos rfl (Ev.now _)
        have e1 : wrap64 ((i : Int) + 1) = ((i + 1 : Nat) : Int) := w64_succ hlt (by omega)
        refine Ev.cases (fun o => ?_) (fun o => Ev.eq bad ?_)
        · obtain ⟨_, s0, s1⟩ := okTid_iff.1 o
          by_cases c : l[i].f0 > e
          · rw [decide_eq_true c]
            refine Ev.eq bad ?_
            unfold resI; rw [if_neg (fun h => by omega)]
          · rw [decide_eq_false c]
            refine Ev.step (fun k => by rw [impl_NextTid.j2]) (Ev.neg (by simp) ?_)
            rw [e1]
            unfold resI
            rw [if_pos ⟨o, by omega⟩]
            refine Ev.cases (fun q => ?_) (fun q => ?_)
            · rw [if_pos q]
              have em : mx s (wrap64 (l[i].f1 + 1)) = max s (l[i].f1 + 1) := by
                rw [w64 (by omega) (by omega)]; unfold mx; split <;> omega
              rw [em]
              exact ih (i + 1) (by omega) _ (by omega) (by omega)
            · rw [if_neg q]; exact ih (i + 1) (by omega) s h0 h1
        · unfold resI; rw [if_neg (fun h => o h.1)]
    exact key l.length 0 (by omega) 0 (by omega) (by omega)

theorem spec_l1In.ev (n a b : Int) : spec_l1In.f n a b = some (inB n a b) := by
  unfold spec_l1In.f inB
  by_cases h : a ≤ n
  · rw [if_pos h]; simp [h]
  · rw [if_neg h]; simp [h]

theorem spec_l1Tid.ev (e s : Int) (c : Bool) : spec_l1Tid.f e s c = some (okTid e s) := by
  unfold spec_l1Tid.f okTid
  rw [spec_l1In.ev]; simp only [Option.bind_some]
  by_cases h : inB e 0 1048575 = true
  · rw [if_pos h, spec_l1In.ev, h]; rfl
  · rw [if_neg h, Bool.eq_false_iff.2 h]; rfl

theorem spec_l1Compare.ev (e s : Int) (c : Bool) (e' s' : Int) (c' : Bool) : Ev (fun k => spec_l1Compare.f k e s c e' s' c') (cmpT e s e' s') := by
  unfold spec_l1Compare.f cmpT
  refine Ev.cases (fun h => ?_) (fun h => Ev.cases (fun h' => ?_) (fun h' => ?_))
  · refine Ev.step (fun k => by rw [spec_l1Compare.j0]) (Ev.pos rfl (Ev.some (by rw [if_pos h])))
  · subst h'
    rw [if_neg h, if_neg h]
    refine Ev.step (fun k => by rw [spec_l1Compare.j0]) ?_
    by_cases h1 : s < s'
    · exact Ev.pos (by simpa using h1) (Ev.some (by rw [if_pos h1]))
    · rw [if_neg h1]
      exact Ev.neg (by simpa using h1) (Ev.neg (by omega) (Ev.cases (fun h2 => Ev.some (by rw [if_pos (by omega)])) (fun h2 => Ev.some (by rw [if_neg (by omega)]))))
  · rw [if_neg h, if_pos (by omega)]
    exact Ev.step (fun k => by rw [spec_l1Compare.j0]) (Ev.neg (by simp) (Ev.pos (by omega) (Ev.now _)))

def stepS (c : Int × Int) (x : S27) : Int × Int := if cmpT x.f0 x.f1 c.1 c.2 ≥ 0 then (x.f0, x.f1 + 1) else c
def finS (e : Int) (c : Int × Int) : R4 := (c.1, c.2, false, decide (c.1 = e) && decide (c.2 ≤ 16777215))
theorem spec_l1Next.ev (l : List S27) (e : Int) (hl : l.length ≤ 61) (ho : ∀ x ∈ l, okT x = true) : Ev (fun k => spec_l1Next.f k l e) (finS e (l.foldl stepS (e, 0))) := by
  unfold spec_l1Next.f
  have key : ∀ d i : Nat, i + d = l.length → ∀ c : Int × Int, Ev (fun k => spec_l1Next.l0 k e l (l.length : Int) (i : Int) c.1 c.2 false) (finS e ((l.drop i).foldl stepS c)) := by
    intro d
    induction d with
    | zero =>
      intro i hd c
      refine Ev.step (fun k => by rw [spec_l1Next.l0]) (Ev.neg (by omega) ?_)
      rw [List.drop_of_length_le (by omega), List.foldl_nil]
      unfold finS
      exact Ev.cases (fun h => Ev.some (by rw [decide_eq_true h]; rfl)) (fun h => Ev.some (by rw [decide_eq_false h]; rfl))
    | succ d ih =>
      intro i hd c
      have hlt : i < l.length := by omega
      have er : rd_T27 l (i : Int) = l[i] := getD_nat l _ hlt
      obtain ⟨_, s0, s1⟩ := okTid_iff.1 (ho _ (List.getElem_mem hlt))
      refine Ev.step (fun k => by rw [spec_l1Next.l0]) (Ev.pos (by omega) (Ev.pos (by omega) (Ev.pos (by omega) ?_)))
      have e1 : wrap64 ((i : Int) + 1) = ((i + 1 : Nat) : Int) := w64_succ hlt (by omega)
      rw [er, e1, List.drop_eq_getElem_cons hlt, List.foldl_cons]
      refine Ev.bind (spec_l1Compare.ev _ _ _ _ _ _) ?_
      unfold stepS
      refine Ev.cases (fun h => ?_) (fun h => ?_)
      · rw [if_pos h, w64 (by omega) (by omega)]; exact ih (i + 1) (by omega) (l[i].f0, l[i].f1 + 1)
      · rw [if_neg h]; exact ih (i + 1) (by omega) c
  exact key l.length 0 (by omega) (e, 0)

theorem fold_far {e : Int} : ∀ (l : List S27) (c : Int × Int), e < c.1 → e < (l.foldl stepS c).1
  | [], c, h => h
  | x :: r, c, h => by
    rw [List.foldl_cons]
    refine fold_far r _ ?_
    unfold stepS
    split
    · rename_i g
      have : c.1 ≤ x.f0 := by
        unfold cmpT at g
        by_cases q : x.f0 < c.1
        · rw [if_pos q] at g; omega
        · omega
      show e < x.f0; omega
    · exact h
theorem resI_fold {e : Int} : ∀ (l : List S27) (s : Int), 0 ≤ s → (∀ x ∈ l, okT x = true) → resI e s l = (if (finS e (l.foldl stepS (e, s))).2.2.2 = true then ((l.foldl stepS (e, s)).1, (l.foldl stepS (e, s)).2, false, true) else zero4)
  | [], s, h0, _ => by
    unfold resI finS
    by_cases h : s > 16777215
    · rw [if_pos h, if_neg (by show ¬ (decide (e = e) && decide (s ≤ 16777215)) = true; simp; omega)]
    · rw [if_neg h, if_pos (by show (decide (e = e) && decide (s ≤ 16777215)) = true; simp; omega)]; rfl
  | x :: r, s, h0, ho => by
    have o := ho x (List.mem_cons_self ..)
    have ho' : ∀ y ∈ r, okT y = true := fun y hy => ho y (List.mem_cons_of_mem _ hy)
    obtain ⟨_, s0, s1⟩ := okTid_iff.1 o
    rw [List.foldl_cons]
    unfold resI
    by_cases c : x.f0 ≤ e
    · rw [if_pos ⟨o, c⟩]
      by_cases q : x.f0 = e
      · rw [if_pos q]
        have es : stepS (e, s) x = (e, max s (x.f1 + 1)) := by
          unfold stepS cmpT
          show (if (if x.f0 < e then (-1 : Int) else if e < x.f0 then 1 else if x.f1 < s then -1 else if s < x.f1 then 1 else 0) ≥ 0 then (x.f0, x.f1 + 1) else (e, s)) = _
          rw [if_neg (show ¬ x.f0 < e by omega), if_neg (show ¬ e < x.f0 by omega)]
          by_cases g : x.f1 < s
          · rw [if_pos g, if_neg (show ¬ ((-1 : Int) ≥ 0) by omega), Int.max_eq_left (by omega)]
          · rw [if_neg g, Int.max_eq_right (by omega), q]
            exact if_pos (by split <;> omega)
        rw [es]; exact resI_fold r _ (by omega) ho'
      · rw [if_neg q]
        have es : stepS (e, s) x = (e, s) := by
          unfold stepS cmpT
          show (if (if x.f0 < e then (-1 : Int) else if e < x.f0 then 1 else if x.f1 < s then -1 else if s < x.f1 then 1 else 0) ≥ 0 then (x.f0, x.f1 + 1) else (e, s)) = _
          rw [if_pos (show x.f0 < e by omega), if_neg (by omega)]
        rw [es]; exact resI_fold r s h0 ho'
    · rw [if_neg (fun h => c h.2)]
      have es : stepS (e, s) x = (x.f0, x.f1 + 1) := by
        unfold stepS cmpT
        show (if (if x.f0 < e then (-1 : Int) else if e < x.f0 then 1 else if x.f1 < s then -1 else if s < x.f1 then 1 else 0) ≥ 0 then (x.f0, x.f1 + 1) else (e, s)) = _
        rw [if_neg (show ¬ x.f0 < e by omega), if_pos (show e < x.f0 by omega), if_pos (by omega)]
      rw [es]
      have := fold_far (e := e) r (x.f0, x.f1 + 1) (by show e < x.f0; omega)
      rw [if_neg]
      unfold finS
      simp; omega
theorem resI_bad {e : Int} : ∀ (l : List S27) (s : Int), l.all okT = false → resI e s l = zero4
  | [], _, h => by simp at h
  | x :: r, s, h => by
    unfold resI
    by_cases o : okT x = true
    · have hr : r.all okT = false := by simpa [o] using h
      split
      · split
        · exact resI_bad r _ hr
        · exact resI_bad r _ hr
      · rfl
    · rw [if_neg (fun g => o g.1)]
theorem spec_NextTid.ev (l : List S27) (e : Int) (hl : l.length ≤ 61) : Ev (fun k => spec_NextTid.f k l e) (nextT l e) := by
  have no : Ev (fun k => spec_NextTid.j0 k l e true) zero4 := by
    refine Ev.step (fun k => by rw [spec_NextTid.j0]) ?_
    exact Ev.pos rfl (Ev.now _)
  unfold spec_NextTid.f nextT
  refine Ev.cases (fun h => Ev.eq no (by rw [if_pos (.inl h)])) (fun h => Ev.bindS (spec_l1In.ev _ _ _) ?_)
  cases hi : inB e 0 1048575 with
  | false => exact Ev.eq no (by rw [if_pos (.inr rfl)])
  | true =>
    rw [if_neg (by simp; omega)]
    refine Ev.step (fun k => by rw [spec_NextTid.j0]) (Ev.neg (by simp) ?_)
    cases ha : l.all okT with
    | true =>
      have ho : ∀ x ∈ l, okT x = true := by simpa using ha
      refine Ev.eq (Ev.up (g := fun k i => spec_NextTid.l0 k l e l (l.length : Int) i) l.length (fun _ => resI e 0 l) ?_) rfl
      intro i hi ih
      refine Ev.step (fun k => by rw [spec_NextTid.l0]) ?_
      by_cases hlt : i < l.length
      · have er : rd_T27 l (i : Int) = l[i] := getD_nat l _ hlt
        rw [er, w64_succ hlt (by omega)]
        exact Ev.pos (by omega) (Ev.pos (by omega) (Ev.pos (by omega) (Ev.bindS (spec_l1Tid.ev _ _ _) (Ev.pos (ho _ (List.getElem_mem hlt)) (ih hlt)))))
      · refine Ev.neg (by omega) (Ev.bind (spec_l1Next.ev l e hl ho) ?_)
        rw [resI_fold l 0 (by omega) ho]
        exact Ev.cases (fun h => Ev.some (by rw [if_pos h]; rfl)) (fun h => Ev.some (by rw [if_neg h]; rfl))
    | false =>
      rw [resI_bad l 0 ha]
      have key : ∀ d i : Nat, i + d = l.length → (l.drop i).all okT = false → Ev (fun k => spec_NextTid.l0 k l e l (l.length : Int) (i : Int)) zero4 := by
        intro d
        induction d with
        | zero => intro i hd h; rw [List.drop_of_length_le (by omega)] at h; simp at h
        | succ d ih =>
          intro i hd h
          have hlt : i < l.length := by omega
          have er : rd_T27 l (i : Int) = l[i] := getD_nat l _ hlt
          rw [all_take_succ l okT hlt] at h
          refine Ev.step (fun k => by rw [spec_NextTid.l0]) (Ev.pos (by omega) (Ev.pos (by omega) (Ev.pos (by omega) ?_)))
          rw [er, w64_succ hlt (by omega)]
          refine Ev.bindS (spec_l1Tid.ev _ _ _) (Ev.cases (fun o => ih (i + 1) (by omega) ?_) (fun o => Ev.now _))
          have o' : okT l[i] = true := o
          rw [o'] at h; simpa using h
      exact key l.length 0 (by omega) (by simpa using ha)

/-- The first number that is not 0. -/
def orI : List Int → Int
  | [] => 0
  | x :: r => if x = 0 then orI r else x
theorem cmp_Or_int.ev (l : List Int) (hl : l.length ≤ 9223372036854775807) : Ev (fun k => cmp_Or_int.f k l) (orI l) := by
  unfold cmp_Or_int.f
  refine Ev.eq (Ev.up (g := fun k i => cmp_Or_int.l0 k 0 l (l.length : Int) i) l.length (fun i => orI (l.drop i)) ?_) rfl
  intro i hi ih
  refine Ev.step (fun k => by rw [cmp_Or_int.l0]) ?_
  by_cases hlt : i < l.length
  · have e : orI (l.drop i) = if l[i] = 0 then orI (l.drop (i + 1)) else l[i] := by
      rw [List.drop_eq_getElem_cons hlt]; rfl
    refine Ev.pos (by omega) (Ev.pos (by omega) (Ev.pos (by omega) ?_))
    rw [rd_get hlt, w64_succ hlt hl, e]
    exact Ev.cases (fun h => Ev.eq (ih hlt) (by rw [if_pos h])) (fun h => Ev.some (by rw [if_neg h]))
  · have : i = l.length := by omega
    subst this
    exact Ev.neg (by omega) (Ev.some (by simp [orI]))

def cmpI (a b : Int) : Int := if a < b then -1 else if a > b then 1 else 0
theorem cmp_Compare_int.ev (a b : Int) : cmp_Compare_int.f a b = some (cmpI a b) := by
  unfold cmp_Compare_int.f cmp_isNaN_int.f cmpI
  simp only [Option.bind_some, bne_self_eq_false]
  rw [if_neg (by simp), if_neg (by simp)]
  split
  · rfl
  · split <;> rfl

theorem impl_compareTid.ev (e s : Int) (c : Bool) (e' s' : Int) (c' : Bool) : Ev (fun k => impl_compareTid.f k e s c e' s' c') (cmpT e s e' s') := by
  unfold impl_compareTid.f
  refine Ev.bindS (cmp_Compare_int.ev _ _) (Ev.bindS (cmp_Compare_int.ev _ _) (Ev.bind (cmp_Or_int.ev _ (by simp)) (Ev.some ?_)))
  unfold cmpT orI orI orI cmpI
  by_cases h1 : e < e'
  · simp [h1]
  · by_cases h2 : e > e'
    · simp [h1, h2]
    · simp [h1, h2]
      by_cases h3 : s < s'
      · simp [h3]
      · by_cases h4 : s > s'
        · simp [h3, h4]
        · simp [h3, h4]

def cmpTB (e s e' s' : Int) : Int × Bool := if okTid e s && okTid e' s' then (cmpT e s e' s', true) else (0, false)
theorem impl_CompareTid.ev (e s : Int) (c : Bool) (e' s' : Int) (c' : Bool) : Ev (fun k => impl_CompareTid.f k e s c e' s' c') (cmpTB e s e' s') := by
  unfold impl_CompareTid.f cmpTB
  refine Ev.bindS (impl_isTid.ev _ _ _) (Ev.cases (fun h => Ev.bindS (impl_isTid.ev _ _ _) (Ev.cases (fun h' => Ev.bind (impl_compareTid.ev _ _ _ _ _ _) (Ev.some ?_)) (fun h' => Ev.some ?_))) (fun h => Ev.some ?_))
  · rw [h, h']; rfl
  · rw [h, Bool.eq_false_iff.2 h']; rfl
  · rw [Bool.eq_false_iff.2 h]; rfl

theorem spec_CompareTid.ev (e s : Int) (c : Bool) (e' s' : Int) (c' : Bool) : Ev (fun k => spec_CompareTid.f k e s c e' s' c') (cmpTB e s e' s') := by
  unfold spec_CompareTid.f cmpTB
  refine Ev.bindS (spec_l1Tid.ev _ _ _) (Ev.cases (fun h => Ev.bindS (spec_l1Tid.ev _ _ _) (Ev.cases (fun h' => Ev.bind (spec_l1Compare.ev _ _ _ _ _ _) (Ev.some ?_)) (fun h' => Ev.some ?_))) (fun h => Ev.some ?_))
  · rw [h, h']; rfl
  · rw [h, Bool.eq_false_iff.2 h']; rfl
  · rw [Bool.eq_false_iff.2 h]; rfl

theorem resI_ok {e : Int} : ∀ (l : List S27) (s : Int), (resI e s l).2.2.2 = true → (resI e s l).1 = e ∧ (resI e s l).2.2.1 = false ∧ s ≤ (resI e s l).2.1 ∧ (resI e s l).2.1 ≤ 16777215 ∧ (∀ x ∈ l, okT x = true ∧ x.f0 ≤ e ∧ (x.f0 = e → x.f1 < (resI e s l).2.1)) ∧ ((resI e s l).2.1 = s ∨ ∃ x ∈ l, x.f0 = e ∧ x.f1 + 1 = (resI e s l).2.1)
  | [], s, h => by
    unfold resI at h ⊢
    by_cases c : s > 16777215
    · rw [if_pos c] at h; cases h
    · rw [if_neg c]; exact ⟨rfl, rfl, Int.le_refl _, by show s ≤ _; omega, fun x hx => by simp at hx, .inl rfl⟩
  | x :: r, s, h => by
    unfold resI at h ⊢
    by_cases c : okT x = true ∧ x.f0 ≤ e
    · rw [if_pos c] at h ⊢
      by_cases q : x.f0 = e
      · rw [if_pos q] at h ⊢
        obtain ⟨h1, h2, h3, h4, h5, h6⟩ := resI_ok r _ h
        refine ⟨h1, h2, by omega, h4, fun y hy => ?_, ?_⟩
        · rcases List.mem_cons.1 hy with rfl | hy
          · exact ⟨c.1, c.2, fun _ => by omega⟩
          · exact h5 y hy
        · rcases h6 with h6 | ⟨y, hy, h7⟩
          · by_cases g : s ≤ x.f1 + 1
            · exact .inr ⟨x, List.mem_cons_self .., q, by omega⟩
            · exact .inl (by omega)
          · exact .inr ⟨y, List.mem_cons_of_mem _ hy, h7⟩
      · rw [if_neg q] at h ⊢
        obtain ⟨h1, h2, h3, h4, h5, h6⟩ := resI_ok r _ h
        refine ⟨h1, h2, h3, h4, fun y hy => ?_, ?_⟩
        · rcases List.mem_cons.1 hy with rfl | hy
          · exact ⟨c.1, c.2, fun g => absurd g q⟩
          · exact h5 y hy
        · rcases h6 with h6 | ⟨y, hy, h7⟩
          · exact .inl h6
          · exact .inr ⟨y, List.mem_cons_of_mem _ hy, h7⟩
    · rw [if_neg c] at h; cases h
theorem resI_no {e : Int} : ∀ (l : List S27) (s : Int), (resI e s l).2.2.2 = false → resI e s l = zero4
  | [], s, h => by
    unfold resI at h ⊢
    by_cases c : s > 16777215
    · rw [if_pos c]
    · rw [if_neg c] at h; cases h
  | x :: r, s, h => by
    unfold resI at h ⊢
    by_cases c : okT x = true ∧ x.f0 ≤ e
    · rw [if_pos c] at h ⊢
      by_cases q : x.f0 = e
      · rw [if_pos q] at h ⊢; exact resI_no r _ h
      · rw [if_neg q] at h ⊢; exact resI_no r _ h
    · rw [if_neg c]
theorem law_l0 (l : List S27) (e s : Int) (hl : l.length ≤ 61) (oe : okTid e s = true) (h5 : ∀ x ∈ l, okT x = true ∧ x.f0 ≤ e ∧ (x.f0 = e → x.f1 < s)) (h6 : s = 0 ∨ ∃ x ∈ l, x.f0 = e ∧ x.f1 + 1 = s) :
    Ev (fun k => laws_FnNext.l0 k e (decide (s > 0)) (decide (s > 0)) l (l.length : Int) 0 e s false e (wrap64 (s - 1)) false) true := by
  obtain ⟨⟨e0, e1⟩, s0, s1⟩ := okTid_iff.1 oe
  rw [w64 (by omega) (by omega)]
  have key : ∀ d i : Nat, i + d = l.length → ∀ g : Bool, (g && (l.drop i).all fun x => decide (cmpT e (s - 1) x.f0 x.f1 > 0)) = false → Ev (fun k => laws_FnNext.l0 k e (decide (s > 0)) g l (l.length : Int) (i : Int) e s false e (s - 1) false) true := by
    intro d
    induction d with
    | zero =>
      intro i hd g hg
      rw [List.drop_of_length_le (by omega)] at hg
      have hg' : g = false := by simpa using hg
      subst hg'
      refine Ev.step (fun k => by rw [laws_FnNext.l0]) ?_
      refine Ev.neg (by omega) ?_
      refine Ev.pos rfl ?_
      exact Ev.neg (by simp) (Ev.now _)
    | succ d ih =>
      intro i hd g hg
      have hlt : i < l.length := by omega
      have er : rd_T27 l (i : Int) = l[i] := getD_nat l _ hlt
      obtain ⟨ox, xe, xs⟩ := h5 _ (List.getElem_mem hlt)
      refine Ev.step (fun k => by rw [laws_FnNext.l0]) (Ev.pos (by omega) (Ev.pos (by omega) (Ev.pos (by omega) ?_)))
      rw [er]
      have ec : cmpTB e s l[i].f0 l[i].f1 = (1, true) := by
        have ox' : okTid l[i].f0 l[i].f1 = true := ox
        unfold cmpTB cmpT
        rw [oe, ox']
        show ((if e < l[i].f0 then (-1 : Int) else if l[i].f0 < e then 1 else if s < l[i].f1 then -1 else if l[i].f1 < s then 1 else 0), true) = (1, true)
        by_cases q : l[i].f0 = e
        · have := xs q
          rw [if_neg (by omega), if_neg (by omega), if_neg (by omega), if_pos (by omega)]
        · rw [if_neg (by omega), if_pos (by omega)]
      refine Ev.bind (Ev.eq (impl_CompareTid.ev _ _ _ _ _ _) ec) (Ev.pos rfl ?_)
      refine Ev.step (fun k => by rw [laws_FnNext.j2]) (Ev.neg (by simp) ?_)
      rw [w64_succ hlt (by omega)]
      rw [all_take_succ l _ hlt] at hg
      by_cases c : s > 0
      · rw [decide_eq_true c] at ih ⊢
        have oe' : okTid e (s - 1) = true := okTid_iff.2 ⟨⟨e0, e1⟩, by omega, by omega⟩
        have ox' : okTid l[i].f0 l[i].f1 = true := ox
        have ec' : cmpTB e (s - 1) l[i].f0 l[i].f1 = (cmpT e (s - 1) l[i].f0 l[i].f1, true) := by unfold cmpTB; rw [oe', ox']; rfl
        refine Ev.pos rfl (Ev.bind (Ev.eq (spec_CompareTid.ev _ _ _ _ _ _) ec') ?_)
        cases g with
        | true => exact Ev.pos rfl (ih (i + 1) (by omega) _ (by simpa using hg))
        | false => exact Ev.neg (by simp) (ih (i + 1) (by omega) false rfl)
      · rw [decide_eq_false c] at ih ⊢
        refine Ev.neg (by simp) (ih (i + 1) (by omega) g ?_)
        have sz : s = 0 := by omega
        cases g with
        | false => rfl
        | true =>
          have ox' : okTid l[i].f0 l[i].f1 = true := ox
          obtain ⟨_, y0, _⟩ := okTid_iff.1 ox'
          have hq : ¬ (l[i].f0 = e) := fun q => by have := xs q; omega
          have : cmpT e (s - 1) l[i].f0 l[i].f1 > 0 := by
            unfold cmpT; rw [if_neg (by omega), if_pos (by omega)]; omega
          rw [decide_eq_true this] at hg
          simpa using hg
  refine key l.length 0 (by omega) _ ?_
  rcases h6 with rfl | ⟨x, hx, q1, q2⟩
  · rfl
  · have : (l.all fun x => decide (cmpT e (s - 1) x.f0 x.f1 > 0)) = false := by
      rw [List.all_eq_false]
      refine ⟨x, hx, ?_⟩
      have : cmpT e (s - 1) x.f0 x.f1 = 0 := by
        unfold cmpT; rw [if_neg (by omega), if_neg (by omega), if_neg (by omega), if_neg (by omega)]
      rw [this]; simp
    rw [List.drop_zero, this, Bool.and_false]
theorem holds_ev (l0 : List Int) (h0 : inCur l0) : Ev (fun k => laws_FnNext.f k l0) true := by
  unfold laws_FnNext.f
  refine Ev.cases (fun _ => Ev.now _) (fun _ => ?_)
  obtain ⟨l, e, hd, hl⟩ := spec_DrawNextTid.ev h0
  refine Ev.bind hd (Ev.bind (impl_NextTid.ev l e hl) (Ev.bind (spec_NextTid.ev l e hl) ?_))
  refine Ev.neg (by simp) ?_
  have hz : (!((nextT l e).1 == (nextT l e).1) || (!((nextT l e).2.1 == (nextT l e).2.1) || (!((nextT l e).2.2.1 == (nextT l e).2.2.1)))) = false := by simp
  show Ev (fun k => laws_FnNext.j0 k l e (nextT l e).2.2.2 (!((nextT l e).1 == (nextT l e).1) || (!((nextT l e).2.1 == (nextT l e).2.1) || (!((nextT l e).2.2.1 == (nextT l e).2.2.1)))) (nextT l e).1 (nextT l e).2.1 (nextT l e).2.2.1) true
  rw [hz]
  refine Ev.step (fun k => by rw [laws_FnNext.j0]) (Ev.neg (by simp) ?_)
  have zz : nextT l e = zero4 → Ev (fun k => if (nextT l e).2.2.2 = true then laws_FnNext.l0 k e (decide ((nextT l e).2.1 > 0)) (decide ((nextT l e).2.1 > 0)) l (l.length : Int) 0 (nextT l e).1 (nextT l e).2.1 (nextT l e).2.2.1 (nextT l e).1 (wrap64 ((nextT l e).2.1 - 1)) (nextT l e).2.2.1 else some ((nextT l e).1 == 0 && ((nextT l e).2.1 == 0 && (!(nextT l e).2.2.1)))) true := by
    intro h
    rw [h]; exact Ev.neg (by simp [zero4]) (Ev.some (by simp [zero4]))
  by_cases c : (l.length : Int) > 60 ∨ inB e 0 1048575 = false
  · exact zz (by unfold nextT; rw [if_pos c])
  · have en : nextT l e = resI e 0 l := by unfold nextT; rw [if_neg c]
    cases hr : (resI e 0 l).2.2.2 with
    | false => exact zz (by rw [en]; exact resI_no l 0 hr)
    | true =>
      obtain ⟨h1, h2, h3, h4, h5, h6⟩ := resI_ok l 0 hr
      rw [en]
      refine Ev.pos hr ?_
      rw [h1, h2]
      have hi : inB e 0 1048575 = true := by
        cases g : inB e 0 1048575 with
        | true => rfl
        | false => exact absurd (.inr g) c
      exact law_l0 l e _ hl (okTid_iff.2 ⟨inB_iff.1 hi, h3, h4⟩) h5 h6

end Go.Proofs.Ytgdcooiaeeajmaa.PNX
namespace Go.Proofs.Ytgdcooiaeeajmaa.Pure
open Go.RowKit Go.Proofs.Ytgdcooiaeeajmaa.PNX Go.Proofs.Ytgdcooiaeeajmaa.Base Go.Proofs.YtgdcooiaeeajmaaW.PrintWords Go.Proofs.YtgdcooiaeeajmaaW.PrintLast
theorem FnNext : laws_FnNext.Pure := by
  intro l0 _ _ h0
  exact (holds_ev l0 (inCur_of h0)).rounds
end Go.Proofs.Ytgdcooiaeeajmaa.Pure
