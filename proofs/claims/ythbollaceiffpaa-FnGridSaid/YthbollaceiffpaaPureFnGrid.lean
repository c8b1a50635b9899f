/- What this text proves: laws.FnGrid, told as plain functions of numbers and lists, answers true for all arguments.
   Conditions: the bounds that the typed reading gives. -/
import Derived.Test.YthbollaceiffpaaPGDx4
import Derived.Test.YthbollaceiffpaaBase
import Derived.Laws.BitsLemmas
import Derived.Laws.Bits64b
namespace Go.Proofs.Ythbollaceiffpaa.PGD
open Go.RowKit Go.Proofs.Ythbollaceiffpaa.Base Go.Proofs.YthbollaceiffpaaW.PrintWords Go.Proofs.YthbollaceiffpaaW.PrintLast Go.Proofs.YthbollaceiffpaaW.PrintMore
set_option linter.unusedVariables false
set_option linter.unusedSimpArgs false
/-- The place of the first element at which p says yes, counted from i; -1 for none. -/
def idxN {α : Type} (p : α → Bool) : List α → Nat → Int
  | [], _ => -1
  | x :: r, i => if p x = true then (i : Int) else idxN p r (i + 1)
theorem idxO_val {α : Type} {F : α → Option Bool} {p : α → Bool} : ∀ (l : List α) (i : Nat), (∀ x ∈ l, F x = some (p x)) → idxO F l i = some (idxN p l i)
  | [], _, _ => rfl
  | x :: r, i, h => by
    simp only [idxO, idxN, h x (List.mem_cons_self ..), Option.bind_some]
    rw [idxO_val r (i + 1) (fun y hy => h y (List.mem_cons_of_mem _ hy))]
    split <;> rfl
theorem idxN_cons {α : Type} (p : α → Bool) (x : α) (r : List α) (i : Nat) : idxN p (x :: r) i = if p x = true then (i : Int) else idxN p r (i + 1) := rfl
theorem idxN_anyP {α : Type} (p : α → Bool) : ∀ (l : List α) (i : Nat), (idxN p l i ≥ 0) ↔ l.any p = true
  | [], _ => by simp [idxN]
  | x :: r, i => by
    rw [idxN_cons]
    by_cases h : p x = true
    · rw [if_pos h, List.any_cons, h]; simp
    · rw [if_neg h, List.any_cons, Bool.eq_false_iff.2 h, Bool.false_or]; exact idxN_anyP p r (i + 1)
theorem idxN_any {α : Type} (p : α → Bool) (l : List α) (i : Nat) : decide (idxN p l i ≥ 0) = l.any p := by
  rw [Bool.eq_iff_iff, decide_eq_true_iff]; exact idxN_anyP p l i
theorem idxN_ge {α : Type} (p : α → Bool) : ∀ (l : List α) (i : Nat), idxN p l i = -1 ∨ (i : Int) ≤ idxN p l i
  | [], _ => .inl rfl
  | x :: r, i => by
    simp only [idxN]
    split
    · exact .inr (Int.le_refl _)
    · rcases idxN_ge p r (i + 1) with h | h
      · exact .inl h
      · exact .inr (by omega)
theorem idxO_any {α : Type} {F : α → Option Bool} {p : α → Bool} {l : List α} (h : ∀ x ∈ l, F x = some (p x)) : ((idxO F l 0).bind fun i => some (decide (i ≥ 0))) = some (l.any p) := by
  rw [idxO_val l 0 h]; simp only [Option.bind_some]; rw [idxN_any]
theorem idxO_Ev {α : Type} {F : Nat → α → Option Bool} {p : α → Bool} : ∀ (l : List α) (i : Nat), (∀ x ∈ l, Ev (fun k => F k x) (p x)) → Ev (fun k => idxO (F k) l i) (idxN p l i)
  | [], _, _ => Ev.now _
  | x :: r, i, h => by
    show Ev (fun k => (F k x).bind fun b => if b = true then some (i : Int) else idxO (F k) r (i + 1)) _
    refine Ev.bind (h x (List.mem_cons_self ..)) ?_
    simp only [idxN]
    refine Ev.cases (fun hp => Ev.some (by rw [if_pos hp])) (fun hp => ?_)
    rw [if_neg hp]
    exact idxO_Ev r (i + 1) (fun y hy => h y (List.mem_cons_of_mem _ hy))
theorem idxAny_Ev {α : Type} {F : Nat → α → Option Bool} {p : α → Bool} {l : List α} (h : ∀ x ∈ l, Ev (fun k => F k x) (p x)) : Ev (fun k => (idxO (F k) l 0).bind fun i => some (decide (i ≥ 0))) (l.any p) := by
  refine Ev.bind (idxO_Ev l 0 h) (Ev.some ?_)
  exact idxN_any p l 0

/-- The drawing's bytes. -/
def inCur (l : List Int) : Prop := ∀ x ∈ l, 0 ≤ x ∧ x ≤ 255
theorem inCur_of {l : List Int} (h : ∀ x ∈ l, (Lit.int .u8 x).wf = true) : inCur l := by
  intro x hx
  have h' : IntKind.u8.min ≤ x ∧ x ≤ IntKind.u8.max := by simpa [Lit.wf] using h x hx
  exact h'
theorem and255 (z : Int) (h0 : 0 ≤ z) (h1 : z < 18446744073709551616) : 0 ≤ Go.bits .and .u64 z 255 ∧ Go.bits .and .u64 z 255 ≤ 255 := by
  obtain ⟨a, rfl⟩ : ∃ a : Nat, z = (a : Int) := ⟨z.toNat, by omega⟩
  have h := bits_and_u64_nat a 255 (by omega) (by omega)
  have : ((255 : Nat) : Int) = (255 : Int) := rfl
  rw [this] at h
  rw [h]
  have := Nat.and_le_right (n := a) (m := 255)
  omega
theorem wrapU_bound (n : Int) : 0 ≤ IntKind.u64.wrap n ∧ IntKind.u64.wrap n < 18446744073709551616 := by
  rw [IntKind.wrap_u64]; omega
theorem spec_l1Cur_next.ev {l : List Int} (hl : inCur l) {p : Int} (s : Int) (h0 : 0 ≤ p) (h1 : p ≤ 4611686018427387904) :
    ∃ r p' s', spec_l1Cur_next.f l p s = some (r, p', s') ∧ 0 ≤ r ∧ r ≤ 255 ∧ 0 ≤ p' ∧ p' ≤ p + 1 := by
  unfold spec_l1Cur_next.f
  have hp : wrap64 (p + 1) = p + 1 := w64 (by omega) (by omega)
  have far : ∀ z : Int, 0 ≤ wrap64 (Go.bits .and .u64 (IntKind.u64.wrap z / 1099511627776) 255) ∧ wrap64 (Go.bits .and .u64 (IntKind.u64.wrap z / 1099511627776) 255) ≤ 255 := by
    intro z
    have hb := wrapU_bound z
    have h := and255 (IntKind.u64.wrap z / 1099511627776) (by omega) (by omega)
    rw [w64 (by omega) (by omega)]; exact h
  rw [hp]
  by_cases c1 : p < (l.length : Int)
  · rw [if_pos c1, if_pos h0]
    have hr : 0 ≤ wrap64 (rd l p) ∧ wrap64 (rd l p) ≤ 255 := by
      obtain ⟨i, rfl⟩ : ∃ i : Nat, p = (i : Int) := ⟨p.toNat, by omega⟩
      have hi : i < l.length := by omega
      rw [rd_get hi]
      have := hl _ (List.getElem_mem hi)
      rw [w64 (by omega) (by omega)]; exact this
    by_cases c2 : p + 1 ≤ (l.length : Int)
    · rw [if_pos c2]; exact ⟨_, _, _, rfl, hr.1, hr.2, by omega, by omega⟩
    · rw [if_neg c2]; exact ⟨_, _, _, rfl, (far _).1, (far _).2, by omega, by omega⟩
  · rw [if_neg c1]
    by_cases c2 : p + 1 ≤ (l.length : Int)
    · rw [if_pos c2]; exact ⟨_, _, _, rfl, by omega, by omega, by omega, by omega⟩
    · rw [if_neg c2]; exact ⟨_, _, _, rfl, (far _).1, (far _).2, by omega, by omega⟩

theorem spec_l1Cur_pick.ev {l : List Int} (hl : inCur l) {p : Int} (s n : Int) (h0 : 0 ≤ p) (h1 : p ≤ 4611686018427387000) :
    ∃ r p' s', spec_l1Cur_pick.f l p s n = some (r, p', s') ∧ 0 ≤ r ∧ (1 ≤ n → r < n) ∧ 0 ≤ p' ∧ p' ≤ p + 2 := by
  unfold spec_l1Cur_pick.f
  by_cases c : n ≤ 1
  · rw [if_pos c]; exact ⟨_, _, _, rfl, by omega, by omega, h0, by omega⟩
  · rw [if_neg c]
    obtain ⟨r, p1, s1, e, r0, r1, q0, q1⟩ := spec_l1Cur_next.ev hl s h0 (by omega)
    rw [e]; simp only [Option.bind_some]
    by_cases c2 : n > 200
    · rw [if_pos c2]
      obtain ⟨r', p2, s2, e', r0', r1', q0', q1'⟩ := spec_l1Cur_next.ev hl s1 q0 (by omega)
      rw [e']; simp only [Option.bind_some]
      rw [if_neg (by omega), w64 (x := r * 256) (by omega) (by omega), w64 (by omega) (by omega)]
      exact ⟨_, _, _, rfl, Int.tmod_nonneg _ (by omega), fun _ => Int.tmod_lt_of_pos _ (by omega), q0', by omega⟩
    · rw [if_neg c2, if_neg (by omega)]
      exact ⟨_, _, _, rfl, Int.tmod_nonneg _ (by omega), fun _ => Int.tmod_lt_of_pos _ (by omega), q0, by omega⟩

theorem spec_DrawGridQuorum.ev {l : List Int} (hl : inCur l) : ∃ a b c d, spec_DrawGridQuorum.f l = some (a, b, c, d) ∧ (1 ≤ a ∧ a ≤ 4) ∧ (1 ≤ b ∧ b ≤ 4) ∧ (-9 ≤ c ∧ c ≤ 9) ∧ (-9 ≤ d ∧ d ≤ 9) := by
  unfold spec_DrawGridQuorum.f
  obtain ⟨r1, p1, s1, e1, a0, a1, q0, q1⟩ := spec_l1Cur_pick.ev hl (p := 0) 0 4 (by omega) (by omega)
  rw [e1]; simp only [Option.bind_some]
  obtain ⟨r2, p2, s2, e2, b0, b1, u0, u1⟩ := spec_l1Cur_pick.ev hl s1 4 q0 (by omega)
  rw [e2]; simp only [Option.bind_some]
  have a1 := a1 (by omega)
  have b1 := b1 (by omega)
  have w1 : wrap64 (1 + r1) = 1 + r1 := w64 (by omega) (by omega)
  have w2 : wrap64 (1 + r2) = 1 + r2 := w64 (by omega) (by omega)
  have w3 : wrap64 (1 + r1 + 1) = 2 + r1 := by rw [w64 (by omega) (by omega)]; omega
  have w4 : wrap64 (1 + r2 + 1) = 2 + r2 := by rw [w64 (by omega) (by omega)]; omega
  rw [w1, w2, w3, w4]
  obtain ⟨r3, p3, s3, e3, c0, c1, v0, v1⟩ := spec_l1Cur_pick.ev hl s2 (2 + r1) u0 (by omega)
  rw [e3]; simp only [Option.bind_some]
  obtain ⟨r4, p4, s4, e4, d0, d1, x0, x1⟩ := spec_l1Cur_pick.ev hl s3 2 v0 (by omega)
  rw [e4]; simp only [Option.bind_some]
  obtain ⟨r5, p5, s5, e5, f0, f1, y0, y1⟩ := spec_l1Cur_pick.ev hl s4 2 x0 (by omega)
  rw [e5]; simp only [Option.bind_some]
  obtain ⟨r6, p6, s6, e6, g0, g1, z0, z1⟩ := spec_l1Cur_pick.ev hl s5 (2 + r2) y0 (by omega)
  rw [e6]; simp only [Option.bind_some]
  have c1 := c1 (by omega)
  have d1 := d1 (by omega)
  have f1 := f1 (by omega)
  have g1 := g1 (by omega)
  refine ⟨_, _, _, _, rfl, by omega, by omega, ?_, by omega⟩
  rcases (show r4 = 0 ∨ r4 = 1 by omega) with rfl | rfl <;> rcases (show r5 = 0 ∨ r5 = 1 by omega) with rfl | rfl <;> simp [wrap64] <;> omega

theorem impl_in.ev (n a b : Int) : impl_in.f n a b = some (inB n a b) := by
  unfold impl_in.f inB
  by_cases h : a ≤ n
  · rw [if_pos h]; simp [h]
  · rw [if_neg h]; simp [h]

def gqN (rows cols row col : Nat) : List Nat := (List.range (rows * cols)).filter fun k => decide (k / cols = row) || decide (k % cols = col)
def castL (l : List Nat) : List Int := l.map fun k : Nat => (k : Int)
def okGrid (a b c d : Int) : Bool := inB a 1 12 && inB b 1 12 && decide (a * b ≤ 12) && inB c 0 (a - 1) && inB d 0 (b - 1)
def gridB (a b c d : Int) : List Int × Bool := if okGrid a b c d = true then (castL (gqN a.toNat b.toNat c.toNat d.toNat), true) else ([], false)
theorem impl_grid_l0 (a b c d : Nat) (hb : 0 < b) (hab : a * b ≤ 12) : Ev (fun k => impl_GridQuorum.l0 k (b : Int) (c : Int) (d : Int) ((a * b : Nat) : Int) 0 []) (castL (gqN a b c d), true) := by
  refine Ev.eq (Ev.up (g := fun k i => impl_GridQuorum.l0 k (b : Int) (c : Int) (d : Int) ((a * b : Nat) : Int) i (castL ((List.range i.toNat).filter fun k => decide (k / b = c) || decide (k % b = d)))) (a * b) (fun _ => (castL (gqN a b c d), true)) ?_) rfl
  intro i hi ih
  refine Ev.step (fun k => by rw [impl_GridQuorum.l0]) ?_
  by_cases hlt : i < a * b
  · have ih := ih hlt
    simp only [Int.toNat_natCast] at ih ⊢
    have e1 : Int.tdiv (i : Int) (b : Int) = ((i / b : Nat) : Int) := rfl
    have e2 : Int.tmod (i : Int) (b : Int) = ((i % b : Nat) : Int) := rfl
    have hle : i / b ≤ i := Nat.div_le_self _ _
    have hm : i % b ≤ i := Nat.mod_le _ _
    have e3' : ∀ q : Nat, q ≤ 12 → wrap64 (q : Int) = (q : Int) := fun q hq => w64 (by omega) (by omega)
    have e3 := e3' (i / b) (Nat.le_trans hle (by omega))
    have e4 : wrap64 ((i : Int) + 1) = ((i + 1 : Nat) : Int) := by rw [w64 (by omega) (by omega)]; omega
    have hlen : (castL ((List.range i).filter fun k => decide (k / b = c) || decide (k % b = d))).length ≤ i := by
      simp only [castL, List.length_map]
      exact Nat.le_trans (List.length_filter_le _ _) (by simp)
    rw [List.range_succ, List.filter_append] at ih
    refine Ev.pos (by omega) (Ev.neg (by omega) ?_)
    rw [e1, e3, e2, e4]
    refine Ev.cases (fun h => Ev.pos (by omega) ?_) (fun h => Ev.cases (fun h2 => Ev.pos (by omega) ?_) (fun h2 => ?_))
    · have : i / b = c := by omega
      simpa [castL, this] using ih
    · have n1 : ¬ i / b = c := by omega
      have : i % b = d := by omega
      simpa [castL, n1, this] using ih
    · have n1 : ¬ i / b = c := by omega
      have n2 : ¬ i % b = d := by omega
      simpa [castL, n1, n2] using ih
  · have : i = a * b := by omega
    subst this
    exact Ev.neg (by omega) (Ev.some (by simp only [Int.toNat_natCast]; rfl))
theorem impl_GridQuorum.ev (a b c d : Int) (ha : -100 ≤ a ∧ a ≤ 100) (hb : -100 ≤ b ∧ b ≤ 100) : Ev (fun k => impl_GridQuorum.f k a b c d) (gridB a b c d) := by
  have no : Ev (fun k => impl_GridQuorum.j0 k a b c d true) ([], false) := by
    refine Ev.step (fun k => by rw [impl_GridQuorum.j0]) ?_
    exact Ev.pos rfl (Ev.now _)
  unfold impl_GridQuorum.f gridB okGrid
  refine Ev.bindS (impl_in.ev _ _ _) (Ev.cases (fun h1 => Ev.bindS (impl_in.ev _ _ _) (Ev.cases (fun h2 => ?_) (fun h2 => ?_))) (fun h1 => ?_))
  · obtain ⟨a0, a1⟩ := inB_iff.1 h1
    obtain ⟨b0, b1⟩ := inB_iff.1 h2
    obtain ⟨x, rfl⟩ : ∃ x : Nat, a = (x : Int) := ⟨a.toNat, by omega⟩
    obtain ⟨y, rfl⟩ : ∃ y : Nat, b = (y : Int) := ⟨b.toNat, by omega⟩
    have hxy : x * y ≤ 12 * 12 := Nat.mul_le_mul (by omega) (by omega)
    have em : (x : Int) * (y : Int) = ((x * y : Nat) : Int) := by simp
    have e1 : wrap64 ((x : Int) * y) = ((x * y : Nat) : Int) := by rw [em, w64 (by omega) (by omega)]
    rw [e1, w64 (x := (x : Int) - 1) (by omega) (by omega), w64 (x := (y : Int) - 1) (by omega) (by omega), h1, h2]
    refine Ev.cases (fun h3 => Ev.eq no ?_) (fun h3 => Ev.bindS (impl_in.ev _ _ _) (Ev.cases (fun h4 => Ev.bindS (impl_in.ev _ _ _) ?_) (fun h4 => Ev.eq no ?_)))
    · rw [em, decide_eq_false (by omega)]; rfl
    · have h3' : ((x * y : Nat) : Int) ≤ 12 := by omega
      rw [em, h4, decide_eq_true h3']
      cases h5 : inB d 0 ((y : Int) - 1) with
      | false => exact Ev.eq no rfl
      | true =>
        obtain ⟨c0, c1⟩ := inB_iff.1 h4
        obtain ⟨d0, d1⟩ := inB_iff.1 h5
        obtain ⟨u, rfl⟩ : ∃ u : Nat, c = (u : Int) := ⟨c.toNat, by omega⟩
        obtain ⟨v, rfl⟩ : ∃ v : Nat, d = (v : Int) := ⟨d.toNat, by omega⟩
        refine Ev.step (fun k => by rw [impl_GridQuorum.j0]) (Ev.neg (by simp) ?_)
        rw [e1]
        exact impl_grid_l0 x y u v (by omega) (by omega)
    · rw [Bool.eq_false_iff.2 h4]; simp
  · refine Ev.eq no ?_
    rw [Bool.eq_false_iff.2 h2]; simp
  · refine Ev.eq no ?_
    rw [Bool.eq_false_iff.2 h1]; simp

theorem spec_l1In.ev (n a b : Int) : spec_l1In.f n a b = some (inB n a b) := by
  unfold spec_l1In.f inB
  by_cases h : a ≤ n
  · rw [if_pos h]; simp [h]
  · rw [if_neg h]; simp [h]

def partN (cols row col i j : Nat) : List Nat := ((List.range j).filter fun q => decide (i = row) || decide (q = col)).map fun q => cols * i + q
def sqN (cols row col : Nat) : Nat → List Nat
  | 0 => []
  | r + 1 => sqN cols row col r ++ partN cols row col r cols
theorem sq_gq (cols row col : Nat) (hc : 0 < cols) : ∀ rows, sqN cols row col rows = gqN rows cols row col
  | 0 => by simp [sqN, gqN]
  | r + 1 => by
    unfold sqN
    rw [sq_gq cols row col hc r]
    unfold gqN partN
    rw [Nat.succ_mul, List.range_add, List.filter_append, List.filter_map]
    congr 1
    have : ((fun k => decide (k / cols = row) || decide (k % cols = col)) ∘ fun x => r * cols + x) = fun x => decide ((r * cols + x) / cols = row) || decide ((r * cols + x) % cols = col) := rfl
    rw [this]
    rw [show (List.range cols).filter (fun x => decide ((r * cols + x) / cols = row) || decide ((r * cols + x) % cols = col)) = (List.range cols).filter (fun q => decide (r = row) || decide (q = col)) from List.filter_congr (fun x hx => by
      have hx' : x < cols := List.mem_range.1 hx
      have e1 : (r * cols + x) / cols = r := by rw [Nat.mul_comm, Nat.mul_add_div hc, Nat.div_eq_of_lt hx', Nat.add_zero]
      have e2 : (r * cols + x) % cols = x := by rw [Nat.mul_comm, Nat.mul_add_mod, Nat.mod_eq_of_lt hx']
      rw [e1, e2])]
    exact List.map_congr_left (fun x _ => by rw [Nat.mul_comm])
theorem partN_len (cols row col i j : Nat) : (partN cols row col i j).length ≤ j := by
  unfold partN; rw [List.length_map]; exact Nat.le_trans (List.length_filter_le _ _) (by simp)
theorem sqN_len (cols row col : Nat) : ∀ r, (sqN cols row col r).length ≤ r * cols
  | 0 => by simp [sqN]
  | r + 1 => by
    have := sqN_len cols row col r
    have := partN_len cols row col r cols
    simp only [sqN, List.length_append, Nat.succ_mul]; omega
theorem spec_grid_l1 (a b c d i : Nat) (hi : i < 12) (hb : b ≤ 12) (A : List Nat) (hA : A.length ≤ 144) (res : List Int × Bool)
    (next : Ev (fun k => spec_GridQuorum.l0 k (a : Int) (b : Int) (c : Int) (d : Int) ((i + 1 : Nat) : Int) (castL (A ++ partN b c d i b))) res) :
    Ev (fun k => spec_GridQuorum.l1 k (a : Int) (b : Int) (c : Int) (d : Int) (i : Int) 0 (castL A)) res := by
  have e0 : castL A = castL (A ++ partN b c d i (0 : Int).toNat) := by simp [partN]
  rw [e0]
  refine Ev.up (g := fun k j => spec_GridQuorum.l1 k (a : Int) (b : Int) (c : Int) (d : Int) (i : Int) j (castL (A ++ partN b c d i j.toNat))) b (fun _ => res) ?_
  intro j hj jh
  refine Ev.step (fun k => by rw [spec_GridQuorum.l1]) ?_
  by_cases hlt : j < b
  · have jh := jh hlt
    simp only [Int.toNat_natCast] at jh ⊢
    have hl := partN_len b c d i j
    have hlen : (castL (A ++ partN b c d i j)).length ≤ 144 + 12 := by simp only [castL, List.length_map, List.length_append]; omega
    have hbi : b * i ≤ 12 * 12 := Nat.mul_le_mul hb (by omega)
    have em : (b : Int) * (i : Int) = ((b * i : Nat) : Int) := by simp
    have ew : wrap64 (wrap64 ((b : Int) * i) + j) = ((b * i + j : Nat) : Int) := by rw [em, w64 (x := ((b * i : Nat) : Int)) (by omega) (by omega), w64 (by omega) (by omega)]; omega
    have e4 : wrap64 ((j : Int) + 1) = ((j + 1 : Nat) : Int) := by rw [w64 (by omega) (by omega)]; omega
    have ep : partN b c d i (j + 1) = partN b c d i j ++ (if (decide (i = c) || decide (j = d)) = true then [b * i + j] else []) := by
      unfold partN
      rw [List.range_succ, List.filter_append, List.map_append]
      congr 1
      by_cases h : (decide (i = c) || decide (j = d)) = true
      · rw [if_pos h]; simp only [List.filter_cons, h, if_true, List.filter_nil, List.map_cons, List.map_nil]
      · rw [if_neg h]; simp only [List.filter_cons, h, List.filter_nil]; rfl
    rw [ep] at jh
    refine Ev.pos (by omega) ?_
    rw [ew, e4]
    refine Ev.cases (fun h => Ev.pos (by omega) ?_) (fun h => Ev.cases (fun h2 => Ev.pos (by omega) ?_) (fun h2 => ?_))
    · have : i = c := by omega
      simpa [castL, this] using jh
    · have n1 : ¬ i = c := by omega
      have : j = d := by omega
      simpa [castL, n1, this] using jh
    · have n1 : ¬ i = c := by omega
      have n2 : ¬ j = d := by omega
      simpa [castL, n1, n2] using jh
  · have : j = b := by omega
    subst this
    refine Ev.neg (by omega) ?_
    have e4 : wrap64 ((i : Int) + 1) = ((i + 1 : Nat) : Int) := by rw [w64 (by omega) (by omega)]; omega
    rw [e4]
    simp only [Int.toNat_natCast]
    exact next
theorem spec_grid_l0 (a b c d : Nat) (ha : a ≤ 12) (hb : b ≤ 12) : Ev (fun k => spec_GridQuorum.l0 k (a : Int) (b : Int) (c : Int) (d : Int) 0 []) (castL (sqN b c d a), true) := by
  refine Ev.eq (Ev.up (g := fun k i => spec_GridQuorum.l0 k (a : Int) (b : Int) (c : Int) (d : Int) i (castL (sqN b c d i.toNat))) a (fun _ => (castL (sqN b c d a), true)) ?_) rfl
  intro i hi ih
  refine Ev.step (fun k => by rw [spec_GridQuorum.l0]) ?_
  by_cases hlt : i < a
  · have ih := ih hlt
    simp only [Int.toNat_natCast] at ih ⊢
    refine Ev.pos (by omega) ?_
    have := sqN_len b c d i
    have : i * b ≤ 12 * 12 := Nat.mul_le_mul (by omega) hb
    exact spec_grid_l1 a b c d i (by omega) hb (sqN b c d i) (by omega) _ ih
  · have : i = a := by omega
    subst this
    exact Ev.neg (by omega) (Ev.some rfl)
theorem spec_GridQuorum.ev (a b c d : Int) (ha : -100 ≤ a ∧ a ≤ 100) (hb : -100 ≤ b ∧ b ≤ 100) : Ev (fun k => spec_GridQuorum.f k a b c d) (gridB a b c d) := by
  have no : Ev (fun k => spec_GridQuorum.j0 k a b c d true) ([], false) := by
    refine Ev.step (fun k => by rw [spec_GridQuorum.j0]) ?_
    exact Ev.pos rfl (Ev.now _)
  unfold spec_GridQuorum.f gridB okGrid
  refine Ev.bindS (spec_l1In.ev _ _ _) (Ev.cases (fun h1 => Ev.bindS (spec_l1In.ev _ _ _) (Ev.cases (fun h2 => ?_) (fun h2 => ?_))) (fun h1 => ?_))
  · obtain ⟨a0, a1⟩ := inB_iff.1 h1
    obtain ⟨b0, b1⟩ := inB_iff.1 h2
    obtain ⟨x, rfl⟩ : ∃ x : Nat, a = (x : Int) := ⟨a.toNat, by omega⟩
    obtain ⟨y, rfl⟩ : ∃ y : Nat, b = (y : Int) := ⟨b.toNat, by omega⟩
    have hxy : x * y ≤ 12 * 12 := Nat.mul_le_mul (by omega) (by omega)
    have em : (x : Int) * (y : Int) = ((x * y : Nat) : Int) := by simp
    have e1 : wrap64 ((x : Int) * y) = ((x * y : Nat) : Int) := by rw [em, w64 (by omega) (by omega)]
    rw [e1, w64 (x := (x : Int) - 1) (by omega) (by omega), w64 (x := (y : Int) - 1) (by omega) (by omega), h1, h2]
    refine Ev.cases (fun h3 => Ev.eq no ?_) (fun h3 => Ev.bindS (spec_l1In.ev _ _ _) (Ev.cases (fun h4 => Ev.bindS (spec_l1In.ev _ _ _) ?_) (fun h4 => Ev.eq no ?_)))
    · rw [em, decide_eq_false (by omega)]; rfl
    · have h3' : ((x * y : Nat) : Int) ≤ 12 := by omega
      rw [em, h4, decide_eq_true h3']
      cases h5 : inB d 0 ((y : Int) - 1) with
      | false => exact Ev.eq no rfl
      | true =>
        obtain ⟨c0, c1⟩ := inB_iff.1 h4
        obtain ⟨d0, d1⟩ := inB_iff.1 h5
        obtain ⟨u, rfl⟩ : ∃ u : Nat, c = (u : Int) := ⟨c.toNat, by omega⟩
        obtain ⟨v, rfl⟩ : ∃ v : Nat, d = (v : Int) := ⟨d.toNat, by omega⟩
        refine Ev.step (fun k => by rw [spec_GridQuorum.j0]) (Ev.neg (by simp) ?_)
        refine Ev.eq (spec_grid_l0 x y u v (by omega) (by omega)) ?_
        rw [sq_gq y u v (by omega) x]; rfl
    · rw [Bool.eq_false_iff.2 h4]; simp
  · refine Ev.eq no ?_
    rw [Bool.eq_false_iff.2 h2]; simp
  · refine Ev.eq no ?_
    rw [Bool.eq_false_iff.2 h1]; simp

theorem laws_sameInts.refl (l : List Int) (hl : l.length ≤ 1048576) : Ev (fun k => laws_sameInts.f k l l) true := by
  unfold laws_sameInts.f
  refine Ev.pos rfl (Ev.eq (Ev.up (g := fun k i => laws_sameInts.l0 k l l (l.length : Int) i) l.length (fun _ => true) ?_) rfl)
  intro i hi ih
  refine Ev.step (fun k => by rw [laws_sameInts.l0]) ?_
  by_cases hlt : i < l.length
  · rw [w64_succ hlt (by omega)]
    exact Ev.pos (by omega) (Ev.pos (by omega) (Ev.pos (by omega) (Ev.pos (by omega) (Ev.pos rfl (ih hlt)))))
  · exact Ev.neg (by omega) (Ev.now _)

theorem laws_numberOf.ev (l : List Int) (h : inCur l) (hl : l.length ≤ 9223372036854775807) : ∃ n, Ev (fun k => laws_numberOf.f k l) n ∧ 0 ≤ n ∧ n ≤ 1000002 := by
  have key : ∀ d i : Nat, i + d = l.length → ∀ x : Int, 0 ≤ x → x ≤ 1000002 → ∃ n, Ev (fun k => laws_numberOf.l0 k x l (l.length : Int) (i : Int)) n ∧ 0 ≤ n ∧ n ≤ 1000002 := by
    intro d
    induction d with
    | zero =>
      intro i hi x h0 h1
      exact ⟨x, Ev.step (fun k => by rw [laws_numberOf.l0]) (Ev.neg (by omega) (Ev.now _)), h0, h1⟩
    | succ d ih =>
      intro i hi x h0 h1
      have hlt : i < l.length := by omega
      obtain ⟨y0, y1⟩ := h _ (List.getElem_mem hlt)
      have hm := Int.tmod_nonneg (a := 31 * x + l[i]) 1000003 (by omega)
      have hm2 := Int.tmod_lt_of_pos (31 * x + l[i]) (b := 1000003) (by omega)
      obtain ⟨n, hn, n0, n1⟩ := ih (i + 1) (by omega) (Int.tmod (31 * x + l[i]) 1000003) hm (by omega)
      refine ⟨n, Ev.step (fun k => by rw [laws_numberOf.l0]) (Ev.pos (by omega) (Ev.pos (by omega) (Ev.pos (by omega) ?_))), n0, n1⟩
      rw [rd_get hlt, w64 (x := l[i]) (by omega) (by omega), w64 (x := 31 * x) (by omega) (by omega), w64 (x := 31 * x + l[i]) (by omega) (by omega), w64_succ hlt hl]
      exact hn
  exact key l.length 0 (by omega) 0 (by omega) (by omega)

def rise (l : List Int) (m : Int) (i : Nat) : Bool := inB (rd l i) 0 m && (decide (i = 0) || decide (rd l ((i : Int) - 1) < rd l i))
/-- A good group of n nodes. -/
def goodG (l : List Int) (n : Int) : Bool := inB n 1 12 && allFrom (rise l (wrap64 (n - 1))) l.length 0
theorem impl_areRising.ev (l : List Int) (n : Int) (hl : l.length ≤ 9223372036854775807) : Ev (fun k => impl_areRising.f k l n) (allFrom (rise l (wrap64 (n - 1))) l.length 0) := by
  unfold impl_areRising.f
  refine Ev.eq (Ev.up (g := fun k i => impl_areRising.l0 k l n l (l.length : Int) i) l.length (fun i => allFrom (rise l (wrap64 (n - 1))) l.length i) ?_) rfl
  intro i hi ih
  refine Ev.step (fun k => by rw [impl_areRising.l0]) ?_
  by_cases hlt : i < l.length
  · refine Ev.pos (by omega) (Ev.pos (by omega) (Ev.pos (by omega) (Ev.bindS (impl_in.ev _ _ _) ?_)))
    rw [allFrom_step hlt]
    have ih := ih hlt
    generalize allFrom (rise l (wrap64 (n - 1))) l.length (i + 1) = q at ih ⊢
    unfold rise
    refine Ev.cases (fun h1 => ?_) (fun h1 => Ev.some (by simp at h1; simp [h1]))
    rw [h1, w64_succ hlt hl]
    refine Ev.cases (fun h2 => ?_) (fun h2 => Ev.eq ih (by rw [decide_eq_true (by omega : i = 0)]; simp))
    rw [w64 (by omega) (by omega)]
    refine Ev.pos (by omega) (Ev.pos (by omega) (Ev.cases (fun h3 => Ev.some ?_) (fun h3 => Ev.eq ih ?_)))
    · rw [decide_eq_false (by omega : ¬ i = 0), decide_eq_false (by omega)]; simp
    · rw [decide_eq_true (by omega : rd l ((i : Int) - 1) < rd l i)]; simp
  · have : i = l.length := by omega
    subst this
    exact Ev.neg (by omega) (Ev.some (by rw [allFrom_end]))

theorem impl_isGroup.ev (l : List Int) (n : Int) (hl : l.length ≤ 9223372036854775807) : Ev (fun k => impl_isGroup.f k l n) (goodG l n) := by
  unfold impl_isGroup.f goodG
  refine Ev.bindS (impl_in.ev _ _ _) ?_
  refine Ev.cases (fun h1 => ?_) (fun h1 => Ev.some (by simp at h1; simp [h1]))
  exact Ev.bind (impl_areRising.ev l n hl) (Ev.some (by rw [h1]; rfl))

theorem impl_MeetOf.ev (l m : List Int) (n : Int) (hl : l.length ≤ 1048576) (hm : m.length ≤ 1048576) (g1 : goodG l n = true) (g2 : goodG m n = true) : Ev (fun k => impl_MeetOf.f k l m n) (l.filter (fun x => m.contains x), true) := by
  unfold impl_MeetOf.f
  refine Ev.bind (impl_isGroup.ev l n (by omega)) (Ev.pos g1 (Ev.bind (impl_isGroup.ev m n (by omega)) (Ev.pos g2 (Ev.bindS (a := l.filter fun x => m.contains x) ?_ (Ev.now _)))))
  unfold impl_meet.f; rw [if_pos ⟨hl, hm⟩]

theorem grid_finB : ((List.range 13).all fun a => (List.range 13).all fun b => if a * b ≤ 12 then (List.range a).all fun c => (List.range b).all fun d => decide ((gqN a b c d).length = a + b - 1) && goodG (castL (gqN a b c d)) ((a * b : Nat) : Int) else true) = true := by decide +kernel
theorem grid_fin (a : Nat) (ha : a < 13) (b : Nat) (hb : b < 13) (hab : a * b ≤ 12) (c : Nat) (hc : c < a) (d : Nat) (hd : d < b) : (gqN a b c d).length = a + b - 1 ∧ goodG (castL (gqN a b c d)) ((a * b : Nat) : Int) = true := by
  have h := List.all_eq_true.1 (List.all_eq_true.1 grid_finB a (List.mem_range.2 ha)) b (List.mem_range.2 hb)
  rw [if_pos hab] at h
  have h2 := List.all_eq_true.1 (List.all_eq_true.1 h c (List.mem_range.2 hc)) d (List.mem_range.2 hd)
  rw [Bool.and_eq_true, decide_eq_true_eq] at h2
  exact h2
theorem grid_meet {a b c d c' d' : Nat} (hc : c < a) (hd' : d' < b) : ((castL (gqN a b c d)).filter fun x => (castL (gqN a b c' d')).contains x) ≠ [] := by
  have hb : 0 < b := by omega
  have e1 : (c * b + d') / b = c := by rw [Nat.mul_comm, Nat.mul_add_div hb, Nat.div_eq_of_lt hd', Nat.add_zero]
  have e2 : (c * b + d') % b = d' := by rw [Nat.mul_comm, Nat.mul_add_mod, Nat.mod_eq_of_lt hd']
  have hlt : c * b + d' < a * b := by
    have : (c + 1) * b ≤ a * b := Nat.mul_le_mul_right b hc
    rw [Nat.succ_mul] at this; omega
  have m1 : c * b + d' ∈ gqN a b c d := by
    unfold gqN; rw [List.mem_filter]; exact ⟨List.mem_range.2 hlt, by rw [e1]; simp⟩
  have m2 : c * b + d' ∈ gqN a b c' d' := by
    unfold gqN; rw [List.mem_filter]; exact ⟨List.mem_range.2 hlt, by rw [e2]; simp⟩
  intro h
  have : (((c * b + d' : Nat) : Int)) ∈ ((castL (gqN a b c d)).filter fun x => (castL (gqN a b c' d')).contains x) := by
    rw [List.mem_filter]
    refine ⟨List.mem_map.2 ⟨_, m1, rfl⟩, ?_⟩
    rw [List.contains_iff_mem]
    exact List.mem_map.2 ⟨_, m2, rfl⟩
  rw [h] at this; cases this
theorem holds_ev (l0 l1 : List Int) (h0 : inCur l0) (h1 : inCur l1) (hl1 : l1.length ≤ 9223372036854775807) : Ev (fun k => laws_FnGrid.f k l0 l1) true := by
  unfold laws_FnGrid.f
  refine Ev.cases (fun _ => Ev.now _) (fun _ => ?_)
  obtain ⟨a, b, c, d, hd, ⟨a0, a1⟩, ⟨b0, b1⟩, _, _⟩ := spec_DrawGridQuorum.ev h0
  have no : ∀ x : Bool, Ev (fun k => laws_FnGrid.j0 k l1 a b false false []) true := by
    intro _
    refine Ev.step (fun k => by rw [laws_FnGrid.j0]) ?_
    exact Ev.neg (by simp) (Ev.neg (by simp) (Ev.now _))
  refine Ev.bindS hd (Ev.bind (impl_GridQuorum.ev a b c d (by omega) (by omega)) (Ev.bind (spec_GridQuorum.ev a b c d (by omega) (by omega)) ?_))
  refine Ev.neg (by simp) ?_
  cases ok : okGrid a b c d with
  | false =>
    have e : gridB a b c d = ([], false) := by unfold gridB; rw [ok]; rfl
    rw [e]
    exact Ev.bind (laws_sameInts.refl [] (by simp)) (no true)
  | true =>
    have e : gridB a b c d = (castL (gqN a.toNat b.toNat c.toNat d.toNat), true) := by unfold gridB; rw [ok]; rfl
    have ok' := ok
    unfold okGrid at ok'
    simp only [Bool.and_eq_true, decide_eq_true_eq, inB_iff] at ok'
    obtain ⟨⟨⟨⟨_, _⟩, hab⟩, c0, c1⟩, d0, d1⟩ := ok'
    rw [e]
    obtain ⟨x, rfl⟩ : ∃ x : Nat, a = (x : Int) := ⟨a.toNat, by omega⟩
    obtain ⟨y, rfl⟩ : ∃ y : Nat, b = (y : Int) := ⟨b.toNat, by omega⟩
    obtain ⟨u, rfl⟩ : ∃ u : Nat, c = (u : Int) := ⟨c.toNat, by omega⟩
    obtain ⟨v, rfl⟩ : ∃ v : Nat, d = (v : Int) := ⟨d.toNat, by omega⟩
    simp only [Int.toNat_natCast]
    have em : (x : Int) * (y : Int) = ((x * y : Nat) : Int) := by simp
    rw [em] at hab
    obtain ⟨f1, f2⟩ := grid_fin x (by omega) y (by omega) (by omega) u (by omega) v (by omega)
    have hlen : (castL (gqN x y u v)).length = x + y - 1 := by simp only [castL, List.length_map]; exact f1
    refine Ev.bind (laws_sameInts.refl _ (by omega)) ?_
    obtain ⟨n, hn, n0, n1⟩ := laws_numberOf.ev l1 h1 hl1
    refine Ev.step (fun k => by rw [laws_FnGrid.j0]) (Ev.neg (by simp) (Ev.pos rfl (Ev.bind hn ?_)))
    refine Ev.neg (show ¬ ((x : Int) = 0) by omega) ?_
    refine Ev.neg (show ¬ ((y : Int) = 0) by omega) ?_
    obtain ⟨m, rfl⟩ : ∃ m : Nat, n = (m : Int) := ⟨n.toNat, by omega⟩
    have e1 : Int.tmod (m : Int) (x : Int) = ((m % x : Nat) : Int) := rfl
    have e2 : Int.tdiv (m : Int) (x : Int) = ((m / x : Nat) : Int) := rfl
    have hle : m / x ≤ m := Nat.div_le_self _ _
    have e3' : ∀ q : Nat, q ≤ 1000002 → wrap64 (q : Int) = (q : Int) := fun q hq => w64 (by omega) (by omega)
    have e3 := e3' (m / x) (Nat.le_trans hle (by omega))
    have e4 : Int.tmod ((m / x : Nat) : Int) (y : Int) = ((m / x % y : Nat) : Int) := rfl
    have h3 : m % x < x := Nat.mod_lt _ (by omega)
    have h4 : m / x % y < y := Nat.mod_lt _ (by omega)
    rw [e1, e2, e3, e4]
    have okg : okGrid (x : Int) (y : Int) ((m % x : Nat) : Int) ((m / x % y : Nat) : Int) = true := by
      unfold okGrid
      simp only [Bool.and_eq_true, decide_eq_true_eq, inB_iff]
      rw [em]
      exact ⟨⟨⟨⟨by omega, by omega⟩, hab⟩, by omega⟩, by omega⟩
    have eg : gridB (x : Int) (y : Int) ((m % x : Nat) : Int) ((m / x % y : Nat) : Int) = (castL (gqN x y (m % x) (m / x % y)), true) := by unfold gridB; rw [okg]; rfl
    obtain ⟨k1, k2⟩ := grid_fin x (by omega) y (by omega) (by omega) (m % x) h3 (m / x % y) h4
    have hlen2 : (castL (gqN x y (m % x) (m / x % y))).length = x + y - 1 := by simp only [castL, List.length_map]; exact k1
    refine Ev.bind (Ev.eq (impl_GridQuorum.ev _ _ _ _ (by omega) (by omega)) eg) ?_
    have ewm : wrap64 ((x : Int) * y) = ((x * y : Nat) : Int) := by rw [em, w64 (by omega) (by omega)]
    show Ev (fun k => (impl_MeetOf.f k (castL (gqN x y u v)) (castL (gqN x y (m % x) (m / x % y))) (wrap64 ((x : Int) * y))).bind _) true
    rw [ewm]
    refine Ev.bind (impl_MeetOf.ev _ _ _ (by omega) (by omega) f2 k2) (Ev.pos rfl (Ev.pos rfl (Ev.pos ?_ (Ev.some ?_))))
    · have := grid_meet (a := x) (b := y) (c := u) (d := v) (c' := m % x) (d' := m / x % y) (by omega) h4
      have : 0 < ((castL (gqN x y u v)).filter fun z => (castL (gqN x y (m % x) (m / x % y))).contains z).length := List.length_pos_iff.2 this
      show ((((castL (gqN x y u v)).filter fun z => (castL (gqN x y (m % x) (m / x % y))).contains z).length : Nat) : Int) > 0
      omega
    · rw [hlen, w64 (x := (x : Int) + y) (by omega) (by omega), w64 (by omega) (by omega)]
      have : ((x + y - 1 : Nat) : Int) = (x : Int) + y - 1 := by omega
      rw [this]; simp

end Go.Proofs.Ythbollaceiffpaa.PGD
namespace Go.Proofs.Ythbollaceiffpaa.Pure
open Go.RowKit Go.Proofs.Ythbollaceiffpaa.PGD Go.Proofs.Ythbollaceiffpaa.Base Go.Proofs.YthbollaceiffpaaW.PrintWords Go.Proofs.YthbollaceiffpaaW.PrintLast
theorem FnGrid : laws_FnGrid.Pure := by
  intro l0 l1 _ _ h0 hm _ h1
  exact (holds_ev l0 l1 (inCur_of h0) (inCur_of h1) hm).rounds
end Go.Proofs.Ythbollaceiffpaa.Pure
