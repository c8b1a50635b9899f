/- What this text proves (a hand-built part): the plain answers of the small tests of a register, and the machine calls that return them.
   Conditions: as each theorem says. -/
import Derived.Test.YtipfikmbldgliaaPRGx3
import Derived.Test.YtipfikmbldgliaaPRGx6
import Derived.Test.YtipfikmbldgliaaBase
import Derived.Test.YtipfikmbldgliaaMapSet
namespace Go.Proofs.Ytipfikmbldgliaa.PRG
open Go.RowKit Go.Proofs.YtipfikmbldgliaaW.PrintWords Go.Proofs.YtipfikmbldgliaaW.PrintLast Go.Proofs.YtipfikmbldgliaaW.PrintMore Go.Proofs.Ytipfikmbldgliaa.Base Go.Proofs.Ytipfikmbldgliaa.MapSet
set_option linter.unusedVariables false
set_option linter.unusedSimpArgs false

namespace Tot0
/-- The place of the first element at which p says yes, counted from i; -1 for none. -/
def idxN {α : Type} (p : α → Bool) : List α → Nat → Int
  | [], _ => -1
  | x :: r, i => if p x = true then (i : Int) else idxN p r (i + 1)
theorem idxO_val {α : Type} {F : α → Option Bool} {p : α → Bool} : ∀ (l : List α) (i : Nat), (∀ x ∈ l, F x = some (p x)) → idxO F l i = some (idxN p l i)
  | [], _, _ => rfl
  | x :: r, i, h => by
    simp only [idxO, idxN, h x (List.mem_cons_self ..), Option.bind_some]
    rw [idxO_val r (i + 1) (fun y hy => h y (List.mem_cons_of_mem _ hy))]
    split <;> rfl
theorem idxN_cons {α : Type} (p : α → Bool) (x : α) (r : List α) (i : Nat) : idxN p (x :: r) i = if p x = true then (i : Int) else idxN p r (i + 1) := rfl
theorem idxN_anyP {α : Type} (p : α → Bool) : ∀ (l : List α) (i : Nat), (idxN p l i ≥ 0) ↔ l.any p = true
  | [], _ => by simp [idxN]
  | x :: r, i => by
    rw [idxN_cons]
    by_cases h : p x = true
    · rw [if_pos h, List.any_cons, h]; simp
    · rw [if_neg h, List.any_cons, Bool.eq_false_iff.2 h, Bool.false_or]; exact idxN_anyP p r (i + 1)
theorem idxN_any {α : Type} (p : α → Bool) (l : List α) (i : Nat) : decide (idxN p l i ≥ 0) = l.any p := by
  rw [Bool.eq_iff_iff, decide_eq_true_iff]; exact idxN_anyP p l i
theorem idxN_ge {α : Type} (p : α → Bool) : ∀ (l : List α) (i : Nat), idxN p l i = -1 ∨ (i : Int) ≤ idxN p l i
  | [], _ => .inl rfl
  | x :: r, i => by
    simp only [idxN]
    split
    · exact .inr (Int.le_refl _)
    · rcases idxN_ge p r (i + 1) with h | h
      · exact .inl h
      · exact .inr (by omega)
theorem idxO_any {α : Type} {F : α → Option Bool} {p : α → Bool} {l : List α} (h : ∀ x ∈ l, F x = some (p x)) : ((idxO F l 0).bind fun i => some (decide (i ≥ 0))) = some (l.any p) := by
  rw [idxO_val l 0 h]; simp only [Option.bind_some]; rw [idxN_any]
theorem idxO_Ev {α : Type} {F : Nat → α → Option Bool} {p : α → Bool} : ∀ (l : List α) (i : Nat), (∀ x ∈ l, Ev (fun k => F k x) (p x)) → Ev (fun k => idxO (F k) l i) (idxN p l i)
  | [], _, _ => Ev.now _
  | x :: r, i, h => by
    show Ev (fun k => (F k x).bind fun b => if b = true then some (i : Int) else idxO (F k) r (i + 1)) _
    refine Ev.bind (h x (List.mem_cons_self ..)) ?_
    simp only [idxN]
    refine Ev.cases (fun hp => Ev.some (by rw [if_pos hp])) (fun hp => ?_)
    rw [if_neg hp]
    exact idxO_Ev r (i + 1) (fun y hy => h y (List.mem_cons_of_mem _ hy))
theorem idxAny_Ev {α : Type} {F : Nat → α → Option Bool} {p : α → Bool} {l : List α} (h : ∀ x ∈ l, Ev (fun k => F k x) (p x)) : Ev (fun k => (idxO (F k) l 0).bind fun i => some (decide (i ≥ 0))) (l.any p) := by
  refine Ev.bind (idxO_Ev l 0 h) (Ev.some ?_)
  exact idxN_any p l 0
end Tot0
open Tot0
theorem impl_in.ev (n a b : Int) : impl_in.f n a b = some (inB n a b) := by
  unfold impl_in.f inB
  by_cases h : a ≤ n
  · rw [if_pos h]; simp [h]
  · rw [if_neg h]; simp [h]
theorem spec_l1In.ev (n a b : Int) : spec_l1In.f n a b = some (inB n a b) := by
  unfold spec_l1In.f inB
  by_cases h : a ≤ n
  · rw [if_pos h]; simp [h]
  · rw [if_neg h]; simp [h]
/-- Byte i of a text may stand in a value. -/
def okByte (s : ByteArray) (i : Nat) : Bool := decide (32 ≤ bt s i) && decide (bt s i ≤ 126) && !decide (bt s i = 59)
/-- A value. -/
def okVal (s : ByteArray) : Bool := allFrom (okByte s) s.size 0 && decide (s.size ≤ 20)
theorem spec_l1Value.ev (s : ByteArray) (hs : s.size ≤ 9223372036854775807) : Ev (fun k => spec_l1Value.f k s) (okVal s) := by
  unfold spec_l1Value.f okVal
  refine Ev.eq (Ev.up (g := fun k i => spec_l1Value.l0 k s i) s.size (fun i => allFrom (okByte s) s.size i && decide (s.size ≤ 20)) ?_) rfl
  intro i hi ih
  refine Ev.step (fun k => by rw [spec_l1Value.l0]) ?_
  by_cases hlt : i < s.size
  · refine Ev.pos (by omega) (Ev.pos (by omega) ?_)
    rw [allFrom_step hlt]
    have ih := ih hlt
    generalize allFrom (okByte s) s.size (i + 1) = q at ih ⊢
    unfold okByte
    have no : Ev (fun k => spec_l1Value.j1 k s (i : Int) true) false := Ev.step (fun k => by rw [spec_l1Value.j1]) (Ev.pos rfl (Ev.now _))
    refine Ev.cases (fun h => Ev.eq no (by rw [decide_eq_false (by omega : ¬ 32 ≤ bt s i)]; rfl)) (fun h1 => ?_)
    refine Ev.cases (fun h => Ev.eq no (by rw [decide_eq_false (by omega : ¬ bt s i ≤ 126)]; simp)) (fun h2 => ?_)
    by_cases h3 : bt s i = 59
    · rw [show (bt s i == 59) = true from by simpa using h3]
      exact Ev.eq no (by rw [decide_eq_true h3]; simp)
    · rw [show (bt s i == 59) = false from by simpa using h3]
      refine Ev.step (fun k => by rw [spec_l1Value.j1]) (Ev.neg (by simp) ?_)
      rw [w64_succ hlt hs]
      refine Ev.eq ih ?_
      rw [decide_eq_true (by omega : 32 ≤ bt s i), decide_eq_true (by omega : bt s i ≤ 126), decide_eq_false h3]; simp
  · have : i = s.size := by omega
    subst this
    refine Ev.neg (by omega) (Ev.some ?_)
    rw [allFrom_end, Bool.true_and]
    exact decide_eq_decide.2 (by omega)
theorem impl_isValue.ev (s : ByteArray) (hs : s.size ≤ 9223372036854775807) : Ev (fun k => impl_isValue.f k s) (okVal s) := by
  unfold impl_isValue.f okVal
  refine Ev.eq (Ev.up (g := fun k i => impl_isValue.l0 k s (s.size : Int) i) s.size (fun i => allFrom (okByte s) s.size i && decide (s.size ≤ 20)) ?_) rfl
  intro i hi ih
  refine Ev.step (fun k => by rw [impl_isValue.l0]) ?_
  by_cases hlt : i < s.size
  · refine Ev.pos (by omega) (Ev.pos (by omega) (Ev.pos (by omega) ?_))
    rw [allFrom_step hlt]
    have ih := ih hlt
    generalize allFrom (okByte s) s.size (i + 1) = q at ih ⊢
    unfold okByte
    have no : Ev (fun k => impl_isValue.j1 k s (s.size : Int) (i : Int) true) false := Ev.step (fun k => by rw [impl_isValue.j1]) (Ev.pos rfl (Ev.now _))
    refine Ev.cases (fun h => Ev.eq no (by rw [decide_eq_false (by omega : ¬ 32 ≤ bt s i)]; rfl)) (fun h1 => ?_)
    refine Ev.cases (fun h => Ev.eq no (by rw [decide_eq_false (by omega : ¬ bt s i ≤ 126)]; simp)) (fun h2 => ?_)
    by_cases h3 : bt s i = 59
    · rw [show (bt s i == 59) = true from by simpa using h3]
      exact Ev.eq no (by rw [decide_eq_true h3]; simp)
    · rw [show (bt s i == 59) = false from by simpa using h3]
      refine Ev.step (fun k => by rw [impl_isValue.j1]) (Ev.neg (by simp) ?_)
      rw [w64_succ hlt hs]
      refine Ev.eq ih ?_
      rw [decide_eq_true (by omega : 32 ≤ bt s i), decide_eq_true (by omega : bt s i ≤ 126), decide_eq_false h3]; simp
  · have : i = s.size := by omega
    subst this
    refine Ev.neg (by omega) (Ev.some ?_)
    rw [allFrom_end, Bool.true_and]
    exact decide_eq_decide.2 (by omega)

def rise (l : List Int) (m : Int) (i : Nat) : Bool := inB (rd l i) 0 m && (decide (i = 0) || decide (rd l ((i : Int) - 1) < rd l i))
/-- The numbers rise, from 0 to m. -/
def risB (l : List Int) (m : Int) : Bool := allFrom (rise l m) l.length 0
theorem impl_areRising.ev (l : List Int) (n : Int) (hl : l.length ≤ 9223372036854775807) : Ev (fun k => impl_areRising.f k l n) (risB l (wrap64 (n - 1))) := by
  unfold impl_areRising.f risB
  refine Ev.eq (Ev.up (g := fun k i => impl_areRising.l0 k l n l (l.length : Int) i) l.length (fun i => allFrom (rise l (wrap64 (n - 1))) l.length i) ?_) rfl
  intro i hi ih
  refine Ev.step (fun k => by rw [impl_areRising.l0]) ?_
  have no : Ev (fun k => impl_areRising.j1 k l n l (l.length : Int) (i : Int) true) false := Ev.step (fun k => by rw [impl_areRising.j1]) (Ev.pos rfl (Ev.now _))
  by_cases hlt : i < l.length
  · have yes : Ev (fun k => impl_areRising.j1 k l n l (l.length : Int) (i : Int) false) (allFrom (rise l (wrap64 (n - 1))) l.length (i + 1)) := by
      refine Ev.step (fun k => by rw [impl_areRising.j1]) (Ev.neg (by simp) ?_)
      rw [w64_succ hlt hl]
      exact ih hlt
    clear ih
    refine Ev.pos (by omega) (Ev.pos (by omega) (Ev.pos (by omega) (Ev.bindS (impl_in.ev _ _ _) ?_)))
    rw [allFrom_step hlt]
    generalize allFrom (rise l (wrap64 (n - 1))) l.length (i + 1) = q at yes ⊢
    unfold rise
    refine Ev.cases (fun h1 => ?_) (fun h1 => Ev.eq no (by simp at h1; simp [h1]))
    rw [h1]
    refine Ev.cases (fun h2 => ?_) (fun h2 => Ev.eq yes (by rw [decide_eq_true (by omega : i = 0)]; simp))
    rw [w64 (by omega) (by omega)]
    refine Ev.pos (by omega) (Ev.pos (by omega) ?_)
    by_cases h3 : rd l ((i : Int) - 1) < rd l i
    · rw [decide_eq_false (by omega : ¬ rd l ((i : Int) - 1) ≥ rd l i)]
      exact Ev.eq yes (by simp [h3])
    · rw [decide_eq_true (by omega : rd l ((i : Int) - 1) ≥ rd l i)]
      exact Ev.eq no (by rw [decide_eq_false (by omega : ¬ i = 0)]; simp [h3])
  · have : i = l.length := by omega
    subst this
    exact Ev.neg (by omega) (Ev.some (by rw [allFrom_end]))
/-- A copy's parts. -/
def okCp (a b : Int) (s : ByteArray) : Bool := inB a 0 1000 && (inB b 0 9 && okVal s)
theorem impl_isCopy.ev (a b : Int) (s : ByteArray) (hs : s.size ≤ 9223372036854775807) : Ev (fun k => impl_isCopy.f k a b s) (okCp a b s) := by
  unfold impl_isCopy.f okCp
  refine Ev.bindS (impl_in.ev _ _ _) (Ev.cases (fun h => ?_) (fun h => Ev.some (by simp at h; simp [h])))
  rw [h]
  refine Ev.bindS (impl_in.ev _ _ _) (Ev.cases (fun h => ?_) (fun h => Ev.some (by simp at h; simp [h])))
  rw [h]
  exact Ev.bind (impl_isValue.ev s hs) (Ev.some (by simp))
theorem spec_l9Copy.ev (a b : Int) (s : ByteArray) (hs : s.size ≤ 9223372036854775807) : Ev (fun k => spec_l9Copy.f k a b s) (okCp a b s) := by
  unfold spec_l9Copy.f okCp
  refine Ev.bindS (spec_l1In.ev _ _ _) (Ev.cases (fun h => ?_) (fun h => Ev.some (by simp at h; simp [h])))
  rw [h]
  refine Ev.bindS (spec_l1In.ev _ _ _) (Ev.cases (fun h => ?_) (fun h => Ev.some (by simp at h; simp [h])))
  rw [h]
  exact Ev.bind (spec_l1Value.ev s hs) (Ev.some (by simp))
theorem impl_isRegister_1.ev (a b : Int) (s : ByteArray) (hs : s.size ≤ 9223372036854775807) : Ev (fun k => impl_isRegister_1.f k a b s) (!okCp a b s) := by
  unfold impl_isRegister_1.f
  exact Ev.bind (impl_isCopy.ev a b s hs) (Ev.some rfl)
/-- Texts' sizes. -/
def szCp (c : S40) : Bool := decide (c.f2.size ≤ 9223372036854775807)
def szOp (o : S83) : Bool := decide (o.f2.size ≤ 9223372036854775807) && szCp o.f5
theorem has_impl_isRegister_1.ev (l : List S40) (hl : ∀ x ∈ l, szCp x = true) : Ev (fun k => has_impl_isRegister_1.f k l) (l.any (fun c => !okCp c.f0 c.f1 c.f2)) := by
  have key : ∃ K, ∀ k, K ≤ k → ∀ x ∈ l, impl_isRegister_1.f k x.f0 x.f1 x.f2 = some (!okCp x.f0 x.f1 x.f2) := by
    induction l with
    | nil => exact ⟨0, fun k _ x hx => by cases hx⟩
    | cons y r ih =>
      obtain ⟨K, hK⟩ := ih (fun x hx => hl x (List.mem_cons_of_mem _ hx))
      obtain ⟨K2, hK2⟩ := impl_isRegister_1.ev y.f0 y.f1 y.f2 (of_decide_eq_true (hl y (List.mem_cons_self ..)))
      refine ⟨max K K2, fun k hk x hx => ?_⟩
      rcases List.mem_cons.1 hx with rfl | hx
      · exact hK2 k (by omega)
      · exact hK k (by omega) x hx
  obtain ⟨K, hK⟩ := key
  exact ⟨K, fun k hk => by unfold has_impl_isRegister_1.f; exact idxO_any (hK k hk)⟩

/-! the machine calls with these answers -/
theorem in_c (x a b : Int) (w : World) : Calls Try.prog 45 #[.int .i64 x, .int .i64 a, .int .i64 b] w fun e w' => e = .returned (.bool (inB x a b)) ∧ Drawn0 w w' := impl_in.calls x a b _ w (impl_in.ev x a b)
theorem sin_c (x a b : Int) (w : World) : Calls Try.prog 54 #[.int .i64 x, .int .i64 a, .int .i64 b] w fun e w' => e = .returned (.bool (inB x a b)) ∧ Drawn0 w w' := spec_l1In.calls x a b _ w (spec_l1In.ev x a b)
theorem val_c (s : ByteArray) (hs : s.size ≤ 9223372036854775807) (w : World) : Calls Try.prog 88 #[.string s] w fun e w' => e = .returned (.bool (okVal s)) ∧ Drawn0 w w' := by
  obtain ⟨K, hK⟩ := impl_isValue.ev s hs
  exact impl_isValue.calls K s _ w (hK K (Nat.le_refl _))
theorem sval_c (s : ByteArray) (hs : s.size ≤ 9223372036854775807) (w : World) : Calls Try.prog 56 #[.string s] w fun e w' => e = .returned (.bool (okVal s)) ∧ Drawn0 w w' := by
  obtain ⟨K, hK⟩ := spec_l1Value.ev s hs
  exact spec_l1Value.calls K s _ w (hK K (Nat.le_refl _))
theorem ris_c (A : Option Addr) (c : Nat) (l : List Int) (n : Int) (w : World) (hr : Kd.C (Kd.int .i64) w A l.length l) (hc : l.length ≤ c) : Calls Try.prog 89 #[.slice A l.length c, .int .i64 n] w fun e w' => e = .returned (.bool (risB l (wrap64 (n - 1)))) ∧ Drawn0 w w' := by
  obtain ⟨K, hK⟩ := impl_areRising.ev l n hr.2.1
  exact impl_areRising.calls K A c l n _ w hr hc (hK K (Nat.le_refl _))
theorem cp_c (a b : Int) (s : ByteArray) (hs : s.size ≤ 9223372036854775807) (w : World) : Calls Try.prog 87 #[.agg #[.int .i64 a, .int .i64 b, .string s]] w fun e w' => e = .returned (.bool (okCp a b s)) ∧ Below w.heap.size w w' := by
  obtain ⟨K, hK⟩ := impl_isCopy.ev a b s hs
  exact impl_isCopy.calls K a b s _ w (hK K (Nat.le_refl _))
theorem scp_c (a b : Int) (s : ByteArray) (hs : s.size ≤ 9223372036854775807) (w : World) : Calls Try.prog 55 #[.agg #[.int .i64 a, .int .i64 b, .string s]] w fun e w' => e = .returned (.bool (okCp a b s)) ∧ Below w.heap.size w w' := by
  obtain ⟨K, hK⟩ := spec_l9Copy.ev a b s hs
  exact spec_l9Copy.calls K a b s _ w (hK K (Nat.le_refl _))
theorem has_c (A : Option Addr) (c : Nat) (l : List S40) (hl : ∀ x ∈ l, szCp x = true) (w : World) (hr : Kd.C k40 w A l.length l) (hc : l.length ≤ c) : Calls Try.prog 85 #[.slice A l.length c, .func (.func 86) #[] #[]] w fun e w' => e = .returned (.bool (l.any (fun c => !okCp c.f0 c.f1 c.f2))) ∧ Below w.heap.size w w' := by
  obtain ⟨K, hK⟩ := has_impl_isRegister_1.ev l hl
  exact has_impl_isRegister_1.calls K A c l _ w hr hc (hK K (Nat.le_refl _))
theorem nodes_c (n : Int) (w : World) : Calls Try.prog 44 #[.int .i64 n] w fun e w' => e = .returned (.bool (inB n 1 12)) ∧ Drawn0 w w' := spec_l8Nodes.calls n _ w (by unfold spec_l8Nodes.f; rw [spec_l1In.ev]; rfl)
end Go.Proofs.Ytipfikmbldgliaa.PRG
