/- What this text proves: laws.FnExactMinimalOf, told as plain functions of numbers and lists, answers true for all arguments.
   Conditions: the bounds that the typed reading gives. -/
import Derived.Test.YthbollaceiffpaaPMOx9
import Derived.Test.YthbollaceiffpaaOpen
import Derived.Test.YthbollaceiffpaaBase
namespace Go.Proofs.Ythbollaceiffpaa.PMO
open Go.RowKit Go.Proofs.Ythbollaceiffpaa.Base Go.Proofs.Ythbollaceiffpaa.Open Go.Proofs.YthbollaceiffpaaW.PrintWords Go.Proofs.YthbollaceiffpaaW.PrintLast Go.Proofs.YthbollaceiffpaaW.PrintMore
set_option linter.unusedVariables false
set_option linter.unusedSimpArgs false
theorem op3 : Opens Try.prog 3 (Kd.int .i64) (fun x => (Lit.int .i64 x).wf = true) := Opens.int Try.underlying3 (by kernel_rfl)
theorem op22 : Opens Try.prog 22 (Kd.slice 3 (Kd.int .i64)) (fun x => (x.length ≤ 9223372036854775807 ∧ ∀ z ∈ x, (Lit.int .i64 z).wf = true)) := Opens.slice Try.underlying22 (by kernel_rfl) op3
def W24 (x : S24) : Prop := (x.f0.length ≤ 9223372036854775807 ∧ ∀ z ∈ x.f0, (Lit.int .i64 z).wf = true)
theorem o24 : Opens Try.prog 24 k24 W24 := by
  have h := Opens.struct Try.underlying24 (by kernel_rfl) (Fits.one (P := Try.prog) rfl op22)
  exact Opens.iso (fun x : S24 => x.f0) (fun p => ⟨p⟩) (fun _ => rfl) h
theorem op51 : Opens Try.prog 51 (Kd.slice 24 k24) (fun x => (x.length ≤ 9223372036854775807 ∧ ∀ z ∈ x, W24 z)) := Opens.slice Try.underlying51 (by kernel_rfl) o24
/-- The place of the first element at which p says yes, counted from i; -1 for none. -/
def idxN {α : Type} (p : α → Bool) : List α → Nat → Int
  | [], _ => -1
  | x :: r, i => if p x = true then (i : Int) else idxN p r (i + 1)
theorem idxO_val {α : Type} {F : α → Option Bool} {p : α → Bool} : ∀ (l : List α) (i : Nat), (∀ x ∈ l, F x = some (p x)) → idxO F l i = some (idxN p l i)
  | [], _, _ => rfl
  | x :: r, i, h => by
    simp only [idxO, idxN, h x (List.mem_cons_self ..), Option.bind_some]
    rw [idxO_val r (i + 1) (fun y hy => h y (List.mem_cons_of_mem _ hy))]
    split <;> rfl
theorem idxN_cons {α : Type} (p : α → Bool) (x : α) (r : List α) (i : Nat) : idxN p (x :: r) i = if p x = true then (i : Int) else idxN p r (i + 1) := rfl
theorem idxN_anyP {α : Type} (p : α → Bool) : ∀ (l : List α) (i : Nat), (idxN p l i ≥ 0) ↔ l.any p = true
  | [], _ => by simp [idxN]
  | x :: r, i => by
    rw [idxN_cons]
    by_cases h : p x = true
    · rw [if_pos h, List.any_cons, h]; simp
    · rw [if_neg h, List.any_cons, Bool.eq_false_iff.2 h, Bool.false_or]; exact idxN_anyP p r (i + 1)
theorem idxN_any {α : Type} (p : α → Bool) (l : List α) (i : Nat) : decide (idxN p l i ≥ 0) = l.any p := by
  rw [Bool.eq_iff_iff, decide_eq_true_iff]; exact idxN_anyP p l i
theorem idxN_ge {α : Type} (p : α → Bool) : ∀ (l : List α) (i : Nat), idxN p l i = -1 ∨ (i : Int) ≤ idxN p l i
  | [], _ => .inl rfl
  | x :: r, i => by
    simp only [idxN]
    split
    · exact .inr (Int.le_refl _)
    · rcases idxN_ge p r (i + 1) with h | h
      · exact .inl h
      · exact .inr (by omega)
theorem idxO_any {α : Type} {F : α → Option Bool} {p : α → Bool} {l : List α} (h : ∀ x ∈ l, F x = some (p x)) : ((idxO F l 0).bind fun i => some (decide (i ≥ 0))) = some (l.any p) := by
  rw [idxO_val l 0 h]; simp only [Option.bind_some]; rw [idxN_any]
theorem idxO_Ev {α : Type} {F : Nat → α → Option Bool} {p : α → Bool} : ∀ (l : List α) (i : Nat), (∀ x ∈ l, Ev (fun k => F k x) (p x)) → Ev (fun k => idxO (F k) l i) (idxN p l i)
  | [], _, _ => Ev.now _
  | x :: r, i, h => by
    show Ev (fun k => (F k x).bind fun b => if b = true then some (i : Int) else idxO (F k) r (i + 1)) _
    refine Ev.bind (h x (List.mem_cons_self ..)) ?_
    simp only [idxN]
    refine Ev.cases (fun hp => Ev.some (by rw [if_pos hp])) (fun hp => ?_)
    rw [if_neg hp]
    exact idxO_Ev r (i + 1) (fun y hy => h y (List.mem_cons_of_mem _ hy))
theorem idxAny_Ev {α : Type} {F : Nat → α → Option Bool} {p : α → Bool} {l : List α} (h : ∀ x ∈ l, Ev (fun k => F k x) (p x)) : Ev (fun k => (idxO (F k) l 0).bind fun i => some (decide (i ≥ 0))) (l.any p) := by
  refine Ev.bind (idxO_Ev l 0 h) (Ev.some ?_)
  exact idxN_any p l 0

def okLI (l : List Int) : Prop := l.length ≤ 1048576
def bigLI (l : List Int) : Prop := l.length ≤ 9223372036854775807
theorem laws_szIntS.ev (l : List Int) (a : Int) (h0 : 0 ≤ a) (h1 : a ≤ 1048576) (hb : bigLI l) : ∃ r, laws_szIntS.f l a = some r ∧ r ≤ a ∧ (0 ≤ r → okLI l) := by
  have hl : l.length ≤ 9223372036854775807 := hb
  unfold laws_szIntS.f
  rw [w64 (by omega) (by omega)]
  by_cases h : a < l.length
  · exact ⟨-1, by rw [if_pos (by omega)], by omega, fun h => by omega⟩
  · exact ⟨_, by rw [if_neg (by omega)], by omega, fun _ => (by unfold okLI; omega)⟩

theorem laws_szGroup.ev (x0 : List Int) (a : Int) (g0 : 0 ≤ a) (g1 : a ≤ 1048576) (h0 : bigLI x0) : ∃ r, laws_szGroup.f x0 a = some r ∧ r ≤ a ∧ (0 ≤ r → okLI x0) := by
  obtain ⟨r0, e0, b0, o0⟩ := laws_szIntS.ev x0 a g0 g1 h0
  by_cases c0 : r0 < 0
  · exact ⟨-1, by unfold laws_szGroup.f; rw [e0]; simp only [Option.bind_some]; rw [if_pos c0], by omega, fun h => by omega⟩
  exact ⟨r0, by unfold laws_szGroup.f; rw [e0]; simp only [Option.bind_some]; rw [if_neg c0], by omega, fun h => o0 (by omega)⟩

def okE24 (z : S24) : Prop := okLI z.f0
def okL24 (l : List S24) : Prop := l.length ≤ 1048576 ∧ ∀ z ∈ l, okE24 z
def bigE24 (z : S24) : Prop := bigLI z.f0
def bigL24 (l : List S24) : Prop := l.length ≤ 9223372036854775807 ∧ ∀ z ∈ l, bigE24 z
theorem laws_szGroupS.ev (l : List S24) (a : Int) (h0 : 0 ≤ a) (h1 : a ≤ 1048576) (hb : bigL24 l) : ∃ r, Ev (fun k => laws_szGroupS.f k l a) r ∧ r ≤ a ∧ (0 ≤ r → okL24 l) := by
  obtain ⟨hl, hx⟩ := hb
  unfold laws_szGroupS.f
  rw [w64 (by omega) (by omega)]
  by_cases h : a - l.length < 0
  · exact ⟨-1, Ev.pos h (Ev.now _), by omega, fun h => by omega⟩
  · have key : ∀ d i : Nat, i + d = l.length → ∀ b : Int, 0 ≤ b → b ≤ 1048576 → ∃ r, Ev (fun k => laws_szGroupS.l0 k l b i) r ∧ r ≤ b ∧ (0 ≤ r → ∀ x ∈ l.drop i, okE24 x) := by
      intro d
      induction d with
      | zero =>
        intro i hi b hb0 hb1
        have : i = l.length := by omega
        subst this
        exact ⟨b, Ev.step (fun k => by rw [laws_szGroupS.l0]) (Ev.neg (by omega) (Ev.now _)), by omega, fun _ x hx => by simp at hx⟩
      | succ d ih =>
        intro i hi b hb0 hb1
        have hlt : i < l.length := by omega
        have hz := hx _ (List.getElem_mem hlt)
        obtain ⟨r, hr, h2, h3⟩ := laws_szGroup.ev (l[i].f0) b hb0 hb1 (hz)
        have e : rd_T24 l (i : Int) = l[i] := getD_nat l _ hlt
        by_cases hr0 : r < 0
        · refine ⟨-1, Ev.step (fun k => by rw [laws_szGroupS.l0]) (Ev.pos (by omega) (Ev.pos (by omega) ?_)), by omega, fun h => by omega⟩
          rw [e]
          exact Ev.bindS hr (Ev.pos hr0 (Ev.now _))
        · obtain ⟨q, hq, h5, h4⟩ := ih (i + 1) (by omega) r (by omega) (by omega)
          refine ⟨q, Ev.step (fun k => by rw [laws_szGroupS.l0]) (Ev.pos (by omega) (Ev.pos (by omega) ?_)), by omega, fun h x hx => ?_⟩
          · rw [e, w64_succ hlt hl]
            exact Ev.bindS hr (Ev.neg hr0 hq)
          · rw [List.drop_eq_getElem_cons hlt] at hx
            rcases List.mem_cons.1 hx with rfl | hx
            · exact h3 (by omega)
            · exact h4 h x hx
    obtain ⟨r, hr, h5, h2⟩ := key l.length 0 (by omega) (a - l.length) (by omega) (by omega)
    exact ⟨r, Ev.neg h hr, by omega, fun h => ⟨by omega, fun x hx => h2 h x (by simpa using hx)⟩⟩

theorem laws_toIntS.ev0 (l : List Int) (hl : l.length ≤ 1048576) : Ev (fun k => laws_toIntS.f k l) l := by
  unfold laws_toIntS.f
  refine Ev.pos (by omega) (Ev.pos (by omega) ?_)
  refine Ev.eq (Ev.up (g := fun k i => laws_toIntS.l0 k l (l.take i.toNat ++ List.replicate (l.length - i.toNat) 0) i) l.length (fun _ => l) ?_) rfl
  intro i hi ih
  refine Ev.step (fun k => by rw [laws_toIntS.l0]) ?_
  by_cases hlt : i < l.length
  · refine Ev.pos (by omega) (Ev.pos (by omega) (Ev.pos (by simp; omega) ?_))
    rw [rd_get hlt, w64_succ hlt (by omega)]
    have h2 := ih hlt
    simp only [Int.toNat_natCast] at h2 ⊢
    rw [set_fill l 0 hlt]
    exact h2
  · refine Ev.neg (by omega) (Ev.some ?_)
    simp only [Int.toNat_natCast]
    have : i = l.length := by omega
    subst this
    simp
theorem laws_toIntS.ev (l : List Int) (hl : okLI l) : Ev (fun k => laws_toIntS.f k l) l := laws_toIntS.ev0 l hl

theorem laws_toGroup.ev (x0 : List Int) (h0 : okLI x0) : Ev (fun k => laws_toGroup.f k x0) (x0) := by
  unfold laws_toGroup.f
  exact Ev.bind (laws_toIntS.ev _ h0) (Ev.now _)

def okE28 (z : S28) : Prop := okLI z.f0
def okL28 (l : List S28) : Prop := l.length ≤ 1048576 ∧ ∀ z ∈ l, okE28 z
def c24 (x : S24) : S28 := ⟨x.f0⟩
theorem okE24_map {x : S24} (h : okE24 x) : okE28 (c24 x) := h
theorem okL24_map {l : List S24} (h : okL24 l) : okL28 (l.map c24) := ⟨by simpa using h.1, fun x hx => by obtain ⟨y, hy, rfl⟩ := List.mem_map.1 hx; exact okE24_map (h.2 y hy)⟩
theorem laws_toGroupS.ev (l : List S24) (hb : okL24 l) : Ev (fun k => laws_toGroupS.f k l) (l.map c24) := by
  obtain ⟨hl, hx⟩ := hb
  unfold laws_toGroupS.f
  refine Ev.pos (by omega) (Ev.pos (by omega) ?_)
  refine Ev.eq (Ev.up (g := fun k i => laws_toGroupS.l0 k l ((l.take i.toNat).map c24 ++ List.replicate (l.length - i.toNat) z28) i) l.length (fun _ => l.map c24) ?_) rfl
  intro i hi ih
  refine Ev.step (fun k => by rw [laws_toGroupS.l0]) ?_
  by_cases hlt : i < l.length
  · have h2 := ih hlt
    have h3 := hx _ (List.getElem_mem hlt)
    simp only [Int.toNat_natCast] at h2 ⊢
    have e : rd_T24 l (i : Int) = l[i] := getD_nat l _ hlt
    rw [e, w64_succ hlt (by omega)]
    refine Ev.pos (by omega) (Ev.pos (by omega) (Ev.bind (laws_toGroup.ev (l[i].f0) (h3)) (Ev.pos (by rw [fill_len _ _ _ _ hi]; omega) ?_)))
    refine Ev.congr (fun k => ?_) h2
    rw [← set_fillM c24 l z28 hlt]; rfl
  · have : i = l.length := by omega
    subst this
    refine Ev.neg (by omega) (Ev.some ?_)
    simp only [Int.toNat_natCast]
    exact fill_end _ _ _

theorem laws_eqIntS.ev (x y : List Int) (hx : x.length ≤ 9223372036854775807) : Ev (fun k => laws_eqIntS.f k x y) (decide (x = y)) := by
  unfold laws_eqIntS.f
  refine Ev.cases (fun hl => ?_) (fun hl => Ev.some ?_)
  · have hl' : x.length = y.length := by omega
    refine Ev.eq (Ev.up (g := fun k i => laws_eqIntS.l0 k x y i) x.length (fun i => decide (x.drop i = y.drop i)) ?_) (by simp)
    intro i hi ih
    refine Ev.step (fun k => by rw [laws_eqIntS.l0]) ?_
    by_cases hlt : i < x.length
    · refine Ev.pos (by omega) (Ev.pos (by omega) (Ev.pos (by omega) ?_))
      rw [rd_get hlt, rd_get (by omega : i < y.length), w64_succ hlt hx]
      have e : decide (x.drop i = y.drop i) = (decide (x[i] = y[i]) && decide (x.drop (i + 1) = y.drop (i + 1))) := drop_eq_step hlt (by omega)
      rw [e]
      refine Ev.cases (fun he => ?_) (fun he => Ev.some (by rw [decide_eq_false he]; rfl))
      exact Ev.eq (ih hlt) (by rw [decide_eq_true he]; rfl)
    · refine Ev.neg (by omega) (Ev.some ?_)
      rw [List.drop_of_length_le (by omega), List.drop_of_length_le (by omega)]
      simp
  · have : x ≠ y := fun h => hl (by rw [h])
    simp [this]
theorem laws_eqIntS.refl (x : List Int) (hx : okLI x) : Ev (fun k => laws_eqIntS.f k x x) true := Ev.eq (laws_eqIntS.ev x x (by unfold okLI at hx; omega)) (by simp)

theorem laws_eqGroup.refl (x0 : List Int) (h0 : okLI x0) : Ev (fun k => laws_eqGroup.f k x0 x0) true := by
  unfold laws_eqGroup.f
  exact (Ev.bind (laws_eqIntS.refl _ h0) (Ev.pos rfl (Ev.now _)))

theorem laws_eqGroupS.refl (x : List S28) (hx : okL28 x) : Ev (fun k => laws_eqGroupS.f k x x) true := by
  unfold laws_eqGroupS.f
  refine Ev.pos rfl (Ev.eq (Ev.up (g := fun k i => laws_eqGroupS.l0 k x x i) x.length (fun _ => true) ?_) rfl)
  intro i hi ih
  refine Ev.step (fun k => by rw [laws_eqGroupS.l0]) ?_
  by_cases hlt : i < x.length
  · have e : rd_T28 x (i : Int) = x[i] := getD_nat x _ hlt
    have h3 := hx.2 _ (List.getElem_mem hlt)
    have h1 := hx.1
    rw [e, w64_succ hlt (by omega)]
    exact Ev.pos (by omega) (Ev.pos (by omega) (Ev.pos (by omega) (Ev.bind (laws_eqGroup.refl (x[i].f0) (h3)) (Ev.pos rfl (ih hlt)))))
  · exact Ev.neg (by omega) (Ev.now _)

def bigE28 (z : S28) : Prop := bigLI z.f0
def bigL28 (l : List S28) : Prop := l.length ≤ 9223372036854775807 ∧ ∀ z ∈ l, bigE28 z
theorem spec_l1Has.ev (l : List Int) (a : Int) (hl : l.length ≤ 1048576) : Ev (fun k => spec_l1Has.f k l a) (l.contains a) := by
  unfold spec_l1Has.f
  refine Ev.eq (Ev.up (g := fun k i => spec_l1Has.l0 k a l (l.length : Int) i) l.length (fun i => (l.drop i).contains a) ?_) (by simp)
  intro i hi ih
  refine Ev.step (fun k => by rw [spec_l1Has.l0]) ?_
  by_cases hlt : i < l.length
  · rw [List.drop_eq_getElem_cons hlt, List.contains_cons, w64_succ hlt (by omega), rd_get hlt]
    refine Ev.pos (by omega) (Ev.pos (by omega) (Ev.pos (by omega) (Ev.cases (fun h => Ev.some ?_) (fun h => Ev.eq (ih hlt) ?_))))
    · have : (a == l[i]) = true := by simpa using h.symm
      rw [this]; rfl
    · have : (a == l[i]) = false := by simpa using fun e => h e.symm
      rw [this]; rfl
  · exact Ev.neg (by omega) (Ev.some (by rw [List.drop_of_length_le (by omega)]; rfl))

def meetL (a b : List Int) : List Int := a.filter fun x => b.contains x
theorem spec_l8Meet.ev (a b : List Int) (ha : a.length ≤ 1048576) (hb : b.length ≤ 1048576) : Ev (fun k => spec_l8Meet.f k a b) (meetL a b) := by
  unfold spec_l8Meet.f
  refine Ev.eq (Ev.up (g := fun k i => spec_l8Meet.l0 k a (a.length : Int) i b (meetL (a.take i.toNat) b)) a.length (fun _ => meetL a b) ?_) rfl
  intro i hi ih
  refine Ev.step (fun k => by rw [spec_l8Meet.l0]) ?_
  by_cases hlt : i < a.length
  · have ih := ih hlt
    simp only [Int.toNat_natCast] at ih ⊢
    have hlen : (meetL (a.take i) b).length ≤ i := Nat.le_trans (List.length_filter_le _ _) (by simp; omega)
    have e : meetL (a.take (i + 1)) b = meetL (a.take i) b ++ (if b.contains a[i] = true then [a[i]] else []) := by
      unfold meetL
      rw [take_snoc a hlt, List.filter_append]
      by_cases h : b.contains a[i] = true
      · rw [if_pos h]; simp only [List.filter_cons, h, if_true, List.filter_nil]
      · rw [if_neg h]; simp only [List.filter_cons, h, List.filter_nil]; rfl
    rw [e] at ih
    rw [rd_get hlt, w64_succ hlt (by omega)]
    refine Ev.pos (by omega) (Ev.pos (by omega) (Ev.pos (by omega) (Ev.bind (spec_l1Has.ev b a[i] hb) (Ev.cases (fun h => ?_) (fun h => ?_)))))
    · rw [if_pos h] at ih; exact Ev.pos (by omega) ih
    · rw [if_neg h, List.append_nil] at ih; exact ih
  · have : i = a.length := by omega
    subst this
    exact Ev.neg (by omega) (Ev.some (by simp))

theorem spec_l1In.ev (n a b : Int) : spec_l1In.f n a b = some (inB n a b) := by
  unfold spec_l1In.f inB
  by_cases h : a ≤ n
  · rw [if_pos h]; simp [h]
  · rw [if_neg h]; simp [h]

theorem spec_l8Nodes.ev (n : Int) : spec_l8Nodes.f n = some (inB n 1 12) := by
  unfold spec_l8Nodes.f; rw [spec_l1In.ev]; rfl

/-- Number i of a list lies from 0 to m, and above the one ahead of it. -/
def rise (l : List Int) (m : Int) (i : Nat) : Bool := inB (rd l i) 0 m && (decide (i = 0) || decide (rd l ((i : Int) - 1) < rd l i))
/-- A good group of n nodes. -/
def goodG (l : List Int) (n : Int) : Bool := inB n 1 12 && allFrom (rise l (wrap64 (n - 1))) l.length 0
theorem spec_GoodGroup.ev (l : List Int) (n : Int) (hl : l.length ≤ 9223372036854775807) : Ev (fun k => spec_GoodGroup.f k l n) (goodG l n) := by
  unfold spec_GoodGroup.f goodG
  refine Ev.eq (Ev.up (g := fun k i => spec_GoodGroup.l0 k n l (l.length : Int) i l) l.length (fun i => inB n 1 12 && allFrom (rise l (wrap64 (n - 1))) l.length i) ?_) rfl
  intro i hi ih
  refine Ev.step (fun k => by rw [spec_GoodGroup.l0]) ?_
  by_cases hlt : i < l.length
  · refine Ev.pos (by omega) (Ev.pos (by omega) (Ev.pos (by omega) (Ev.bindS (spec_l1In.ev _ _ _) ?_)))
    rw [allFrom_step hlt]
    have ih := ih hlt
    generalize allFrom (rise l (wrap64 (n - 1))) l.length (i + 1) = q at ih ⊢
    unfold rise
    refine Ev.cases (fun h1 => ?_) (fun h1 => Ev.some (by simp at h1; simp [h1]))
    rw [h1, w64_succ hlt hl]
    refine Ev.cases (fun h2 => ?_) (fun h2 => Ev.eq ih (by rw [decide_eq_true (by omega : i = 0)]; simp))
    rw [w64 (by omega) (by omega)]
    refine Ev.pos (by omega) (Ev.pos (by omega) (Ev.cases (fun h3 => Ev.some ?_) (fun h3 => Ev.eq ih ?_)))
    · rw [decide_eq_false (by omega : ¬ i = 0), decide_eq_false (by omega)]; simp
    · rw [decide_eq_true (by omega : rd l ((i : Int) - 1) < rd l i)]; simp
  · have : i = l.length := by omega
    subst this
    refine Ev.neg (by omega) (Ev.bindS (spec_l8Nodes.ev _) (Ev.some ?_))
    rw [allFrom_end]; simp

def goodSets (n : Int) (l : List S28) : Bool := inB n 1 12 && decide ((l.length : Int) ≤ 40) && l.all fun g => goodG g.f0 n
theorem spec_l8Sets.ev (n : Int) (l : List S28) (hl : okL28 l) : Ev (fun k => spec_l8Sets.f k n l) (goodSets n l) := by
  obtain ⟨h1, h2⟩ := hl
  unfold spec_l8Sets.f goodSets
  refine Ev.eq (Ev.up (g := fun k i => spec_l8Sets.l0 k n l l (l.length : Int) i) l.length (fun i => ((l.drop i).all fun g => goodG g.f0 n) && (inB n 1 12 && decide ((l.length : Int) ≤ 40))) ?_) (by simp [Bool.and_comm])
  intro i hi ih
  refine Ev.step (fun k => by rw [spec_l8Sets.l0]) ?_
  by_cases hlt : i < l.length
  · have e : rd_T28 l (i : Int) = l[i] := getD_nat l _ hlt
    have h3 := h2 _ (List.getElem_mem hlt)
    unfold okE28 okLI at h3
    rw [e, all_take_succ l _ hlt, w64_succ hlt (by omega)]
    refine Ev.pos (by omega) (Ev.pos (by omega) (Ev.pos (by omega) (Ev.bind (spec_GoodGroup.ev _ _ (by omega)) (Ev.cases (fun h => Ev.eq (ih hlt) (by rw [h]; rfl)) (fun h => Ev.some (by rw [Bool.eq_false_iff.2 h]; rfl))))))
  · rw [List.drop_of_length_le (by omega)]
    refine Ev.neg (by omega) (Ev.bindS (spec_l8Nodes.ev _) (Ev.cases (fun h => Ev.some (by rw [h]; rfl)) (fun h => Ev.some (by rw [Bool.eq_false_iff.2 h]; rfl))))

def sameL (a b : List Int) : Bool := decide (a.length = b.length) && decide ((meetL a b).length = a.length)
theorem spec_l8Same.ev (a b : List Int) (ha : a.length ≤ 1048576) (hb : b.length ≤ 1048576) : Ev (fun k => spec_l8Same.f k a b) (sameL a b) := by
  unfold spec_l8Same.f sameL
  refine Ev.cases (fun h => ?_) (fun h => Ev.some (by rw [decide_eq_false (by omega)]; rfl))
  rw [decide_eq_true (show a.length = b.length by omega)]
  refine Ev.bind (spec_l8Meet.ev a b ha hb) (Ev.some ?_)
  rw [Bool.true_and, Bool.eq_iff_iff, beq_iff_eq, decide_eq_true_eq]; omega

def gA (l : List S28) (i : Nat) : List Int := (rd_T28 l (i : Int)).f0
def dropB (l : List S28) (i j : Nat) : Bool := (decide ((meetL (gA l i) (gA l j)).length = (gA l j).length) && !sameL (gA l i) (gA l j)) || (decide (j < i) && sameL (gA l i) (gA l j))
def accB (l : List S28) (i : Nat) : Nat → Bool
  | 0 => true
  | j + 1 => accB l i j && !dropB l i j
def outS (l : List S28) : Nat → List S28
  | 0 => []
  | i + 1 => if accB l i l.length = true then outS l i ++ [⟨gA l i⟩] else outS l i
theorem outS_len (l : List S28) : ∀ i, (outS l i).length ≤ i
  | 0 => Nat.le_refl 0
  | i + 1 => by
    have := outS_len l i
    unfold outS
    split
    · simp; omega
    · omega
theorem rd_ok {l : List S28} (hl : okL28 l) {i : Nat} (h : i < l.length) : (rd_T28 l (i : Int)).f0.length ≤ 1048576 := by
  have e2 : rd_T28 l (i : Int) = l[i] := getD_nat l _ h
  rw [e2]; exact hl.2 _ (List.getElem_mem h)
theorem spec_MinimalOf.ev (n : Int) (l : List S28) (hl : okL28 l) : Ev (fun k => spec_MinimalOf.f k n l) (if goodSets n l = true then (outS l l.length, true) else ([], false)) := by
  have h1 := hl.1
  unfold spec_MinimalOf.f
  refine Ev.bind (spec_l8Sets.ev n l hl) (Ev.cases (fun hg => ?_) (fun hg => Ev.some (by rw [if_neg hg])))
  rw [if_pos hg]
  refine Ev.eq (Ev.up (g := fun k i => spec_MinimalOf.l0 k l (outS l i.toNat) l (l.length : Int) i) l.length (fun _ => (outS l l.length, true)) ?_) rfl
  intro i hi ih
  refine Ev.step (fun k => by rw [spec_MinimalOf.l0]) ?_
  by_cases hlt : i < l.length
  · have ih := ih hlt
    simp only [Int.toNat_natCast] at ih ⊢
    have hlen := outS_len l i
    have ew : wrap64 ((i : Int) + 1) = ((i + 1 : Nat) : Int) := w64_succ hlt (by omega)
    refine Ev.pos (by omega) (Ev.pos (by omega) (Ev.pos (by omega) ?_))
    refine Ev.eq (Ev.up (g := fun k j => spec_MinimalOf.l1 k l (outS l i) (i : Int) (accB l i j.toNat) l (l.length : Int) (i : Int) l (l.length : Int) j (rd_T28 l (i : Int)).f0) l.length (fun _ => (outS l l.length, true)) ?_) rfl
    intro j hj jh
    refine Ev.step (fun k => by rw [spec_MinimalOf.l1]) ?_
    by_cases hjl : j < l.length
    · have jh := jh hjl
      simp only [Int.toNat_natCast] at jh ⊢
      have ew2 : wrap64 ((j : Int) + 1) = ((j + 1 : Nat) : Int) := w64_succ hjl (by omega)
      rw [ew2]
      have s := spec_l8Same.ev _ _ (rd_ok hl hlt) (rd_ok hl hjl)
      have ea : accB l i (j + 1) = (accB l i j && !dropB l i j) := rfl
      rw [ea] at jh
      have ed : dropB l i j = ((decide ((meetL (rd_T28 l (i : Int)).f0 (rd_T28 l (j : Int)).f0).length = (rd_T28 l (j : Int)).f0.length) && !sameL (rd_T28 l (i : Int)).f0 (rd_T28 l (j : Int)).f0) || (decide (j < i) && sameL (rd_T28 l (i : Int)).f0 (rd_T28 l (j : Int)).f0)) := rfl
      refine Ev.pos (by omega) (Ev.pos (by omega) (Ev.pos (by omega) (Ev.bind (spec_l8Meet.ev _ _ (rd_ok hl hlt) (rd_ok hl hjl)) ?_)))
      refine Ev.cases (fun hw => ?_) (fun hw => ?_)
      · rw [decide_eq_true (by omega), Bool.true_and] at ed
        refine Ev.bind s (Ev.cases (fun hs => ?_) (fun hs => ?_))
        · rw [hs] at ed
          refine Ev.cases (fun hk => ?_) (fun hk => ?_)
          · rw [decide_eq_true (by omega)] at ed
            rw [ed] at jh
            refine Ev.bind s (Ev.cases (fun _ => ?_) (fun hs2 => absurd hs hs2))
            simpa using jh
          · rw [decide_eq_false (by omega)] at ed
            rw [ed] at jh
            simpa using jh
        · rw [Bool.eq_false_iff.2 hs] at ed
          rw [ed] at jh
          simpa using jh
      · rw [decide_eq_false (by omega), Bool.false_and, Bool.false_or] at ed
        refine Ev.cases (fun hk => ?_) (fun hk => ?_)
        · rw [decide_eq_true (by omega), Bool.true_and] at ed
          refine Ev.bind s (Ev.cases (fun hs => ?_) (fun hs => ?_))
          · rw [ed, hs] at jh
            simpa using jh
          · rw [ed, Bool.eq_false_iff.2 hs] at jh
            simpa using jh
        · rw [decide_eq_false (by omega), Bool.false_and] at ed
          rw [ed] at jh
          simpa using jh
    · have : j = l.length := by omega
      subst this
      refine Ev.neg (by omega) ?_
      simp only [Int.toNat_natCast]
      refine Ev.cases (fun hm => ?_) (fun hm => ?_)
      · refine Ev.bindS (a := []) rfl (Ev.pos (by have := rd_ok hl hlt; simp; omega) (Ev.pos (by omega) ?_))
        have e : outS l (i + 1) = outS l i ++ [⟨gA l i⟩] := by rw [outS]; exact if_pos hm
        rw [e] at ih
        rw [ew]; exact ih
      · have e : outS l (i + 1) = outS l i := by rw [outS]; exact if_neg hm
        rw [e] at ih
        rw [ew]; exact ih
  · have : i = l.length := by omega
    subst this
    exact Ev.neg (by omega) (Ev.some (by simp))

theorem impl_in.ev (n a b : Int) : impl_in.f n a b = some (inB n a b) := by
  unfold impl_in.f inB
  by_cases h : a ≤ n
  · rw [if_pos h]; simp [h]
  · rw [if_neg h]; simp [h]

theorem impl_areRising.ev (l : List Int) (n : Int) (hl : l.length ≤ 9223372036854775807) : Ev (fun k => impl_areRising.f k l n) (allFrom (rise l (wrap64 (n - 1))) l.length 0) := by
  unfold impl_areRising.f
  refine Ev.eq (Ev.up (g := fun k i => impl_areRising.l0 k l n l (l.length : Int) i) l.length (fun i => allFrom (rise l (wrap64 (n - 1))) l.length i) ?_) rfl
  intro i hi ih
  refine Ev.step (fun k => by rw [impl_areRising.l0]) ?_
  by_cases hlt : i < l.length
  · refine Ev.pos (by omega) (Ev.pos (by omega) (Ev.pos (by omega) (Ev.bindS (impl_in.ev _ _ _) ?_)))
    rw [allFrom_step hlt]
    have ih := ih hlt
    generalize allFrom (rise l (wrap64 (n - 1))) l.length (i + 1) = q at ih ⊢
    unfold rise
    refine Ev.cases (fun h1 => ?_) (fun h1 => Ev.some (by simp at h1; simp [h1]))
    rw [h1, w64_succ hlt hl]
    refine Ev.cases (fun h2 => ?_) (fun h2 => Ev.eq ih (by rw [decide_eq_true (by omega : i = 0)]; simp))
    rw [w64 (by omega) (by omega)]
    refine Ev.pos (by omega) (Ev.pos (by omega) (Ev.cases (fun h3 => Ev.some ?_) (fun h3 => Ev.eq ih ?_)))
    · rw [decide_eq_false (by omega : ¬ i = 0), decide_eq_false (by omega)]; simp
    · rw [decide_eq_true (by omega : rd l ((i : Int) - 1) < rd l i)]; simp
  · have : i = l.length := by omega
    subst this
    exact Ev.neg (by omega) (Ev.some (by rw [allFrom_end]))

theorem impl_isGroup.ev (l : List Int) (n : Int) (hl : l.length ≤ 9223372036854775807) : Ev (fun k => impl_isGroup.f k l n) (goodG l n) := by
  unfold impl_isGroup.f goodG
  refine Ev.bindS (impl_in.ev _ _ _) ?_
  refine Ev.cases (fun h1 => ?_) (fun h1 => Ev.some (by simp at h1; simp [h1]))
  exact Ev.bind (impl_areRising.ev l n hl) (Ev.some (by rw [h1]; rfl))

theorem nan_all {α : Type} (f : α → Bool) : ∀ l : List α, (!(l.any fun g => !f g)) = l.all f
  | [] => rfl
  | x :: r => by simp only [List.any_cons, List.all_cons, Bool.not_or, Bool.not_not]; rw [nan_all f r]
theorem impl_areGroups.ev (n : Int) (l : List S28) (hl : okL28 l) : Ev (fun k => impl_areGroups.f k n l) (goodSets n l) := by
  unfold impl_areGroups.f goodSets
  refine Ev.bindS (impl_in.ev _ _ _) (Ev.cases (fun h1 => Ev.cases (fun h2 => ?_) (fun h2 => Ev.some (by rw [h1, decide_eq_false h2]; rfl))) (fun h1 => Ev.some (by rw [Bool.eq_false_iff.2 h1]; rfl)))
  rw [h1, decide_eq_true h2]
  refine Ev.bind (idxO_Ev (F := fun k => fun g : S28 => (impl_isGroup.f k g.f0 n).bind fun b => some (!b)) (p := fun g : S28 => !goodG g.f0 n) l 0 (fun x hx => ?_)) (Ev.some ?_)
  · have h3 := hl.2 _ hx
    unfold okE28 okLI at h3
    exact Ev.bind (impl_isGroup.ev _ _ (by omega)) (Ev.now _)
  · rw [idxN_any]
    simp only [Bool.true_and]
    exact nan_all (fun g : S28 => goodG g.f0 n) l

theorem list_ext_drop {a b : List Int} (h : a.length = b.length) : decide (a = b) = allFrom (fun i => decide (rd a (i : Int) = rd b (i : Int))) a.length 0 := by
  rw [Bool.eq_iff_iff, decide_eq_true_eq, allFrom_iff]
  constructor
  · intro e i _ _; rw [e]; simp
  · intro q
    refine List.ext_getElem h (fun i h1 h2 => ?_)
    have := q i (Nat.zero_le _) h1
    rw [decide_eq_true_eq, rd_get h1, rd_get h2] at this
    exact this
theorem slices_Equal_int_int.ev (a b : List Int) (ha : a.length ≤ 1048576) : Ev (fun k => slices_Equal_int_int.f k a b) (decide (a = b)) := by
  unfold slices_Equal_int_int.f
  refine Ev.cases (fun h => ?_) (fun h => Ev.some (by rw [decide_eq_false (fun e => h (by rw [e]))]))
  have h2 : a.length = b.length := by omega
  rw [list_ext_drop h2]
  refine Ev.eq (Ev.up (g := fun k i => slices_Equal_int_int.l0 k a b (a.length : Int) i) a.length (fun i => allFrom (fun i => decide (rd a (i : Int) = rd b (i : Int))) a.length i) ?_) rfl
  intro i hi ih
  refine Ev.step (fun k => by rw [slices_Equal_int_int.l0]) ?_
  by_cases hlt : i < a.length
  · have ih := ih hlt
    rw [allFrom_step hlt, w64_succ hlt (by omega)]
    refine Ev.pos (by omega) (Ev.pos (by omega) (Ev.pos (by omega) (Ev.pos (by omega) (Ev.cases (fun h3 => Ev.eq ih ?_) (fun h3 => Ev.some ?_)))))
    · rw [decide_eq_true h3, Bool.true_and]
    · rw [decide_eq_false h3]; rfl
  · have : i = a.length := by omega
    subst this
    exact Ev.neg (by omega) (Ev.some (by rw [allFrom_end]))

theorem impl_MinimalOf_1.ev (a b : List Int) (ha : a.length ≤ 1048576) : Ev (fun k => impl_MinimalOf_1.f k a b) (decide (a = b)) := by
  unfold impl_MinimalOf_1.f
  exact Ev.bind (slices_Equal_int_int.ev a b ha) (Ev.now _)

theorem laws_markIntS.ev (l : List Int) (k0 : Int) (h0 : 0 ≤ k0) (h1 : k0 + l.length ≤ 9223372036854775807) : Ev (fun k => laws_markIntS.f k l k0) (k0 + l.length, marks k0 l.length) := by
  unfold laws_markIntS.f
  by_cases hb : (l.length : Int) ≤ 9223372036854775807
  · refine Ev.eq (Ev.congr (fun k => ?_) (Ev.up (g := fun k i => laws_markIntS.l0 k (marks k0 i.toNat ++ l.drop i.toNat) (k0 + i) i) l.length (fun _ => (k0 + l.length, marks k0 l.length)) ?_)) rfl
    · simp [marks]
    intro i hi ih
    refine Ev.step (fun k => by rw [laws_markIntS.l0]) ?_
    by_cases hlt : i < l.length
    · refine Ev.pos (by simp [marks_length]; omega) (Ev.pos (by omega) ?_)
      have h2 := ih hlt
      simp only [Int.toNat_natCast] at h2 ⊢
      rw [w64_succ hlt (by omega), w64 (by omega) (by omega), set_mark _ _ _ (marks_length _ _) hlt, ← marks_succ]
      refine Ev.congr (fun k => ?_) h2
      rw [show k0 + (i : Int) + 1 = k0 + ((i + 1 : Nat) : Int) by omega]
    · have : i = l.length := by omega
      subst this
      refine Ev.neg (by simp [marks_length]) (Ev.some ?_)
      simp
  · omega

theorem laws_heldIntS.ev (n : Nat) (k0 : Int) (h0 : -9223372036854775808 ≤ k0) (h1 : k0 + n ≤ 9223372036854775807) (hn : n ≤ 9223372036854775807) : Ev (fun k => laws_heldIntS.f k (marks k0 n) k0) (k0 + n) := by
  unfold laws_heldIntS.f
  refine Ev.eq (Ev.congr (fun k => ?_) (Ev.up (g := fun k i => laws_heldIntS.l0 k (marks k0 n) (k0 + i) i) n (fun _ => k0 + (n : Int)) ?_)) rfl
  · simp
  intro i hi ih
  refine Ev.step (fun k => by rw [laws_heldIntS.l0]) ?_
  by_cases hlt : i < n
  · refine Ev.pos (by rw [marks_length]; omega) (Ev.pos (by omega) (Ev.pos (marks_get hlt) ?_))
    have h2 := ih hlt
    rw [w64_succ hlt hn, w64 (by omega) (by omega)]
    refine Ev.congr (fun k => ?_) h2
    rw [show k0 + (i : Int) + 1 = k0 + ((i + 1 : Nat) : Int) by omega]
  · have : i = n := by omega
    subst this
    exact Ev.neg (by rw [marks_length]; omega) (Ev.some rfl)
theorem laws_markIntS.two (l : List Int) (k0 : Int) (h0 : 0 ≤ k0) (h1 : k0 + (l.length : Int) ≤ 9223372036854775807) (h2 : l.length ≤ 9223372036854775807) : ∃ l' : List Int, l'.length = l.length ∧ Ev (fun k => laws_markIntS.f k l k0) (k0 + (l.length : Int), l') ∧ Ev (fun k => laws_heldIntS.f k l' k0) (k0 + (l.length : Int)) :=
  ⟨marks k0 l.length, marks_length _ _, laws_markIntS.ev l k0 h0 (by omega), laws_heldIntS.ev l.length k0 (by omega) (by omega) (by omega)⟩

def mc28 (x : S28) : Nat := 0 + (x.f0).length
def ms28 : List S28 → Nat
  | [] => 0
  | x :: r => mc28 x + ms28 r
def mok28 (l : List S28) : Prop := ∀ x ∈ l, x.f0.length ≤ 1048576
theorem laws_markGroupS.go (r : List S28) : mok28 r → ∀ (p q : List S28) (k0 : Int), 0 ≤ k0 → k0 + (ms28 r : Int) ≤ 9223372036854775807 → p.length + r.length ≤ 9223372036854775807 → q.length = p.length →
    ∃ r' : List S28, r'.length = r.length ∧ Ev (fun k => laws_markGroupS.l0 k (p ++ r) k0 (p.length : Int)) (k0 + (ms28 r : Int), p ++ r') ∧ Ev (fun k => laws_heldGroupS.l0 k (q ++ r') k0 (q.length : Int)) (k0 + (ms28 r : Int)) := by
  induction r with
  | nil =>
    intro _ p q k0 h0 h1 h2 hq
    refine ⟨[], rfl, ?_, ?_⟩
    · exact Ev.step (fun k => by rw [laws_markGroupS.l0]) (Ev.neg (by simp) (Ev.some (by simp [ms28])))
    · exact Ev.step (fun k => by rw [laws_heldGroupS.l0]) (Ev.neg (by simp) (Ev.some (by simp [ms28])))
  | cons x r ih =>
    intro hok p q k0 h0 h1 h2 hq
    have hx := hok x (List.mem_cons_self ..)
    have ih := ih (fun z hz => hok z (List.mem_cons_of_mem _ hz))
    have hms : ms28 (x :: r) = mc28 x + ms28 r := rfl
    simp only [mc28] at hms
    simp only [List.length_cons] at h2
    have hx0 := hx
    obtain ⟨l0, hl0, hm0, hh0⟩ := laws_markIntS.two x.f0 (k0) (by omega) (by omega) (by omega)
    obtain ⟨r', hr', hm, hh⟩ := ih (p ++ [(⟨l0⟩ : S28)]) (q ++ [(⟨l0⟩ : S28)]) (k0 + ((x.f0).length : Int)) (by omega) (by omega) (by simp; omega) (by simp [hq])
    have ep : wrap64 ((p.length : Int) + 1) = (((p ++ [(⟨l0⟩ : S28)]).length : Nat) : Int) := by rw [w64 (by omega) (by omega)]; simp
    have eq : wrap64 ((q.length : Int) + 1) = (((q ++ [(⟨l0⟩ : S28)]).length : Nat) : Int) := by rw [w64 (by omega) (by omega)]; simp
    have rdp : ∀ (y : S28) (r : List S28), rd_T28 (p ++ y :: r) (p.length : Int) = y := fun y r => by simp [rd_T28]
    have rdq : rd_T28 (q ++ (⟨l0⟩ : S28) :: r') (q.length : Int) = (⟨l0⟩ : S28) := by simp [rd_T28]
    have stp : ∀ (y z : S28) (r : List S28), (p ++ y :: r).set (p.length : Int).toNat z = p ++ z :: r := fun y z r => by simp
    refine ⟨(⟨l0⟩ : S28) :: r', by simp [hr'], ?_, ?_⟩
    · refine Ev.step (fun k => by rw [laws_markGroupS.l0]) (Ev.pos (by simp; omega) (Ev.pos (by omega) ?_))
      simp only [Option.bind_some, rdp, stp]
      refine Ev.bind hm0 ?_
      try dsimp only
      rw [ep]
      have e_ : p ++ (⟨l0⟩ : S28) :: r = (p ++ [(⟨l0⟩ : S28)]) ++ r := by simp
      first | rw [e_] | (simp only [stp]; rw [e_])
      exact Ev.eq hm (by rw [Prod.mk.injEq]; exact ⟨by omega, by simp⟩)
    · refine Ev.step (fun k => by rw [laws_heldGroupS.l0]) (Ev.pos (by simp; omega) (Ev.pos (by omega) ?_))
      rw [rdq]
      refine Ev.bind hh0 (Ev.neg (by omega) ?_)
      rw [eq]
      have e_ : q ++ (⟨l0⟩ : S28) :: r' = (q ++ [(⟨l0⟩ : S28)]) ++ r' := by simp
      rw [e_]
      exact Ev.eq hh (by omega)
theorem laws_markGroupS.two (l : List S28) (k0 : Int) (h0 : 0 ≤ k0) (h1 : k0 + (ms28 l : Int) ≤ 9223372036854775807) (h2 : l.length ≤ 9223372036854775807) (h3 : mok28 l) : ∃ l' : List S28, l'.length = l.length ∧ Ev (fun k => laws_markGroupS.f k l k0) (k0 + (ms28 l : Int), l') ∧ Ev (fun k => laws_heldGroupS.f k l' k0) (k0 + (ms28 l : Int)) := by
  obtain ⟨l', e, h4, h5⟩ := laws_markGroupS.go l h3 [] [] k0 h0 h1 (by simpa using h2) rfl
  exact ⟨l', e, by simpa [laws_markGroupS.f] using h4, by simpa [laws_heldGroupS.f] using h5⟩

def lessB (a b : List Int) : Bool := !decide (a = b) && decide ((meetL a b).length = a.length)
theorem impl_MinimalOf_2.ev (a b : List Int) (ha : a.length ≤ 1048576) (hb : b.length ≤ 1048576) : Ev (fun k => impl_MinimalOf_2.f k a b) (lessB a b) := by
  unfold impl_MinimalOf_2.f lessB
  refine Ev.bind (impl_MinimalOf_1.ev a b ha) (Ev.cases (fun h => Ev.some (by rw [h]; rfl)) (fun h => ?_))
  rw [Bool.eq_false_iff.2 h]
  have em : impl_meet.f a b = some (meetL a b) := by unfold impl_meet.f; rw [if_pos ⟨ha, hb⟩]; rfl
  refine Ev.bindS em (Ev.some ?_)
  rw [Bool.not_false, Bool.true_and, Bool.eq_iff_iff, beq_iff_eq, decide_eq_true_eq]; omega

theorem impl_conL.ev (m : List Int) (l : List S28) (hm : m.length ≤ 1048576) (hl : okL28 l) : Ev (fun k => impl_conL.f k m l) (l.any fun o => lessB o.f0 m) := by
  unfold impl_conL.f
  exact idxAny_Ev (fun x hx => impl_MinimalOf_2.ev _ _ (hl.2 _ hx) hm)

theorem impl_conS.ev (m : List Int) (l : List S28) (hl : ∀ x ∈ l, x.f0.length ≤ 1048576) : Ev (fun k => impl_conS.f k m l) (l.any fun o => decide (o.f0 = m)) := by
  unfold impl_conS.f
  exact idxAny_Ev (fun x hx => impl_MinimalOf_1.ev _ _ (hl _ hx))

def outI (l : List S28) : Nat → List S28
  | 0 => []
  | i + 1 => if (l.any fun o => lessB o.f0 (gA l i)) = true then outI l i else if ((outI l i).any fun o => decide (o.f0 = gA l i)) = true then outI l i else outI l i ++ [⟨gA l i⟩]
theorem outI_len (l : List S28) : ∀ i, (outI l i).length ≤ i
  | 0 => Nat.le_refl 0
  | i + 1 => by
    have := outI_len l i
    unfold outI
    split
    · omega
    · split
      · omega
      · simp; omega
theorem outI_ok {l : List S28} (hl : okL28 l) : ∀ i, i ≤ l.length → ∀ x ∈ outI l i, x.f0.length ≤ 1048576
  | 0, _, x, hx => by simp [outI] at hx
  | i + 1, hi, x, hx => by
    have ih := outI_ok hl i (by omega)
    unfold outI at hx
    split at hx
    · exact ih x hx
    · split at hx
      · exact ih x hx
      · rcases List.mem_append.1 hx with h | h
        · exact ih x h
        · have e := List.mem_singleton.1 h
          rw [e]; exact rd_ok hl (by omega)
theorem impl_MinimalOf.ev (n : Int) (l : List S28) (hl : okL28 l) : Ev (fun k => impl_MinimalOf.f k n l) (if goodSets n l = true then (outI l l.length, true) else ([], false)) := by
  have h1 := hl.1
  unfold impl_MinimalOf.f
  refine Ev.bind (impl_areGroups.ev n l hl) (Ev.cases (fun hg => ?_) (fun hg => Ev.some (by rw [if_neg hg])))
  rw [if_pos hg]
  refine Ev.eq (Ev.up (g := fun k i => impl_MinimalOf.l0 k n l (outI l i.toNat) l (l.length : Int) i) l.length (fun _ => (outI l l.length, true)) ?_) rfl
  intro i hi ih
  refine Ev.step (fun k => by rw [impl_MinimalOf.l0]) ?_
  by_cases hlt : i < l.length
  · have ih := ih hlt
    simp only [Int.toNat_natCast] at ih ⊢
    have hlen := outI_len l i
    have ew : wrap64 ((i : Int) + 1) = ((i + 1 : Nat) : Int) := w64_succ hlt (by omega)
    rw [ew]
    refine Ev.pos (by omega) (Ev.pos (by omega) (Ev.pos (by omega) (Ev.bind (impl_conL.ev _ l (rd_ok hl hlt) hl) (Ev.cases (fun hL => ?_) (fun hL => ?_)))))
    · have e : outI l (i + 1) = outI l i := by rw [outI]; exact if_pos hL
      rw [e] at ih; exact ih
    · refine Ev.bind (impl_conS.ev _ _ (outI_ok hl i (by omega))) (Ev.cases (fun hS => ?_) (fun hS => ?_))
      · have e : outI l (i + 1) = outI l i := by rw [outI]; exact (if_neg hL).trans (if_pos hS)
        rw [e] at ih; exact ih
      · have e : outI l (i + 1) = outI l i ++ [⟨gA l i⟩] := by rw [outI]; exact (if_neg hL).trans (if_neg hS)
        rw [e] at ih
        exact Ev.bindS (a := []) rfl (Ev.pos (by have := rd_ok hl hlt; simp; omega) (Ev.pos (by omega) ih))
  · have : i = l.length := by omega
    subst this
    exact Ev.neg (by omega) (Ev.some (by simp))

theorem rise_pw : ∀ g : List Int, (∀ i (h : i + 1 < g.length), g[i] < g[i + 1]) → g.Pairwise (· < ·)
  | [], _ => List.Pairwise.nil
  | [x], _ => List.pairwise_singleton _ _
  | x :: y :: r, h => by
    have ih := rise_pw (y :: r) (fun i hi => h (i + 1) (by simp at hi ⊢; omega))
    refine List.pairwise_cons.2 ⟨fun z hz => ?_, ih⟩
    have hxy : x < y := h 0 (by simp)
    rcases List.mem_cons.1 hz with e | hz
    · rw [e]; exact hxy
    · exact Int.lt_trans hxy ((List.pairwise_cons.1 ih).1 z hz)
theorem goodG_pw {g : List Int} {n : Int} (h : goodG g n = true) : g.Pairwise (· < ·) := by
  apply rise_pw; intro i hi
  unfold goodG at h
  simp only [Bool.and_eq_true] at h
  have h3 := (allFrom_iff.1 h.2) (i + 1) (Nat.zero_le _) hi
  unfold rise at h3
  simp only [Bool.and_eq_true, Bool.or_eq_true, decide_eq_true_eq] at h3
  have h4 : rd g (((i + 1 : Nat) : Int) - 1) < rd g ((i + 1 : Nat) : Int) := by
    rcases h3.2 with h | h
    · omega
    · exact h
  have e : (((i + 1 : Nat) : Int) - 1) = (i : Int) := by omega
  rw [e, rd_get (by omega), rd_get hi] at h4
  exact h4
theorem sub_len : ∀ (b a : List Int), a.Pairwise (· < ·) → b.Pairwise (· < ·) → (∀ x ∈ a, x ∈ b) → a.length ≤ b.length ∧ (a.length = b.length → a = b)
  | [], [], _, _, _ => ⟨Nat.le_refl _, fun _ => rfl⟩
  | [], x :: a, _, _, h => absurd (h x (List.mem_cons_self ..)) (by simp)
  | y :: b, [], _, _, _ => ⟨by simp, by simp⟩
  | y :: b, x :: a, ha, hb, h => by
    obtain ⟨a1, a2⟩ := List.pairwise_cons.1 ha
    obtain ⟨b1, b2⟩ := List.pairwise_cons.1 hb
    rcases List.mem_cons.1 (h x (List.mem_cons_self ..)) with e | hx
    · subst e
      have q := sub_len b a a2 b2 (fun z hz => by
        rcases List.mem_cons.1 (h z (List.mem_cons_of_mem _ hz)) with e | k
        · have := a1 z hz; omega
        · exact k)
      refine ⟨by simp; exact q.1, fun e => ?_⟩
      rw [q.2 (by simpa using e)]
    · have hyx := b1 x hx
      have q := sub_len b (x :: a) ha b2 (fun z hz => by
        rcases List.mem_cons.1 hz with e | k
        · rw [e]; exact hx
        · rcases List.mem_cons.1 (h z hz) with e | m
          · have := a1 z k; omega
          · exact m)
      have q1 := q.1
      simp only [List.length_cons] at q1 ⊢
      exact ⟨by omega, fun e => by omega⟩
theorem meetL_mem {a b : List Int} {x : Int} : x ∈ meetL a b ↔ x ∈ a ∧ x ∈ b := by
  unfold meetL; simp
theorem meetL_pw {a b : List Int} (h : a.Pairwise (· < ·)) : (meetL a b).Pairwise (· < ·) := List.Pairwise.filter _ h
theorem within_iff {a b : List Int} (ha : a.Pairwise (· < ·)) (hb : b.Pairwise (· < ·)) : (meetL a b).length = b.length ↔ ∀ x ∈ b, x ∈ a := by
  have q := sub_len b (meetL a b) (meetL_pw ha) hb (fun x hx => (meetL_mem.1 hx).2)
  constructor
  · intro e x hx
    rw [← q.2 e] at hx
    exact (meetL_mem.1 hx).1
  · intro h
    have p := sub_len (meetL a b) b hb (meetL_pw ha) (fun x hx => meetL_mem.2 ⟨h x hx, hx⟩)
    omega
theorem within_iff2 {a b : List Int} : (meetL a b).length = a.length ↔ ∀ x ∈ a, x ∈ b := by
  unfold meetL
  rw [List.length_filter_eq_length_iff]
  simp
theorem sameL_iff {a b : List Int} (ha : a.Pairwise (· < ·)) (hb : b.Pairwise (· < ·)) : sameL a b = true ↔ a = b := by
  unfold sameL
  simp only [Bool.and_eq_true, decide_eq_true_eq]
  constructor
  · rintro ⟨e, m⟩
    exact (sub_len b a ha hb (within_iff2.1 m)).2 e
  · intro e; subst e; exact ⟨rfl, within_iff2.2 (fun _ h => h)⟩
theorem lessB_iff {a b : List Int} : lessB a b = true ↔ a ≠ b ∧ ∀ x ∈ a, x ∈ b := by
  unfold lessB
  simp only [Bool.and_eq_true, Bool.not_eq_true', decide_eq_false_iff_not, decide_eq_true_eq, within_iff2, ne_eq]
theorem accB_iff (l : List S28) (i : Nat) : ∀ n, accB l i n = true ↔ ∀ j, j < n → dropB l i j = false
  | 0 => ⟨fun _ j h => absurd h (Nat.not_lt_zero j), fun _ => rfl⟩
  | n + 1 => by
    rw [accB, Bool.and_eq_true, accB_iff l i n]
    constructor
    · rintro ⟨h1, h2⟩ j hj
      by_cases e : j = n
      · rw [e]; simpa using h2
      · exact h1 j (by omega)
    · intro h
      exact ⟨fun j hj => h j (by omega), by simp [h n (by omega)]⟩
theorem gA_any (l : List S28) (p : List Int → Bool) : (l.any fun o => p o.f0) = true ↔ ∃ j, j < l.length ∧ p (gA l j) = true := by
  rw [List.any_eq_true]
  have e : ∀ j (h : j < l.length), gA l j = l[j].f0 := fun j h => by unfold gA; rw [show rd_T28 l (j : Int) = l[j] from getD_nat l _ h]
  constructor
  · rintro ⟨o, ho, hp⟩
    obtain ⟨j, hj, rfl⟩ := List.mem_iff_getElem.1 ho
    exact ⟨j, hj, by rw [e j hj]; exact hp⟩
  · rintro ⟨j, hj, hp⟩
    exact ⟨l[j], List.getElem_mem hj, by rw [← e j hj]; exact hp⟩
theorem min_iff {l : List S28} (hp : ∀ j, j < l.length → (gA l j).Pairwise (· < ·)) {i : Nat} (hi : i < l.length) : accB l i l.length = true ↔ ¬ (l.any fun o => lessB o.f0 (gA l i)) = true ∧ ∀ j, j < i → gA l j ≠ gA l i := by
  rw [accB_iff, gA_any l (fun o => lessB o (gA l i))]
  have key : ∀ j, j < l.length → (dropB l i j = true ↔ (lessB (gA l j) (gA l i) = true ∨ (j < i ∧ gA l j = gA l i))) := by
    intro j hj
    unfold dropB
    rw [Bool.or_eq_true, Bool.and_eq_true, Bool.and_eq_true, decide_eq_true_eq, decide_eq_true_eq, within_iff (hp i hi) (hp j hj), sameL_iff (hp i hi) (hp j hj), lessB_iff, Bool.not_eq_true', ← Bool.not_eq_true, sameL_iff (hp i hi) (hp j hj)]
    constructor
    · rintro (⟨h1, h2⟩ | ⟨h1, h2⟩)
      · exact Or.inl ⟨fun e => h2 e.symm, h1⟩
      · exact Or.inr ⟨h1, h2.symm⟩
    · rintro (⟨h1, h2⟩ | ⟨h1, h2⟩)
      · exact Or.inl ⟨h2, fun e => h1 e.symm⟩
      · exact Or.inr ⟨h1, h2.symm⟩
  constructor
  · intro h
    refine ⟨?_, fun j hj e => ?_⟩
    · rintro ⟨j, hj, hl⟩
      have := (key j hj).2 (Or.inl hl)
      rw [h j hj] at this; cases this
    · have := (key j (by omega)).2 (Or.inr ⟨hj, e⟩)
      rw [h j (by omega)] at this; cases this
  · rintro ⟨h1, h2⟩ j hj
    cases hd : dropB l i j
    · rfl
    · rcases (key j hj).1 hd with k | ⟨k1, k2⟩
      · exact absurd ⟨j, hj, k⟩ h1
      · exact absurd k2 (h2 j k1)
theorem outS_mem {l : List S28} (hp : ∀ j, j < l.length → (gA l j).Pairwise (· < ·)) : ∀ i, i ≤ l.length → ∀ m : List Int, (∃ o ∈ outS l i, o.f0 = m) ↔ ∃ j, j < i ∧ gA l j = m ∧ ¬ (l.any fun o => lessB o.f0 m) = true
  | 0, _, m => by simp [outS]
  | i + 1, hi, m => by
    have ih := outS_mem hp i (by omega) m
    have hm := min_iff hp (i := i) (by omega)
    rw [outS]
    by_cases c : accB l i l.length = true
    · rw [if_pos c]
      constructor
      · rintro ⟨o, ho, e⟩
        rcases List.mem_append.1 ho with h | h
        · obtain ⟨j, h1, h2⟩ := ih.1 ⟨o, h, e⟩
          exact ⟨j, by omega, h2⟩
        · have e2 := List.mem_singleton.1 h
          subst e2
          exact ⟨i, by omega, e, by rw [← e]; exact (hm.1 c).1⟩
      · rintro ⟨j, h1, h2, h3⟩
        by_cases e : j = i
        · subst e
          exact ⟨⟨gA l j⟩, List.mem_append.2 (Or.inr (List.mem_singleton.2 rfl)), h2⟩
        · obtain ⟨o, ho, e2⟩ := ih.2 ⟨j, by omega, h2, h3⟩
          exact ⟨o, List.mem_append.2 (Or.inl ho), e2⟩
    · rw [if_neg c, ih]
      constructor
      · rintro ⟨j, h1, h2⟩; exact ⟨j, by omega, h2⟩
      · rintro ⟨j, h1, h2, h3⟩
        by_cases e : j = i
        · subst e
          by_cases q : ∃ z, z < j ∧ gA l z = gA l j
          · obtain ⟨z, z1, z2⟩ := q
            exact ⟨z, z1, z2.trans h2, h3⟩
          · exact absurd (hm.2 ⟨by rw [h2]; exact h3, fun z hz ez => q ⟨z, hz, ez⟩⟩) c
        · exact ⟨j, by omega, h2, h3⟩
theorem outI_eq {l : List S28} (hp : ∀ j, j < l.length → (gA l j).Pairwise (· < ·)) : ∀ i, i ≤ l.length → outI l i = outS l i
  | 0, _ => rfl
  | i + 1, hi => by
    have ih := outI_eq hp i (by omega)
    have hm := min_iff hp (i := i) (by omega)
    rw [outI, outS, ih]
    by_cases c1 : (l.any fun o => lessB o.f0 (gA l i)) = true
    · rw [if_pos c1, if_neg (fun c => (hm.1 c).1 c1)]
    · rw [if_neg c1]
      by_cases c2 : ((outS l i).any fun o => decide (o.f0 = gA l i)) = true
      · rw [if_pos c2, if_neg]
        intro c
        obtain ⟨o, ho, e⟩ := List.any_eq_true.1 c2
        obtain ⟨j, h1, h2, _⟩ := (outS_mem hp i (by omega) (gA l i)).1 ⟨o, ho, of_decide_eq_true e⟩
        exact (hm.1 c).2 j h1 h2
      · rw [if_neg c2, if_pos]
        refine hm.2 ⟨c1, fun j hj e => c2 ?_⟩
        obtain ⟨o, ho, e2⟩ := (outS_mem hp i (by omega) (gA l i)).2 ⟨j, hj, e, c1⟩
        exact List.any_eq_true.2 ⟨o, ho, decide_eq_true e2⟩
theorem groups_b (l : List S28) (h : okL28 l) : ms28 l ≤ 1048576 * l.length ∧ mok28 l := by
  obtain ⟨h1, h2⟩ := h
  refine ⟨?_, fun w hw => h2 w hw⟩
  clear h1
  induction l with
  | nil => simp [ms28]
  | cons x r ih =>
    have hx : x.f0.length ≤ 1048576 := h2 x (List.mem_cons_self ..)
    have := ih (fun w hw => h2 w (List.mem_cons_of_mem _ hw))
    simp only [ms28, mc28, List.length_cons]; omega
theorem holds_ev (n : Int) (l : List S24) (hl : bigL24 l) : Ev (fun k => laws_FnExactMinimalOf.f k n l) true := by
  obtain ⟨q, hq, _, hsz⟩ := laws_szGroupS.ev l 1048576 (by omega) (by omega) hl
  unfold laws_FnExactMinimalOf.f
  refine Ev.bind hq ?_
  try dsimp only
  refine Ev.cases (fun _ => Ev.now _) (fun hn => ?_)
  have ok := hsz (by omega)
  have ok2 := okL24_map ok
  refine Ev.bind (laws_toGroupS.ev l ok) ?_
  try dsimp only
  generalize l.map c24 = L at ok2 ⊢
  have hs := spec_MinimalOf.ev n L ok2
  have hi := impl_MinimalOf.ev n L ok2
  obtain ⟨R, b, hR, e1, e2⟩ : ∃ R b, okL28 R ∧ (if goodSets n L = true then (outS L L.length, true) else ([], false)) = (R, b) ∧ (if goodSets n L = true then (outI L L.length, true) else ([], false)) = (R, b) := by
    by_cases g : goodSets n L = true
    · have hp : ∀ j, j < L.length → (gA L j).Pairwise (· < ·) := by
        intro j hj
        unfold goodSets at g
        simp only [Bool.and_eq_true, List.all_eq_true] at g
        have e : gA L j = L[j].f0 := by unfold gA; rw [show rd_T28 L (j : Int) = L[j] from getD_nat L _ hj]
        rw [e]; exact goodG_pw (g.2 _ (List.getElem_mem hj))
      refine ⟨outI L L.length, true, ⟨Nat.le_trans (outI_len L _) ok2.1, outI_ok ok2 _ (Nat.le_refl _)⟩, ?_, if_pos g⟩
      rw [if_pos g, outI_eq hp _ (Nat.le_refl _)]
    · exact ⟨[], false, ⟨by simp, by simp⟩, if_neg g, if_neg g⟩
  rw [e1] at hs
  rw [e2] at hi
  refine Ev.bind hs ?_
  try dsimp only
  refine Ev.bind hi ?_
  try dsimp only
  obtain ⟨m1, t1⟩ := groups_b L ok2
  obtain ⟨m2, t2⟩ := groups_b R hR
  have b1 := ok2.1
  have b2 := hR.1
  obtain ⟨l1, _, hx, _⟩ := laws_markGroupS.two L 1 (by omega) (by omega) (by omega) t1
  obtain ⟨l2, _, hy, hz⟩ := laws_markGroupS.two R 1 (by omega) (by omega) (by omega) t2
  refine Ev.iff (laws_eqGroupS.refl R hR) (Ev.pos rfl (Ev.iff (laws_eqGroupS.refl L ok2) (Ev.bind hx ?_)))
  try dsimp only
  refine Ev.pos (by omega) (Ev.bind hy ?_)
  try dsimp only
  refine Ev.bind hz ?_
  try dsimp only
  exact Ev.pos (by omega) (Ev.pos rfl (Ev.now _))

end Go.Proofs.Ythbollaceiffpaa.PMO
namespace Go.Proofs.Ythbollaceiffpaa.PureFnExactMinimalOf
open Go.RowKit Go.Proofs.Ythbollaceiffpaa.PMO Go.Proofs.Ythbollaceiffpaa.Base Go.Proofs.Ythbollaceiffpaa.Open Go.Proofs.YthbollaceiffpaaW.PrintWords Go.Proofs.YthbollaceiffpaaW.PrintLast
theorem holds (a0 : Int) (l1 : List S24) (w0 : (Lit.int .i64 a0).wf = true) (w1 : (l1.length ≤ 9223372036854775807 ∧ ∀ z ∈ l1, W24 z)) : ∃ k, Go.Proofs.Ythbollaceiffpaa.PMO.laws_FnExactMinimalOf.f k a0 l1 = some true := by
  have _ := w0
  exact (holds_ev a0 l1 ⟨w1.1, fun z hz => (w1.2 z hz).1⟩).rounds
end Go.Proofs.Ythbollaceiffpaa.PureFnExactMinimalOf
