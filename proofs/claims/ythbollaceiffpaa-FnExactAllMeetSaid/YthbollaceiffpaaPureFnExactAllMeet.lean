/- What this text proves: laws.FnExactAllMeet, told as plain functions of numbers and lists, answers true for all arguments.
   Conditions: the bounds that the typed reading gives. -/
import Derived.Test.YthbollaceiffpaaPAMx4
import Derived.Test.YthbollaceiffpaaOpen
import Derived.Test.YthbollaceiffpaaBase
namespace Go.Proofs.Ythbollaceiffpaa.PAM
open Go.RowKit Go.Proofs.Ythbollaceiffpaa.Base Go.Proofs.Ythbollaceiffpaa.Open Go.Proofs.YthbollaceiffpaaW.PrintWords Go.Proofs.YthbollaceiffpaaW.PrintLast Go.Proofs.YthbollaceiffpaaW.PrintMore
set_option linter.unusedVariables false
set_option linter.unusedSimpArgs false
theorem u3 : Opens Try.prog 3 (Kd.int .i64) (fun x => (Lit.int .i64 x).wf = true) := Opens.int Try.underlying3 (by kernel_rfl)
theorem u22 : Opens Try.prog 22 (Kd.slice 3 (Kd.int .i64)) (fun x => (x.length ≤ 9223372036854775807 ∧ ∀ z ∈ x, (Lit.int .i64 z).wf = true)) := Opens.slice Try.underlying22 (by kernel_rfl) u3
def W24 (x : S24) : Prop := (x.f0.length ≤ 9223372036854775807 ∧ ∀ z ∈ x.f0, (Lit.int .i64 z).wf = true)
theorem o24 : Opens Try.prog 24 k24 W24 := by
  have h := Opens.struct Try.underlying24 (by kernel_rfl) (Fits.one (P := Try.prog) rfl u22)
  exact Opens.iso (fun x : S24 => x.f0) (fun p => ⟨p⟩) (fun _ => rfl) h
theorem u51 : Opens Try.prog 51 (Kd.slice 24 k24) (fun x => (x.length ≤ 9223372036854775807 ∧ ∀ z ∈ x, W24 z)) := Opens.slice Try.underlying51 (by kernel_rfl) o24
/-- The place of the first element at which p says yes, counted from i; -1 for none. -/
def idxN {α : Type} (p : α → Bool) : List α → Nat → Int
  | [], _ => -1
  | x :: r, i => if p x = true then (i : Int) else idxN p r (i + 1)
theorem idxO_val {α : Type} {F : α → Option Bool} {p : α → Bool} : ∀ (l : List α) (i : Nat), (∀ x ∈ l, F x = some (p x)) → idxO F l i = some (idxN p l i)
  | [], _, _ => rfl
  | x :: r, i, h => by
    simp only [idxO, idxN, h x (List.mem_cons_self ..), Option.bind_some]
    rw [idxO_val r (i + 1) (fun y hy => h y (List.mem_cons_of_mem _ hy))]
    split <;> rfl
theorem idxN_cons {α : Type} (p : α → Bool) (x : α) (r : List α) (i : Nat) : idxN p (x :: r) i = if p x = true then (i : Int) else idxN p r (i + 1) := rfl
theorem idxN_anyP {α : Type} (p : α → Bool) : ∀ (l : List α) (i : Nat), (idxN p l i ≥ 0) ↔ l.any p = true
  | [], _ => by simp [idxN]
  | x :: r, i => by
    rw [idxN_cons]
    by_cases h : p x = true
    · rw [if_pos h, List.any_cons, h]; simp
    · rw [if_neg h, List.any_cons, Bool.eq_false_iff.2 h, Bool.false_or]; exact idxN_anyP p r (i + 1)
theorem idxN_any {α : Type} (p : α → Bool) (l : List α) (i : Nat) : decide (idxN p l i ≥ 0) = l.any p := by
  rw [Bool.eq_iff_iff, decide_eq_true_iff]; exact idxN_anyP p l i
theorem idxN_ge {α : Type} (p : α → Bool) : ∀ (l : List α) (i : Nat), idxN p l i = -1 ∨ (i : Int) ≤ idxN p l i
  | [], _ => .inl rfl
  | x :: r, i => by
    simp only [idxN]
    split
    · exact .inr (Int.le_refl _)
    · rcases idxN_ge p r (i + 1) with h | h
      · exact .inl h
      · exact .inr (by omega)
theorem idxO_any {α : Type} {F : α → Option Bool} {p : α → Bool} {l : List α} (h : ∀ x ∈ l, F x = some (p x)) : ((idxO F l 0).bind fun i => some (decide (i ≥ 0))) = some (l.any p) := by
  rw [idxO_val l 0 h]; simp only [Option.bind_some]; rw [idxN_any]
theorem idxO_Ev {α : Type} {F : Nat → α → Option Bool} {p : α → Bool} : ∀ (l : List α) (i : Nat), (∀ x ∈ l, Ev (fun k => F k x) (p x)) → Ev (fun k => idxO (F k) l i) (idxN p l i)
  | [], _, _ => Ev.now _
  | x :: r, i, h => by
    show Ev (fun k => (F k x).bind fun b => if b = true then some (i : Int) else idxO (F k) r (i + 1)) _
    refine Ev.bind (h x (List.mem_cons_self ..)) ?_
    simp only [idxN]
    refine Ev.cases (fun hp => Ev.some (by rw [if_pos hp])) (fun hp => ?_)
    rw [if_neg hp]
    exact idxO_Ev r (i + 1) (fun y hy => h y (List.mem_cons_of_mem _ hy))
theorem idxAny_Ev {α : Type} {F : Nat → α → Option Bool} {p : α → Bool} {l : List α} (h : ∀ x ∈ l, Ev (fun k => F k x) (p x)) : Ev (fun k => (idxO (F k) l 0).bind fun i => some (decide (i ≥ 0))) (l.any p) := by
  refine Ev.bind (idxO_Ev l 0 h) (Ev.some ?_)
  exact idxN_any p l 0

def okLI (l : List Int) : Prop := l.length ≤ 1048576
def bigLI (l : List Int) : Prop := l.length ≤ 9223372036854775807
theorem laws_szIntS.ev (l : List Int) (a : Int) (h0 : 0 ≤ a) (h1 : a ≤ 1048576) (hb : bigLI l) : ∃ r, laws_szIntS.f l a = some r ∧ r ≤ a ∧ (0 ≤ r → okLI l) := by
  have hl : l.length ≤ 9223372036854775807 := hb
  unfold laws_szIntS.f
  rw [w64 (by omega) (by omega)]
  by_cases h : a < l.length
  · exact ⟨-1, by rw [if_pos (by omega)], by omega, fun h => by omega⟩
  · exact ⟨_, by rw [if_neg (by omega)], by omega, fun _ => (by unfold okLI; omega)⟩

theorem laws_szGroup.ev (x0 : List Int) (a : Int) (g0 : 0 ≤ a) (g1 : a ≤ 1048576) (h0 : bigLI x0) : ∃ r, laws_szGroup.f x0 a = some r ∧ r ≤ a ∧ (0 ≤ r → okLI x0) := by
  obtain ⟨r0, e0, b0, o0⟩ := laws_szIntS.ev x0 a g0 g1 h0
  by_cases c0 : r0 < 0
  · exact ⟨-1, by unfold laws_szGroup.f; rw [e0]; simp only [Option.bind_some]; rw [if_pos c0], by omega, fun h => by omega⟩
  exact ⟨r0, by unfold laws_szGroup.f; rw [e0]; simp only [Option.bind_some]; rw [if_neg c0], by omega, fun h => o0 (by omega)⟩

def okE24 (z : S24) : Prop := okLI z.f0
def okL24 (l : List S24) : Prop := l.length ≤ 1048576 ∧ ∀ z ∈ l, okE24 z
def bigE24 (z : S24) : Prop := bigLI z.f0
def bigL24 (l : List S24) : Prop := l.length ≤ 9223372036854775807 ∧ ∀ z ∈ l, bigE24 z
theorem laws_szGroupS.ev (l : List S24) (a : Int) (h0 : 0 ≤ a) (h1 : a ≤ 1048576) (hb : bigL24 l) : ∃ r, Ev (fun k => laws_szGroupS.f k l a) r ∧ r ≤ a ∧ (0 ≤ r → okL24 l) := by
  obtain ⟨hl, hx⟩ := hb
  unfold laws_szGroupS.f
  rw [w64 (by omega) (by omega)]
  by_cases h : a - l.length < 0
  · exact ⟨-1, Ev.pos h (Ev.now _), by omega, fun h => by omega⟩
  · have key : ∀ d i : Nat, i + d = l.length → ∀ b : Int, 0 ≤ b → b ≤ 1048576 → ∃ r, Ev (fun k => laws_szGroupS.l0 k l b i) r ∧ r ≤ b ∧ (0 ≤ r → ∀ x ∈ l.drop i, okE24 x) := by
      intro d
      induction d with
      | zero =>
        intro i hi b hb0 hb1
        have : i = l.length := by omega
        subst this
        exact ⟨b, Ev.step (fun k => by rw [laws_szGroupS.l0]) (Ev.neg (by omega) (Ev.now _)), by omega, fun _ x hx => by simp at hx⟩
      | succ d ih =>
        intro i hi b hb0 hb1
        have hlt : i < l.length := by omega
        have hz := hx _ (List.getElem_mem hlt)
        obtain ⟨r, hr, h2, h3⟩ := laws_szGroup.ev (l[i].f0) b hb0 hb1 (hz)
        have e : rd_T24 l (i : Int) = l[i] := getD_nat l _ hlt
        by_cases hr0 : r < 0
        · refine ⟨-1, Ev.step (fun k => by rw [laws_szGroupS.l0]) (Ev.pos (by omega) (Ev.pos (by omega) ?_)), by omega, fun h => by omega⟩
          rw [e]
          exact Ev.bindS hr (Ev.pos hr0 (Ev.now _))
        · obtain ⟨q, hq, h5, h4⟩ := ih (i + 1) (by omega) r (by omega) (by omega)
          refine ⟨q, Ev.step (fun k => by rw [laws_szGroupS.l0]) (Ev.pos (by omega) (Ev.pos (by omega) ?_)), by omega, fun h x hx => ?_⟩
          · rw [e, w64_succ hlt hl]
            exact Ev.bindS hr (Ev.neg hr0 hq)
          · rw [List.drop_eq_getElem_cons hlt] at hx
            rcases List.mem_cons.1 hx with rfl | hx
            · exact h3 (by omega)
            · exact h4 h x hx
    obtain ⟨r, hr, h5, h2⟩ := key l.length 0 (by omega) (a - l.length) (by omega) (by omega)
    exact ⟨r, Ev.neg h hr, by omega, fun h => ⟨by omega, fun x hx => h2 h x (by simpa using hx)⟩⟩

def okE28 (z : S28) : Prop := okLI z.f0
def okL28 (l : List S28) : Prop := l.length ≤ 1048576 ∧ ∀ z ∈ l, okE28 z
def bigE28 (z : S28) : Prop := bigLI z.f0
def bigL28 (l : List S28) : Prop := l.length ≤ 9223372036854775807 ∧ ∀ z ∈ l, bigE28 z
theorem spec_l1Has.ev (l : List Int) (a : Int) (hl : l.length ≤ 1048576) : Ev (fun k => spec_l1Has.f k l a) (l.contains a) := by
  unfold spec_l1Has.f
  refine Ev.eq (Ev.up (g := fun k i => spec_l1Has.l0 k a l (l.length : Int) i) l.length (fun i => (l.drop i).contains a) ?_) (by simp)
  intro i hi ih
  refine Ev.step (fun k => by rw [spec_l1Has.l0]) ?_
  by_cases hlt : i < l.length
  · rw [List.drop_eq_getElem_cons hlt, List.contains_cons, w64_succ hlt (by omega), rd_get hlt]
    refine Ev.pos (by omega) (Ev.pos (by omega) (Ev.pos (by omega) (Ev.cases (fun h => Ev.some ?_) (fun h => Ev.eq (ih hlt) ?_))))
    · have : (a == l[i]) = true := by simpa using h.symm
      rw [this]; rfl
    · have : (a == l[i]) = false := by simpa using fun e => h e.symm
      rw [this]; rfl
  · exact Ev.neg (by omega) (Ev.some (by rw [List.drop_of_length_le (by omega)]; rfl))

def meetL (a b : List Int) : List Int := a.filter fun x => b.contains x
theorem spec_l8Meet.ev (a b : List Int) (ha : a.length ≤ 1048576) (hb : b.length ≤ 1048576) : Ev (fun k => spec_l8Meet.f k a b) (meetL a b) := by
  unfold spec_l8Meet.f
  refine Ev.eq (Ev.up (g := fun k i => spec_l8Meet.l0 k a (a.length : Int) i b (meetL (a.take i.toNat) b)) a.length (fun _ => meetL a b) ?_) rfl
  intro i hi ih
  refine Ev.step (fun k => by rw [spec_l8Meet.l0]) ?_
  by_cases hlt : i < a.length
  · have ih := ih hlt
    simp only [Int.toNat_natCast] at ih ⊢
    have hlen : (meetL (a.take i) b).length ≤ i := Nat.le_trans (List.length_filter_le _ _) (by simp; omega)
    have e : meetL (a.take (i + 1)) b = meetL (a.take i) b ++ (if b.contains a[i] = true then [a[i]] else []) := by
      unfold meetL
      rw [take_snoc a hlt, List.filter_append]
      by_cases h : b.contains a[i] = true
      · rw [if_pos h]; simp only [List.filter_cons, h, if_true, List.filter_nil]
      · rw [if_neg h]; simp only [List.filter_cons, h, List.filter_nil]; rfl
    rw [e] at ih
    rw [rd_get hlt, w64_succ hlt (by omega)]
    refine Ev.pos (by omega) (Ev.pos (by omega) (Ev.pos (by omega) (Ev.bind (spec_l1Has.ev b a[i] hb) (Ev.cases (fun h => ?_) (fun h => ?_)))))
    · rw [if_pos h] at ih; exact Ev.pos (by omega) ih
    · rw [if_neg h, List.append_nil] at ih; exact ih
  · have : i = a.length := by omega
    subst this
    exact Ev.neg (by omega) (Ev.some (by simp))

theorem spec_l1In.ev (n a b : Int) : spec_l1In.f n a b = some (inB n a b) := by
  unfold spec_l1In.f inB
  by_cases h : a ≤ n
  · rw [if_pos h]; simp [h]
  · rw [if_neg h]; simp [h]

theorem spec_l8Nodes.ev (n : Int) : spec_l8Nodes.f n = some (inB n 1 12) := by
  unfold spec_l8Nodes.f; rw [spec_l1In.ev]; rfl

/-- Number i of a list lies from 0 to m, and above the one ahead of it. -/
def rise (l : List Int) (m : Int) (i : Nat) : Bool := inB (rd l i) 0 m && (decide (i = 0) || decide (rd l ((i : Int) - 1) < rd l i))
/-- A good group of n nodes. -/
def goodG (l : List Int) (n : Int) : Bool := inB n 1 12 && allFrom (rise l (wrap64 (n - 1))) l.length 0
theorem spec_GoodGroup.ev (l : List Int) (n : Int) (hl : l.length ≤ 9223372036854775807) : Ev (fun k => spec_GoodGroup.f k l n) (goodG l n) := by
  unfold spec_GoodGroup.f goodG
  refine Ev.eq (Ev.up (g := fun k i => spec_GoodGroup.l0 k n l (l.length : Int) i l) l.length (fun i => inB n 1 12 && allFrom (rise l (wrap64 (n - 1))) l.length i) ?_) rfl
  intro i hi ih
  refine Ev.step (fun k => by rw [spec_GoodGroup.l0]) ?_
  by_cases hlt : i < l.length
  · refine Ev.pos (by omega) (Ev.pos (by omega) (Ev.pos (by omega) (Ev.bindS (spec_l1In.ev _ _ _) ?_)))
    rw [allFrom_step hlt]
    have ih := ih hlt
    generalize allFrom (rise l (wrap64 (n - 1))) l.length (i + 1) = q at ih ⊢
    unfold rise
    refine Ev.cases (fun h1 => ?_) (fun h1 => Ev.some (by simp at h1; simp [h1]))
    rw [h1, w64_succ hlt hl]
    refine Ev.cases (fun h2 => ?_) (fun h2 => Ev.eq ih (by rw [decide_eq_true (by omega : i = 0)]; simp))
    rw [w64 (by omega) (by omega)]
    refine Ev.pos (by omega) (Ev.pos (by omega) (Ev.cases (fun h3 => Ev.some ?_) (fun h3 => Ev.eq ih ?_)))
    · rw [decide_eq_false (by omega : ¬ i = 0), decide_eq_false (by omega)]; simp
    · rw [decide_eq_true (by omega : rd l ((i : Int) - 1) < rd l i)]; simp
  · have : i = l.length := by omega
    subst this
    refine Ev.neg (by omega) (Ev.bindS (spec_l8Nodes.ev _) (Ev.some ?_))
    rw [allFrom_end]; simp

def goodSets (n : Int) (l : List S28) : Bool := inB n 1 12 && decide ((l.length : Int) ≤ 40) && l.all fun g => goodG g.f0 n
theorem spec_l8Sets.ev (n : Int) (l : List S28) (hl : okL28 l) : Ev (fun k => spec_l8Sets.f k n l) (goodSets n l) := by
  obtain ⟨h1, h2⟩ := hl
  unfold spec_l8Sets.f goodSets
  refine Ev.eq (Ev.up (g := fun k i => spec_l8Sets.l0 k n l l (l.length : Int) i) l.length (fun i => ((l.drop i).all fun g => goodG g.f0 n) && (inB n 1 12 && decide ((l.length : Int) ≤ 40))) ?_) (by simp [Bool.and_comm])
  intro i hi ih
  refine Ev.step (fun k => by rw [spec_l8Sets.l0]) ?_
  by_cases hlt : i < l.length
  · have e : rd_T28 l (i : Int) = l[i] := getD_nat l _ hlt
    have h3 := h2 _ (List.getElem_mem hlt)
    unfold okE28 okLI at h3
    rw [e, all_take_succ l _ hlt, w64_succ hlt (by omega)]
    refine Ev.pos (by omega) (Ev.pos (by omega) (Ev.pos (by omega) (Ev.bind (spec_GoodGroup.ev _ _ (by omega)) (Ev.cases (fun h => Ev.eq (ih hlt) (by rw [h]; rfl)) (fun h => Ev.some (by rw [Bool.eq_false_iff.2 h]; rfl))))))
  · rw [List.drop_of_length_le (by omega)]
    refine Ev.neg (by omega) (Ev.bindS (spec_l8Nodes.ev _) (Ev.cases (fun h => Ev.some (by rw [h]; rfl)) (fun h => Ev.some (by rw [Bool.eq_false_iff.2 h]; rfl))))

def mB (l : List S28) (i j : Nat) : Bool := decide (¬ (meetL (rd_T28 l (i : Int)).f0 (rd_T28 l (j : Int)).f0).length = 0)
def specB (l : List S28) : Bool := allFrom (fun i => allFrom (fun j => mB l i j) (i + 1) 0) l.length 0
def implB (l : List S28) : Bool := allFrom (fun i => allFrom (fun j => mB l i j) i 0) l.length 0
theorem take_get (l : List S28) {m j : Nat} (hm : m ≤ l.length) (hj : j < m) : rd_T28 (l.take m) (j : Int) = rd_T28 l (j : Int) := by
  have e1 : rd_T28 (l.take m) (j : Int) = (l.take m)[j]'(by simp; omega) := getD_nat _ _ (by simp; omega)
  have e2 : rd_T28 l (j : Int) = l[j] := getD_nat l _ (by omega)
  rw [e1, e2]; simp
theorem rd_ok {l : List S28} (hl : okL28 l) {i : Nat} (h : i < l.length) : (rd_T28 l (i : Int)).f0.length ≤ 1048576 := by
  have e2 : rd_T28 l (i : Int) = l[i] := getD_nat l _ h
  rw [e2]; exact hl.2 _ (List.getElem_mem h)
theorem spec_AllMeet.ev (n : Int) (l : List S28) (hl : okL28 l) : Ev (fun k => spec_AllMeet.f k n l) (if goodSets n l = true then (specB l, true) else (false, false)) := by
  have h1 := hl.1
  unfold spec_AllMeet.f
  refine Ev.bind (spec_l8Sets.ev n l hl) (Ev.cases (fun hg => ?_) (fun hg => Ev.some (by rw [if_neg hg])))
  rw [if_pos hg]
  refine Ev.eq (Ev.up (g := fun k i => spec_AllMeet.l0 k l l (l.length : Int) i) l.length (fun i => (allFrom (fun i => allFrom (fun j => mB l i j) (i + 1) 0) l.length i, true)) ?_) rfl
  intro i hi ih
  refine Ev.step (fun k => by rw [spec_AllMeet.l0]) ?_
  by_cases hlt : i < l.length
  · have ih := ih hlt
    have ew : wrap64 ((i : Int) + 1) = ((i + 1 : Nat) : Int) := w64_succ hlt (by omega)
    rw [ew]
    refine Ev.pos (by omega) (Ev.pos (by omega) (Ev.pos (by omega) (Ev.pos (by omega) (Ev.pos (by omega) (Ev.bindS (a := l.take (i + 1)) (by simp) ?_)))))
    have hlen : (l.take (i + 1)).length = i + 1 := by simp; omega
    rw [allFrom_step hlt]
    refine Ev.eq (Ev.up (g := fun k j => spec_AllMeet.l1 k l l (l.length : Int) (i : Int) (l.take (i + 1)) ((l.take (i + 1)).length : Int) j (rd_T28 l (i : Int)).f0) (i + 1) (fun j => (allFrom (fun j => mB l i j) (i + 1) j && allFrom (fun i => allFrom (fun j => mB l i j) (i + 1) 0) l.length (i + 1), true)) ?_) rfl
    intro j hj jh
    refine Ev.step (fun k => by rw [spec_AllMeet.l1]) ?_
    by_cases hjl : j < i + 1
    · have jh := jh hjl
      rw [allFrom_step hjl, take_get l (by omega) hjl]
      have ew2 : wrap64 ((j : Int) + 1) = ((j + 1 : Nat) : Int) := by rw [w64 (by omega) (by omega)]; omega
      rw [ew2]
      refine Ev.pos (by omega) (Ev.pos (by omega) (Ev.pos (by omega) (Ev.bind (spec_l8Meet.ev _ _ (rd_ok hl hlt) (rd_ok hl (by omega))) (Ev.cases (fun h => Ev.some ?_) (fun h => Ev.eq jh ?_)))))
      · have : mB l i j = false := by unfold mB; exact decide_eq_false (fun g => g (by omega))
        rw [this]; rfl
      · have : mB l i j = true := by unfold mB; exact decide_eq_true (by omega)
        rw [this]; rfl
    · have : j = i + 1 := by omega
      subst this
      refine Ev.neg (by omega) ?_
      rw [allFrom_end, ew]
      exact ih
  · have : i = l.length := by omega
    subst this
    exact Ev.neg (by omega) (Ev.some (by rw [allFrom_end]))

theorem laws_toIntS.ev0 (l : List Int) (hl : l.length ≤ 1048576) : Ev (fun k => laws_toIntS.f k l) l := by
  unfold laws_toIntS.f
  refine Ev.pos (by omega) (Ev.pos (by omega) ?_)
  refine Ev.eq (Ev.up (g := fun k i => laws_toIntS.l0 k l (l.take i.toNat ++ List.replicate (l.length - i.toNat) 0) i) l.length (fun _ => l) ?_) rfl
  intro i hi ih
  refine Ev.step (fun k => by rw [laws_toIntS.l0]) ?_
  by_cases hlt : i < l.length
  · refine Ev.pos (by omega) (Ev.pos (by omega) (Ev.pos (by simp; omega) ?_))
    rw [rd_get hlt, w64_succ hlt (by omega)]
    have h2 := ih hlt
    simp only [Int.toNat_natCast] at h2 ⊢
    rw [set_fill l 0 hlt]
    exact h2
  · refine Ev.neg (by omega) (Ev.some ?_)
    simp only [Int.toNat_natCast]
    have : i = l.length := by omega
    subst this
    simp
theorem laws_toIntS.ev (l : List Int) (hl : okLI l) : Ev (fun k => laws_toIntS.f k l) l := laws_toIntS.ev0 l hl

theorem laws_toGroup.ev (x0 : List Int) (h0 : okLI x0) : Ev (fun k => laws_toGroup.f k x0) (x0) := by
  unfold laws_toGroup.f
  exact Ev.bind (laws_toIntS.ev _ h0) (Ev.now _)

def c24 (x : S24) : S28 := ⟨x.f0⟩
theorem okE24_map {x : S24} (h : okE24 x) : okE28 (c24 x) := h
theorem okL24_map {l : List S24} (h : okL24 l) : okL28 (l.map c24) := ⟨by simpa using h.1, fun x hx => by obtain ⟨y, hy, rfl⟩ := List.mem_map.1 hx; exact okE24_map (h.2 y hy)⟩
theorem laws_toGroupS.ev (l : List S24) (hb : okL24 l) : Ev (fun k => laws_toGroupS.f k l) (l.map c24) := by
  obtain ⟨hl, hx⟩ := hb
  unfold laws_toGroupS.f
  refine Ev.pos (by omega) (Ev.pos (by omega) ?_)
  refine Ev.eq (Ev.up (g := fun k i => laws_toGroupS.l0 k l ((l.take i.toNat).map c24 ++ List.replicate (l.length - i.toNat) z28) i) l.length (fun _ => l.map c24) ?_) rfl
  intro i hi ih
  refine Ev.step (fun k => by rw [laws_toGroupS.l0]) ?_
  by_cases hlt : i < l.length
  · have h2 := ih hlt
    have h3 := hx _ (List.getElem_mem hlt)
    simp only [Int.toNat_natCast] at h2 ⊢
    have e : rd_T24 l (i : Int) = l[i] := getD_nat l _ hlt
    rw [e, w64_succ hlt (by omega)]
    refine Ev.pos (by omega) (Ev.pos (by omega) (Ev.bind (laws_toGroup.ev (l[i].f0) (h3)) (Ev.pos (by rw [fill_len _ _ _ _ hi]; omega) ?_)))
    refine Ev.congr (fun k => ?_) h2
    rw [← set_fillM c24 l z28 hlt]; rfl
  · have : i = l.length := by omega
    subst this
    refine Ev.neg (by omega) (Ev.some ?_)
    simp only [Int.toNat_natCast]
    exact fill_end _ _ _

theorem impl_in.ev (n a b : Int) : impl_in.f n a b = some (inB n a b) := by
  unfold impl_in.f inB
  by_cases h : a ≤ n
  · rw [if_pos h]; simp [h]
  · rw [if_neg h]; simp [h]

theorem impl_areRising.ev (l : List Int) (n : Int) (hl : l.length ≤ 9223372036854775807) : Ev (fun k => impl_areRising.f k l n) (allFrom (rise l (wrap64 (n - 1))) l.length 0) := by
  unfold impl_areRising.f
  refine Ev.eq (Ev.up (g := fun k i => impl_areRising.l0 k l n l (l.length : Int) i) l.length (fun i => allFrom (rise l (wrap64 (n - 1))) l.length i) ?_) rfl
  intro i hi ih
  refine Ev.step (fun k => by rw [impl_areRising.l0]) ?_
  by_cases hlt : i < l.length
  · refine Ev.pos (by omega) (Ev.pos (by omega) (Ev.pos (by omega) (Ev.bindS (impl_in.ev _ _ _) ?_)))
    rw [allFrom_step hlt]
    have ih := ih hlt
    generalize allFrom (rise l (wrap64 (n - 1))) l.length (i + 1) = q at ih ⊢
    unfold rise
    refine Ev.cases (fun h1 => ?_) (fun h1 => Ev.some (by simp at h1; simp [h1]))
    rw [h1, w64_succ hlt hl]
    refine Ev.cases (fun h2 => ?_) (fun h2 => Ev.eq ih (by rw [decide_eq_true (by omega : i = 0)]; simp))
    rw [w64 (by omega) (by omega)]
    refine Ev.pos (by omega) (Ev.pos (by omega) (Ev.cases (fun h3 => Ev.some ?_) (fun h3 => Ev.eq ih ?_)))
    · rw [decide_eq_false (by omega : ¬ i = 0), decide_eq_false (by omega)]; simp
    · rw [decide_eq_true (by omega : rd l ((i : Int) - 1) < rd l i)]; simp
  · have : i = l.length := by omega
    subst this
    exact Ev.neg (by omega) (Ev.some (by rw [allFrom_end]))

theorem impl_isGroup.ev (l : List Int) (n : Int) (hl : l.length ≤ 9223372036854775807) : Ev (fun k => impl_isGroup.f k l n) (goodG l n) := by
  unfold impl_isGroup.f goodG
  refine Ev.bindS (impl_in.ev _ _ _) ?_
  refine Ev.cases (fun h1 => ?_) (fun h1 => Ev.some (by simp at h1; simp [h1]))
  exact Ev.bind (impl_areRising.ev l n hl) (Ev.some (by rw [h1]; rfl))

theorem nan_all {α : Type} (f : α → Bool) : ∀ l : List α, (!(l.any fun g => !f g)) = l.all f
  | [] => rfl
  | x :: r => by simp only [List.any_cons, List.all_cons, Bool.not_or, Bool.not_not]; rw [nan_all f r]
theorem impl_areGroups.ev (n : Int) (l : List S28) (hl : okL28 l) : Ev (fun k => impl_areGroups.f k n l) (goodSets n l) := by
  unfold impl_areGroups.f goodSets
  refine Ev.bindS (impl_in.ev _ _ _) (Ev.cases (fun h1 => Ev.cases (fun h2 => ?_) (fun h2 => Ev.some (by rw [h1, decide_eq_false h2]; rfl))) (fun h1 => Ev.some (by rw [Bool.eq_false_iff.2 h1]; rfl)))
  rw [h1, decide_eq_true h2]
  refine Ev.bind (idxO_Ev (F := fun k => fun g : S28 => (impl_isGroup.f k g.f0 n).bind fun b => some (!b)) (p := fun g : S28 => !goodG g.f0 n) l 0 (fun x hx => ?_)) (Ev.some ?_)
  · have h3 := hl.2 _ hx
    unfold okE28 okLI at h3
    exact Ev.bind (impl_isGroup.ev _ _ (by omega)) (Ev.now _)
  · rw [idxN_any]
    simp only [Bool.true_and]
    exact nan_all (fun g : S28 => goodG g.f0 n) l

def implR (l : List S28) : Bool := if l.length = 1 then decide (((rd_T28 l 0).f0.length : Int) > 0) else implB l
theorem impl_AllMeet.ev (n : Int) (l : List S28) (hl : okL28 l) : Ev (fun k => impl_AllMeet.f k n l) (if goodSets n l = true then (implR l, true) else (false, false)) := by
  have h1 := hl.1
  unfold impl_AllMeet.f implR
  refine Ev.bind (impl_areGroups.ev n l hl) (Ev.cases (fun hg => ?_) (fun hg => Ev.some (by rw [if_neg hg])))
  rw [if_pos hg]
  refine Ev.cases (fun hone => Ev.pos (by omega) (Ev.some (by rw [if_pos (by omega)]))) (fun hone => ?_)
  rw [if_neg (by omega)]
  refine Ev.eq (Ev.up (g := fun k i => impl_AllMeet.l0 k l l (l.length : Int) i) l.length (fun i => (allFrom (fun i => allFrom (fun j => mB l i j) i 0) l.length i, true)) ?_) rfl
  intro i hi ih
  refine Ev.step (fun k => by rw [impl_AllMeet.l0]) ?_
  by_cases hlt : i < l.length
  · have ih := ih hlt
    have ew : wrap64 ((i : Int) + 1) = ((i + 1 : Nat) : Int) := w64_succ hlt (by omega)
    refine Ev.pos (by omega) (Ev.pos (by omega) (Ev.pos (by omega) (Ev.pos (by omega) (Ev.bindS (a := l.take i) (by simp) ?_))))
    have hlen : (l.take i).length = i := by simp; omega
    rw [allFrom_step hlt]
    refine Ev.eq (Ev.up (g := fun k j => impl_AllMeet.l1 k l l (l.length : Int) (i : Int) (l.take i) ((l.take i).length : Int) j (rd_T28 l (i : Int)).f0) i (fun j => (allFrom (fun j => mB l i j) i j && allFrom (fun i => allFrom (fun j => mB l i j) i 0) l.length (i + 1), true)) ?_) rfl
    intro j hj jh
    refine Ev.step (fun k => by rw [impl_AllMeet.l1]) ?_
    by_cases hjl : j < i
    · have jh := jh hjl
      rw [allFrom_step hjl, take_get l (by omega) hjl]
      have ew2 : wrap64 ((j : Int) + 1) = ((j + 1 : Nat) : Int) := by rw [w64 (by omega) (by omega)]; omega
      rw [ew2]
      have em : impl_meet.f (rd_T28 l (i : Int)).f0 (rd_T28 l (j : Int)).f0 = some (meetL (rd_T28 l (i : Int)).f0 (rd_T28 l (j : Int)).f0) := by
        unfold impl_meet.f; rw [if_pos ⟨rd_ok hl hlt, rd_ok hl (by omega)⟩]; rfl
      refine Ev.pos (by omega) (Ev.pos (by omega) (Ev.pos (by omega) (Ev.bindS em (Ev.cases (fun h => Ev.some ?_) (fun h => Ev.eq jh ?_)))))
      · have : mB l i j = false := by unfold mB; exact decide_eq_false (fun g => g (by omega))
        rw [this]; rfl
      · have : mB l i j = true := by unfold mB; exact decide_eq_true (by omega)
        rw [this]; rfl
    · have : j = i := by omega
      subst this
      refine Ev.neg (by omega) ?_
      rw [allFrom_end, ew]
      exact ih
  · have : i = l.length := by omega
    subst this
    exact Ev.neg (by omega) (Ev.some (by rw [allFrom_end]))
theorem meetL_self {a : List Int} (h : a ≠ []) : (meetL a a).length ≠ 0 := by
  unfold meetL
  rw [List.filter_eq_self.2 (fun x hx => by rw [List.contains_iff_mem]; exact hx)]
  exact fun e => h (List.eq_nil_of_length_eq_zero e)
theorem meetL_left {a b : List Int} (h : (meetL a b).length ≠ 0) : a ≠ [] ∧ b ≠ [] := by
  refine ⟨fun e => h (by rw [e]; rfl), fun e => h ?_⟩
  rw [e]; unfold meetL; simp
theorem implR_spec (l : List S28) : implR l = specB l := by
  have self : ∀ i, mB l i i = decide (¬ (rd_T28 l (i : Int)).f0 = []) := by
    intro i
    unfold mB
    apply decide_eq_decide.2
    exact ⟨fun h e => h (by rw [e]; rfl), fun h => meetL_self h⟩
  unfold implR
  by_cases h1 : l.length = 1
  · rw [if_pos h1]
    unfold specB
    rw [h1, allFrom_step (by omega), allFrom_end, allFrom_step (by omega), allFrom_end, self]
    simp only [Bool.and_true]
    apply decide_eq_decide.2
    constructor
    · intro h e; have e' : (rd_T28 l 0).f0 = [] := e; rw [e'] at h; simp at h
    · intro h
      have : (rd_T28 l 0).f0.length ≠ 0 := fun e => h (List.eq_nil_of_length_eq_zero e)
      omega
  · rw [if_neg h1, Bool.eq_iff_iff]
    unfold implB specB
    simp only [allFrom_iff]
    constructor
    · intro h i hi0 hi j hj0 hj
      by_cases c : j < i
      · exact h i hi0 hi j hj0 c
      · have : j = i := by omega
        subst this
        rw [self, decide_eq_true_eq]
        by_cases d : 0 < j
        · have := h j hi0 hi 0 (by omega) d
          unfold mB at this
          exact (meetL_left (of_decide_eq_true this)).1
        · have : j = 0 := by omega
          subst this
          have := h 1 (by omega) (by omega) 0 (by omega) (by omega)
          unfold mB at this
          exact (meetL_left (of_decide_eq_true this)).2
    · intro h i hi0 hi j hj0 hj
      exact h i hi0 hi j hj0 (by omega)

theorem laws_eqIntS.ev (x y : List Int) (hx : x.length ≤ 9223372036854775807) : Ev (fun k => laws_eqIntS.f k x y) (decide (x = y)) := by
  unfold laws_eqIntS.f
  refine Ev.cases (fun hl => ?_) (fun hl => Ev.some ?_)
  · have hl' : x.length = y.length := by omega
    refine Ev.eq (Ev.up (g := fun k i => laws_eqIntS.l0 k x y i) x.length (fun i => decide (x.drop i = y.drop i)) ?_) (by simp)
    intro i hi ih
    refine Ev.step (fun k => by rw [laws_eqIntS.l0]) ?_
    by_cases hlt : i < x.length
    · refine Ev.pos (by omega) (Ev.pos (by omega) (Ev.pos (by omega) ?_))
      rw [rd_get hlt, rd_get (by omega : i < y.length), w64_succ hlt hx]
      have e : decide (x.drop i = y.drop i) = (decide (x[i] = y[i]) && decide (x.drop (i + 1) = y.drop (i + 1))) := drop_eq_step hlt (by omega)
      rw [e]
      refine Ev.cases (fun he => ?_) (fun he => Ev.some (by rw [decide_eq_false he]; rfl))
      exact Ev.eq (ih hlt) (by rw [decide_eq_true he]; rfl)
    · refine Ev.neg (by omega) (Ev.some ?_)
      rw [List.drop_of_length_le (by omega), List.drop_of_length_le (by omega)]
      simp
  · have : x ≠ y := fun h => hl (by rw [h])
    simp [this]
theorem laws_eqIntS.refl (x : List Int) (hx : okLI x) : Ev (fun k => laws_eqIntS.f k x x) true := Ev.eq (laws_eqIntS.ev x x (by unfold okLI at hx; omega)) (by simp)

theorem laws_eqGroup.refl (x0 : List Int) (h0 : okLI x0) : Ev (fun k => laws_eqGroup.f k x0 x0) true := by
  unfold laws_eqGroup.f
  exact (Ev.bind (laws_eqIntS.refl _ h0) (Ev.pos rfl (Ev.now _)))

theorem laws_eqGroupS.refl (x : List S28) (hx : okL28 x) : Ev (fun k => laws_eqGroupS.f k x x) true := by
  unfold laws_eqGroupS.f
  refine Ev.pos rfl (Ev.eq (Ev.up (g := fun k i => laws_eqGroupS.l0 k x x i) x.length (fun _ => true) ?_) rfl)
  intro i hi ih
  refine Ev.step (fun k => by rw [laws_eqGroupS.l0]) ?_
  by_cases hlt : i < x.length
  · have e : rd_T28 x (i : Int) = x[i] := getD_nat x _ hlt
    have h3 := hx.2 _ (List.getElem_mem hlt)
    have h1 := hx.1
    rw [e, w64_succ hlt (by omega)]
    exact Ev.pos (by omega) (Ev.pos (by omega) (Ev.pos (by omega) (Ev.bind (laws_eqGroup.refl (x[i].f0) (h3)) (Ev.pos rfl (ih hlt)))))
  · exact Ev.neg (by omega) (Ev.now _)

theorem holds_ev (n : Int) (l : List S24) (hl : bigL24 l) : Ev (fun k => laws_FnExactAllMeet.f k n l) true := by
  obtain ⟨q, hq, _, hsz⟩ := laws_szGroupS.ev l 1048576 (by omega) (by omega) hl
  unfold laws_FnExactAllMeet.f
  refine Ev.bind hq (Ev.cases (fun _ => Ev.now _) (fun hn => ?_))
  have ok := hsz (by omega)
  have tt := laws_toGroupS.ev l ok
  have ok2 := okL24_map ok
  have e : (if goodSets n (l.map c24) = true then (implR (l.map c24), true) else (false, false)) = (if goodSets n (l.map c24) = true then (specB (l.map c24), true) else (false, false)) := by rw [implR_spec]
  refine Ev.bind tt (Ev.bind (spec_AllMeet.ev n _ ok2) (Ev.bind tt (Ev.bind (Ev.eq (impl_AllMeet.ev n _ ok2) e) ?_)))
  refine Ev.neg (by simp) (Ev.step (fun k => by rw [laws_FnExactAllMeet.j0]) ?_)
  refine Ev.neg (by simp) ?_
  exact Ev.bind tt (Ev.bind (laws_eqGroupS.refl _ ok2) (Ev.pos rfl (Ev.now _)))

end Go.Proofs.Ythbollaceiffpaa.PAM
namespace Go.Proofs.Ythbollaceiffpaa.PureFnExactAllMeet
open Go.RowKit Go.Proofs.Ythbollaceiffpaa.PAM Go.Proofs.Ythbollaceiffpaa.Base Go.Proofs.Ythbollaceiffpaa.Open Go.Proofs.YthbollaceiffpaaW.PrintWords Go.Proofs.YthbollaceiffpaaW.PrintLast
theorem holds (a0 : Int) (l1 : List S24) (w0 : (Lit.int .i64 a0).wf = true) (w1 : (l1.length ≤ 9223372036854775807 ∧ ∀ z ∈ l1, W24 z)) : ∃ k, Go.Proofs.Ythbollaceiffpaa.PAM.laws_FnExactAllMeet.f k a0 l1 = some true := by
  have _ := w0
  exact (holds_ev a0 l1 ⟨w1.1, fun z hz => (w1.2 z hz).1⟩).rounds
end Go.Proofs.Ythbollaceiffpaa.PureFnExactAllMeet
