/- What this text proves: laws.FnExactMovedParts, told as plain functions of numbers and lists, answers true for all arguments.
   Conditions: the bounds that the typed reading gives. -/
import Derived.Test.YtniaodllgeloiaaPMPx9
import Derived.Test.YtniaodllgeloiaaOpen
import Derived.Test.YtniaodllgeloiaaBase
namespace Go.Proofs.Ytniaodllgeloiaa.PMP
open Go.RowKit Go.Proofs.Ytniaodllgeloiaa.Base Go.Proofs.Ytniaodllgeloiaa.Open Go.Proofs.YtniaodllgeloiaaW.PrintWords Go.Proofs.YtniaodllgeloiaaW.PrintLast Go.Proofs.YtniaodllgeloiaaW.PrintMore
set_option linter.unusedVariables false
set_option linter.unusedSimpArgs false
theorem op3 : Opens Try.prog 3 (Kd.int .i64) (fun x => (Lit.int .i64 x).wf = true) := Opens.int Try.underlying3 (by kernel_rfl)
theorem op33 : Opens Try.prog 33 (Kd.slice 3 (Kd.int .i64)) (fun x => (x.length ≤ 9223372036854775807 ∧ ∀ z ∈ x, (Lit.int .i64 z).wf = true)) := Opens.slice Try.underlying33 (by kernel_rfl) op3
def W96 (x : S96) : Prop := (Lit.int .i64 x.f0).wf = true ∧ (x.f1.length ≤ 9223372036854775807 ∧ ∀ z ∈ x.f1, (Lit.int .i64 z).wf = true)
theorem o96 : Opens Try.prog 96 k96 W96 := by
  have h := Opens.struct Try.underlying96 (by kernel_rfl) (Fits.cons (P := Try.prog) rfl op3 (Fits.one (P := Try.prog) rfl op33))
  exact Opens.iso (fun x : S96 => (x.f0, x.f1)) (fun p => ⟨p.1, p.2⟩) (fun _ => rfl) h
theorem op45 : Opens Try.prog 45 (Kd.slice 96 k96) (fun x => (x.length ≤ 9223372036854775807 ∧ ∀ z ∈ x, W96 z)) := Opens.slice Try.underlying45 (by kernel_rfl) o96
/-- The place of the first element at which p says yes, counted from i; -1 for none. -/
def idxN {α : Type} (p : α → Bool) : List α → Nat → Int
  | [], _ => -1
  | x :: r, i => if p x = true then (i : Int) else idxN p r (i + 1)
theorem idxO_val {α : Type} {F : α → Option Bool} {p : α → Bool} : ∀ (l : List α) (i : Nat), (∀ x ∈ l, F x = some (p x)) → idxO F l i = some (idxN p l i)
  | [], _, _ => rfl
  | x :: r, i, h => by
    simp only [idxO, idxN, h x (List.mem_cons_self ..), Option.bind_some]
    rw [idxO_val r (i + 1) (fun y hy => h y (List.mem_cons_of_mem _ hy))]
    split <;> rfl
theorem idxN_cons {α : Type} (p : α → Bool) (x : α) (r : List α) (i : Nat) : idxN p (x :: r) i = if p x = true then (i : Int) else idxN p r (i + 1) := rfl
theorem idxN_anyP {α : Type} (p : α → Bool) : ∀ (l : List α) (i : Nat), (idxN p l i ≥ 0) ↔ l.any p = true
  | [], _ => by simp [idxN]
  | x :: r, i => by
    rw [idxN_cons]
    by_cases h : p x = true
    · rw [if_pos h, List.any_cons, h]; simp
    · rw [if_neg h, List.any_cons, Bool.eq_false_iff.2 h, Bool.false_or]; exact idxN_anyP p r (i + 1)
theorem idxN_any {α : Type} (p : α → Bool) (l : List α) (i : Nat) : decide (idxN p l i ≥ 0) = l.any p := by
  rw [Bool.eq_iff_iff, decide_eq_true_iff]; exact idxN_anyP p l i
theorem idxN_ge {α : Type} (p : α → Bool) : ∀ (l : List α) (i : Nat), idxN p l i = -1 ∨ (i : Int) ≤ idxN p l i
  | [], _ => .inl rfl
  | x :: r, i => by
    simp only [idxN]
    split
    · exact .inr (Int.le_refl _)
    · rcases idxN_ge p r (i + 1) with h | h
      · exact .inl h
      · exact .inr (by omega)
theorem idxO_any {α : Type} {F : α → Option Bool} {p : α → Bool} {l : List α} (h : ∀ x ∈ l, F x = some (p x)) : ((idxO F l 0).bind fun i => some (decide (i ≥ 0))) = some (l.any p) := by
  rw [idxO_val l 0 h]; simp only [Option.bind_some]; rw [idxN_any]
theorem idxO_Ev {α : Type} {F : Nat → α → Option Bool} {p : α → Bool} : ∀ (l : List α) (i : Nat), (∀ x ∈ l, Ev (fun k => F k x) (p x)) → Ev (fun k => idxO (F k) l i) (idxN p l i)
  | [], _, _ => Ev.now _
  | x :: r, i, h => by
    show Ev (fun k => (F k x).bind fun b => if b = true then some (i : Int) else idxO (F k) r (i + 1)) _
    refine Ev.bind (h x (List.mem_cons_self ..)) ?_
    simp only [idxN]
    refine Ev.cases (fun hp => Ev.some (by rw [if_pos hp])) (fun hp => ?_)
    rw [if_neg hp]
    exact idxO_Ev r (i + 1) (fun y hy => h y (List.mem_cons_of_mem _ hy))
theorem idxAny_Ev {α : Type} {F : Nat → α → Option Bool} {p : α → Bool} {l : List α} (h : ∀ x ∈ l, Ev (fun k => F k x) (p x)) : Ev (fun k => (idxO (F k) l 0).bind fun i => some (decide (i ≥ 0))) (l.any p) := by
  refine Ev.bind (idxO_Ev l 0 h) (Ev.some ?_)
  exact idxN_any p l 0

def okLI (l : List Int) : Prop := l.length ≤ 1048576
def bigLI (l : List Int) : Prop := l.length ≤ 9223372036854775807
theorem laws_eqIntS.ev (x y : List Int) (hx : x.length ≤ 9223372036854775807) : Ev (fun k => laws_eqIntS.f k x y) (decide (x = y)) := by
  unfold laws_eqIntS.f
  refine Ev.cases (fun hl => ?_) (fun hl => Ev.some ?_)
  · have hl' : x.length = y.length := by omega
    refine Ev.eq (Ev.up (g := fun k i => laws_eqIntS.l0 k x y i) x.length (fun i => decide (x.drop i = y.drop i)) ?_) (by simp)
    intro i hi ih
    refine Ev.step (fun k => by rw [laws_eqIntS.l0]) ?_
    by_cases hlt : i < x.length
    · refine Ev.pos (by omega) (Ev.pos (by omega) (Ev.pos (by omega) ?_))
      rw [rd_get hlt, rd_get (by omega : i < y.length), w64_succ hlt hx]
      have e : decide (x.drop i = y.drop i) = (decide (x[i] = y[i]) && decide (x.drop (i + 1) = y.drop (i + 1))) := drop_eq_step hlt (by omega)
      rw [e]
      refine Ev.cases (fun he => ?_) (fun he => Ev.some (by rw [decide_eq_false he]; rfl))
      exact Ev.eq (ih hlt) (by rw [decide_eq_true he]; rfl)
    · refine Ev.neg (by omega) (Ev.some ?_)
      rw [List.drop_of_length_le (by omega), List.drop_of_length_le (by omega)]
      simp
  · have : x ≠ y := fun h => hl (by rw [h])
    simp [this]
theorem laws_eqIntS.refl (x : List Int) (hx : okLI x) : Ev (fun k => laws_eqIntS.f k x x) true := Ev.eq (laws_eqIntS.ev x x (by unfold okLI at hx; omega)) (by simp)

theorem laws_markIntS.ev (l : List Int) (k0 : Int) (h0 : 0 ≤ k0) (h1 : k0 + l.length ≤ 9223372036854775807) : Ev (fun k => laws_markIntS.f k l k0) (k0 + l.length, marks k0 l.length) := by
  unfold laws_markIntS.f
  by_cases hb : (l.length : Int) ≤ 9223372036854775807
  · refine Ev.eq (Ev.congr (fun k => ?_) (Ev.up (g := fun k i => laws_markIntS.l0 k (marks k0 i.toNat ++ l.drop i.toNat) (k0 + i) i) l.length (fun _ => (k0 + l.length, marks k0 l.length)) ?_)) rfl
    · simp [marks]
    intro i hi ih
    refine Ev.step (fun k => by rw [laws_markIntS.l0]) ?_
    by_cases hlt : i < l.length
    · refine Ev.pos (by simp [marks_length]; omega) (Ev.pos (by omega) ?_)
      have h2 := ih hlt
      simp only [Int.toNat_natCast] at h2 ⊢
      rw [w64_succ hlt (by omega), w64 (by omega) (by omega), set_mark _ _ _ (marks_length _ _) hlt, ← marks_succ]
      refine Ev.congr (fun k => ?_) h2
      rw [show k0 + (i : Int) + 1 = k0 + ((i + 1 : Nat) : Int) by omega]
    · have : i = l.length := by omega
      subst this
      refine Ev.neg (by simp [marks_length]) (Ev.some ?_)
      simp
  · omega

theorem laws_szIntS.ev (l : List Int) (a : Int) (h0 : 0 ≤ a) (h1 : a ≤ 1048576) (hb : bigLI l) : ∃ r, laws_szIntS.f l a = some r ∧ r ≤ a ∧ (0 ≤ r → okLI l) := by
  have hl : l.length ≤ 9223372036854775807 := hb
  unfold laws_szIntS.f
  rw [w64 (by omega) (by omega)]
  by_cases h : a < l.length
  · exact ⟨-1, by rw [if_pos (by omega)], by omega, fun h => by omega⟩
  · exact ⟨_, by rw [if_neg (by omega)], by omega, fun _ => (by unfold okLI; omega)⟩

theorem laws_szHome.ev (x0 : Int) (x1 : List Int) (a : Int) (g0 : 0 ≤ a) (g1 : a ≤ 1048576) (h1 : bigLI x1) : ∃ r, laws_szHome.f x0 x1 a = some r ∧ r ≤ a ∧ (0 ≤ r → okLI x1) := by
  obtain ⟨r1, e1, b1, o1⟩ := laws_szIntS.ev x1 a g0 g1 h1
  by_cases c1 : r1 < 0
  · exact ⟨-1, by unfold laws_szHome.f; rw [e1]; simp only [Option.bind_some]; rw [if_pos c1], by omega, fun h => by omega⟩
  exact ⟨r1, by unfold laws_szHome.f; rw [e1]; simp only [Option.bind_some]; rw [if_neg c1], by omega, fun h => o1 (by omega)⟩

def okE96 (z : S96) : Prop := okLI z.f1
def okL96 (l : List S96) : Prop := l.length ≤ 1048576 ∧ ∀ z ∈ l, okE96 z
def bigE96 (z : S96) : Prop := bigLI z.f1
def bigL96 (l : List S96) : Prop := l.length ≤ 9223372036854775807 ∧ ∀ z ∈ l, bigE96 z
theorem laws_szHomeS.ev (l : List S96) (a : Int) (h0 : 0 ≤ a) (h1 : a ≤ 1048576) (hb : bigL96 l) : ∃ r, Ev (fun k => laws_szHomeS.f k l a) r ∧ r ≤ a ∧ (0 ≤ r → okL96 l) := by
  obtain ⟨hl, hx⟩ := hb
  unfold laws_szHomeS.f
  rw [w64 (by omega) (by omega)]
  by_cases h : a - l.length < 0
  · exact ⟨-1, Ev.pos h (Ev.now _), by omega, fun h => by omega⟩
  · have key : ∀ d i : Nat, i + d = l.length → ∀ b : Int, 0 ≤ b → b ≤ 1048576 → ∃ r, Ev (fun k => laws_szHomeS.l0 k l b i) r ∧ r ≤ b ∧ (0 ≤ r → ∀ x ∈ l.drop i, okE96 x) := by
      intro d
      induction d with
      | zero =>
        intro i hi b hb0 hb1
        have : i = l.length := by omega
        subst this
        exact ⟨b, Ev.step (fun k => by rw [laws_szHomeS.l0]) (Ev.neg (by omega) (Ev.now _)), by omega, fun _ x hx => by simp at hx⟩
      | succ d ih =>
        intro i hi b hb0 hb1
        have hlt : i < l.length := by omega
        have hz := hx _ (List.getElem_mem hlt)
        obtain ⟨r, hr, h2, h3⟩ := laws_szHome.ev (l[i].f0) (l[i].f1) b hb0 hb1 (hz)
        have e : rd_T96 l (i : Int) = l[i] := getD_nat l _ hlt
        by_cases hr0 : r < 0
        · refine ⟨-1, Ev.step (fun k => by rw [laws_szHomeS.l0]) (Ev.pos (by omega) (Ev.pos (by omega) ?_)), by omega, fun h => by omega⟩
          rw [e]
          exact Ev.bindS hr (Ev.pos hr0 (Ev.now _))
        · obtain ⟨q, hq, h5, h4⟩ := ih (i + 1) (by omega) r (by omega) (by omega)
          refine ⟨q, Ev.step (fun k => by rw [laws_szHomeS.l0]) (Ev.pos (by omega) (Ev.pos (by omega) ?_)), by omega, fun h x hx => ?_⟩
          · rw [e, w64_succ hlt hl]
            exact Ev.bindS hr (Ev.neg hr0 hq)
          · rw [List.drop_eq_getElem_cons hlt] at hx
            rcases List.mem_cons.1 hx with rfl | hx
            · exact h3 (by omega)
            · exact h4 h x hx
    obtain ⟨r, hr, h5, h2⟩ := key l.length 0 (by omega) (a - l.length) (by omega) (by omega)
    exact ⟨r, Ev.neg h hr, by omega, fun h => ⟨by omega, fun x hx => h2 h x (by simpa using hx)⟩⟩

theorem laws_szConfig.ev (x0 : Int) (x1 : List Int) (x2 : List (S96)) (a : Int) (g0 : 0 ≤ a) (g1 : a ≤ 1048576) (h1 : bigLI x1) (h2 : bigL96 x2) : ∃ r, Ev (fun k => laws_szConfig.f k x0 x1 x2 a) r ∧ r ≤ a ∧ (0 ≤ r → okLI x1 ∧ okL96 x2) := by
  obtain ⟨r1, e1, b1, o1⟩ := laws_szIntS.ev x1 a g0 g1 h1
  by_cases c1 : r1 < 0
  · exact ⟨-1, by unfold laws_szConfig.f; refine Ev.bindS e1 ?_; refine Ev.pos c1 ?_; exact Ev.now _, by omega, fun h => by omega⟩
  obtain ⟨r2, e2, b2, o2⟩ := laws_szHomeS.ev x2 r1 (by omega) (by omega) h2
  by_cases c2 : r2 < 0
  · exact ⟨-1, by unfold laws_szConfig.f; refine Ev.bindS e1 ?_; refine Ev.neg c1 ?_; refine Ev.bind e2 ?_; refine Ev.pos c2 ?_; exact Ev.now _, by omega, fun h => by omega⟩
  exact ⟨r2, by unfold laws_szConfig.f; refine Ev.bindS e1 ?_; refine Ev.neg c1 ?_; refine Ev.bind e2 ?_; refine Ev.neg c2 ?_; exact Ev.now _, by omega, fun h => ⟨o1 (by omega), o2 (by omega)⟩⟩

theorem laws_toIntS.ev0 (l : List Int) (hl : l.length ≤ 1048576) : Ev (fun k => laws_toIntS.f k l) l := by
  unfold laws_toIntS.f
  refine Ev.pos (by omega) (Ev.pos (by omega) ?_)
  refine Ev.eq (Ev.up (g := fun k i => laws_toIntS.l0 k l (l.take i.toNat ++ List.replicate (l.length - i.toNat) 0) i) l.length (fun _ => l) ?_) rfl
  intro i hi ih
  refine Ev.step (fun k => by rw [laws_toIntS.l0]) ?_
  by_cases hlt : i < l.length
  · refine Ev.pos (by omega) (Ev.pos (by omega) (Ev.pos (by simp; omega) ?_))
    rw [rd_get hlt, w64_succ hlt (by omega)]
    have h2 := ih hlt
    simp only [Int.toNat_natCast] at h2 ⊢
    rw [set_fill l 0 hlt]
    exact h2
  · refine Ev.neg (by omega) (Ev.some ?_)
    simp only [Int.toNat_natCast]
    have : i = l.length := by omega
    subst this
    simp
theorem laws_toIntS.ev (l : List Int) (hl : okLI l) : Ev (fun k => laws_toIntS.f k l) l := laws_toIntS.ev0 l hl

theorem laws_toHome.ev (x0 : Int) (x1 : List Int) (h1 : okLI x1) : Ev (fun k => laws_toHome.f k x0 x1) (x0, x1) := by
  unfold laws_toHome.f
  exact Ev.bind (laws_toIntS.ev _ h1) (Ev.now _)

def okE80 (z : S80) : Prop := okLI z.f1
def okL80 (l : List S80) : Prop := l.length ≤ 1048576 ∧ ∀ z ∈ l, okE80 z
def bigE80 (z : S80) : Prop := bigLI z.f1
def bigL80 (l : List S80) : Prop := l.length ≤ 9223372036854775807 ∧ ∀ z ∈ l, bigE80 z
def c96 (x : S96) : S80 := ⟨x.f0, x.f1⟩
theorem okE96_map {x : S96} (h : okE96 x) : okE80 (c96 x) := h
theorem okL96_map {l : List S96} (h : okL96 l) : okL80 (l.map c96) := ⟨by simpa using h.1, fun x hx => by obtain ⟨y, hy, rfl⟩ := List.mem_map.1 hx; exact okE96_map (h.2 y hy)⟩
theorem laws_toHomeS.ev (l : List S96) (hb : okL96 l) : Ev (fun k => laws_toHomeS.f k l) (l.map c96) := by
  obtain ⟨hl, hx⟩ := hb
  unfold laws_toHomeS.f
  refine Ev.pos (by omega) (Ev.pos (by omega) ?_)
  refine Ev.eq (Ev.up (g := fun k i => laws_toHomeS.l0 k l ((l.take i.toNat).map c96 ++ List.replicate (l.length - i.toNat) z80) i) l.length (fun _ => l.map c96) ?_) rfl
  intro i hi ih
  refine Ev.step (fun k => by rw [laws_toHomeS.l0]) ?_
  by_cases hlt : i < l.length
  · have h2 := ih hlt
    have h3 := hx _ (List.getElem_mem hlt)
    simp only [Int.toNat_natCast] at h2 ⊢
    have e : rd_T96 l (i : Int) = l[i] := getD_nat l _ hlt
    rw [e, w64_succ hlt (by omega)]
    refine Ev.pos (by omega) (Ev.pos (by omega) (Ev.bind (laws_toHome.ev (l[i].f0) (l[i].f1) (h3)) (Ev.pos (by rw [fill_len _ _ _ _ hi]; omega) ?_)))
    refine Ev.congr (fun k => ?_) h2
    rw [← set_fillM c96 l z80 hlt]; rfl
  · have : i = l.length := by omega
    subst this
    refine Ev.neg (by omega) (Ev.some ?_)
    simp only [Int.toNat_natCast]
    exact fill_end _ _ _

theorem laws_toConfig.ev (x0 : Int) (x1 : List Int) (x2 : List (S96)) (h1 : okLI x1) (h2 : okL96 x2) : Ev (fun k => laws_toConfig.f k x0 x1 x2) (x0, x1, x2.map c96) := by
  unfold laws_toConfig.f
  exact Ev.bind (laws_toIntS.ev _ h1) (Ev.bind (laws_toHomeS.ev _ h2) (Ev.now _))

theorem laws_eqHome.refl (x0 : Int) (x1 : List Int) (h1 : okLI x1) : Ev (fun k => laws_eqHome.f k x0 x1 x0 x1) true := by
  unfold laws_eqHome.f
  exact (Ev.pos rfl (Ev.bind (laws_eqIntS.refl _ h1) (Ev.pos rfl (Ev.now _))))

theorem laws_eqHomeS.refl (x : List S80) (hx : okL80 x) : Ev (fun k => laws_eqHomeS.f k x x) true := by
  unfold laws_eqHomeS.f
  refine Ev.pos rfl (Ev.eq (Ev.up (g := fun k i => laws_eqHomeS.l0 k x x i) x.length (fun _ => true) ?_) rfl)
  intro i hi ih
  refine Ev.step (fun k => by rw [laws_eqHomeS.l0]) ?_
  by_cases hlt : i < x.length
  · have e : rd_T80 x (i : Int) = x[i] := getD_nat x _ hlt
    have h3 := hx.2 _ (List.getElem_mem hlt)
    have h1 := hx.1
    rw [e, w64_succ hlt (by omega)]
    exact Ev.pos (by omega) (Ev.pos (by omega) (Ev.pos (by omega) (Ev.bind (laws_eqHome.refl (x[i].f0) (x[i].f1) (h3)) (Ev.pos rfl (ih hlt)))))
  · exact Ev.neg (by omega) (Ev.now _)

theorem laws_eqConfig.refl (x0 : Int) (x1 : List Int) (x2 : List (S80)) (h1 : okLI x1) (h2 : okL80 x2) : Ev (fun k => laws_eqConfig.f k x0 x1 x2 x0 x1 x2) true := by
  unfold laws_eqConfig.f
  exact (Ev.pos rfl (Ev.bind (laws_eqIntS.refl _ h1) (Ev.pos rfl (Ev.bind (laws_eqHomeS.refl _ h2) (Ev.pos rfl (Ev.now _))))))

theorem spec_l1In.ev (n a b : Int) : spec_l1In.f n a b = some (inB n a b) := by
  unfold spec_l1In.f inB
  by_cases h : a ≤ n
  · rw [if_pos h]; simp [h]
  · rw [if_neg h]; simp [h]

theorem spec_l16Node.ev (n : Int) : spec_l16Node.f n = some (inB n 0 11) := by
  unfold spec_l16Node.f
  rw [spec_l1In.ev]; rfl

/-- The number at place i is a node's, and greater than the one ahead. -/
def rise (l : List Int) (i : Nat) : Bool := inB (rd l i) 0 11 && (decide (i = 0) || decide (rd l ((i : Int) - 1) < rd l i))
def ris (l : List Int) : Bool := allFrom (rise l) l.length 0
theorem ris_ge {l : List Int} (h : ris l = true) : ∀ i : Nat, i < l.length → (i : Int) ≤ rd l i ∧ rd l i ≤ 11 := by
  have h' := allFrom_iff.1 h
  intro i
  induction i with
  | zero =>
    intro hi
    have := h' 0 (by omega) hi
    simp only [rise, Bool.and_eq_true, inB_iff] at this
    omega
  | succ i ih =>
    intro hi
    have h1 := ih (by omega)
    have := h' (i + 1) (by omega) hi
    simp only [rise, Bool.and_eq_true, inB_iff, Bool.or_eq_true, decide_eq_true_eq] at this
    obtain ⟨h2, h3⟩ := this
    rcases h3 with h3 | h3
    · omega
    · rw [show ((i + 1 : Nat) : Int) - 1 = (i : Int) by omega] at h3
      omega
theorem ris_len {l : List Int} (h : ris l = true) : l.length ≤ 12 := by
  rcases Nat.lt_or_ge 12 l.length with h1 | h1
  · have := ris_ge h 12 h1
    omega
  · exact h1
theorem spec_l16Rising.ev (l : List Int) (m : Int) (hl : l.length ≤ 1048576) : Ev (fun k => spec_l16Rising.f k l m) (ris l && decide ((l.length : Int) ≤ m)) := by
  unfold spec_l16Rising.f ris
  refine Ev.eq (Ev.up (g := fun k i => spec_l16Rising.l0 k l m l (l.length : Int) i) l.length (fun i => allFrom (rise l) l.length i && decide ((l.length : Int) ≤ m)) ?_) rfl
  intro i hi ih
  refine Ev.step (fun k => by rw [spec_l16Rising.l0]) ?_
  by_cases hlt : i < l.length
  · refine Ev.pos (by omega) (Ev.pos (by omega) (Ev.pos (by omega) (Ev.bindS (spec_l16Node.ev _) ?_)))
    rw [allFrom_step hlt]
    have ih := ih hlt
    generalize allFrom (rise l) l.length (i + 1) = q at ih ⊢
    unfold rise
    refine Ev.cases (fun h1 => ?_) (fun h1 => Ev.some (by simp at h1; simp [h1]))
    rw [h1, w64_succ hlt (by omega)]
    refine Ev.cases (fun h2 => ?_) (fun h2 => Ev.eq ih (by rw [decide_eq_true (by omega : i = 0)]; simp))
    rw [w64 (by omega) (by omega)]
    refine Ev.pos (by omega) (Ev.pos (by omega) (Ev.cases (fun h3 => Ev.some ?_) (fun h3 => Ev.eq ih ?_)))
    · rw [decide_eq_false (by omega : ¬ i = 0), decide_eq_false (by omega)]; simp
    · rw [decide_eq_true (by omega : rd l ((i : Int) - 1) < rd l i)]; simp
  · have : i = l.length := by omega
    subst this
    refine Ev.neg (by omega) (Ev.some ?_)
    rw [allFrom_end, Bool.true_and]

theorem spec_l1Has.ev (l : List Int) (a : Int) (hl : l.length ≤ 1048576) : Ev (fun k => spec_l1Has.f k l a) (l.contains a) := by
  unfold spec_l1Has.f
  refine Ev.eq (Ev.up (g := fun k i => spec_l1Has.l0 k a l (l.length : Int) i) l.length (fun i => (l.drop i).contains a) ?_) (by simp)
  intro i hi ih
  refine Ev.step (fun k => by rw [spec_l1Has.l0]) ?_
  by_cases hlt : i < l.length
  · rw [List.drop_eq_getElem_cons hlt, List.contains_cons, w64_succ hlt (by omega), rd_get hlt]
    refine Ev.pos (by omega) (Ev.pos (by omega) (Ev.pos (by omega) (Ev.cases (fun h => Ev.some ?_) (fun h => Ev.eq (ih hlt) ?_))))
    · have : (a == l[i]) = true := by simpa using h.symm
      rw [this]; rfl
    · have : (a == l[i]) = false := by simpa using fun e => h e.symm
      rw [this]; rfl
  · exact Ev.neg (by omega) (Ev.some (by rw [List.drop_of_length_le (by omega)]; rfl))

def okHome (dn : List Int) (h : S80) : Bool := inB h.f0 (-1) 11 && (ris h.f1 && decide ((h.f1.length : Int) ≤ 11)) && !(h.f1.contains h.f0) && !(dn.contains h.f0) && !(decide (h.f0 = -1) && decide ((h.f1.length : Int) > 0)) && h.f1.all (fun x => !(dn.contains x))
def goodCfg (n : Int) (dn : List Int) (l : List S80) : Bool := inB n 1 1000000 && (ris dn && decide ((dn.length : Int) ≤ 12)) && inB (l.length : Int) 1 8 && l.all (okHome dn)
theorem spec_GoodConfig.ev (n : Int) (dn : List Int) (l : List S80) (hd : okLI dn) (hl : okL80 l) : Ev (fun k => spec_GoodConfig.f k n dn l) (goodCfg n dn l) := by
  have hd' : dn.length ≤ 1048576 := hd
  have no : Ev (fun k => spec_GoodConfig.j0 k true n dn l) false := by
    refine Ev.step (fun k => by rw [spec_GoodConfig.j0]) ?_
    exact Ev.pos rfl (Ev.now _)
  unfold spec_GoodConfig.f goodCfg
  refine Ev.bindS (spec_l1In.ev _ _ _) (Ev.cases (fun h1 => ?_) (fun h1 => Ev.eq no (by simp at h1; simp [h1])))
  refine Ev.bind (spec_l16Rising.ev dn 12 hd') (Ev.cases (fun h2 => ?_) (fun h2 => Ev.eq no (by rw [Bool.eq_false_iff.2 h2]; simp)))
  refine Ev.bindS (spec_l1In.ev _ _ _) ?_
  rw [h1, h2]
  cases h3 : inB (l.length : Int) 1 8 with
  | false => exact Ev.eq no (by simp)
  | true =>
    have h3' := inB_iff.1 h3
    refine Ev.step (fun k => by rw [spec_GoodConfig.j0]) ?_
    refine Ev.neg (by simp) ?_
    refine Ev.eq (Ev.up (g := fun k i => spec_GoodConfig.l0 k l (l.length : Int) i n dn l) l.length (fun i => (l.drop i).all (okHome dn)) ?_) (by simp)
    intro i hi ih
    refine Ev.step (fun k => by rw [spec_GoodConfig.l0]) ?_
    by_cases hlt : i < l.length
    · have ih := ih hlt
      have e : rd_T80 l (i : Int) = l[i] := getD_nat l _ hlt
      have hz : (l[i]).f1.length ≤ 1048576 := hl.2 _ (List.getElem_mem hlt)
      rw [all_take_succ l _ hlt, e]
      generalize l[i] = z at hz ⊢
      generalize (l.drop (i + 1)).all (okHome dn) = q at ih ⊢
      have bad : okHome dn z = false → Ev (fun k => spec_GoodConfig.j2 k l (l.length : Int) (i : Int) true n dn l z.f0 z.f1) (okHome dn z && q) := by
        intro hb
        rw [hb]
        refine Ev.step (fun k => by rw [spec_GoodConfig.j2]) ?_
        exact Ev.pos rfl (Ev.now _)
      have on : ∀ b : Bool, (b = true → okHome dn z = false) → (b = false → okHome dn z = z.f1.all (fun x => !(dn.contains x))) → Ev (fun k => spec_GoodConfig.j2 k l (l.length : Int) (i : Int) b n dn l z.f0 z.f1) (okHome dn z && q) := by
        intro b hb1 hb2
        cases b with
        | true => exact bad (hb1 rfl)
        | false =>
          rw [hb2 rfl]
          refine Ev.step (fun k => by rw [spec_GoodConfig.j2]) ?_
          refine Ev.neg (by simp) ?_
          refine Ev.eq (Ev.up (g := fun k j => spec_GoodConfig.l1 k l (l.length : Int) (i : Int) z.f1 (z.f1.length : Int) j n dn l) z.f1.length (fun j => (z.f1.drop j).all (fun x => !(dn.contains x)) && q) ?_) (by simp)
          intro j hj jh
          refine Ev.step (fun k => by rw [spec_GoodConfig.l1]) ?_
          by_cases hjl : j < z.f1.length
          · have jh := jh hjl
            rw [all_take_succ z.f1 _ hjl, rd_get hjl, w64_succ hjl (by omega)]
            refine Ev.pos (by omega) (Ev.pos (by omega) (Ev.pos (by omega) (Ev.bind (spec_l1Has.ev dn _ hd') (Ev.cases (fun h => Ev.some (by rw [h]; simp)) (fun h => Ev.eq jh (by simp at h; simp [h]))))))
          · refine Ev.neg (by omega) ?_
            rw [w64_succ hlt (by omega), List.drop_of_length_le (by omega)]
            exact Ev.eq ih (by simp)
      refine Ev.pos (by omega) (Ev.pos (by omega) (Ev.pos (by omega) (Ev.bindS (spec_l1In.ev _ _ _) ?_)))
      refine Ev.cases (fun g1 => ?_) (fun g1 => bad (by unfold okHome; rw [Bool.eq_false_iff.2 g1]; simp))
      refine Ev.bind (spec_l16Rising.ev z.f1 11 hz) (Ev.cases (fun g2 => ?_) (fun g2 => bad (by unfold okHome; rw [Bool.eq_false_iff.2 g2]; simp)))
      refine Ev.bind (spec_l1Has.ev z.f1 z.f0 hz) (Ev.cases (fun g3 => bad (by unfold okHome; rw [g3]; simp)) (fun g3 => ?_))
      refine Ev.bind (spec_l1Has.ev dn z.f0 hd') (Ev.cases (fun g4 => bad (by unfold okHome; rw [g4]; simp)) (fun g4 => ?_))
      have g3 := Bool.eq_false_iff.2 g3
      have g4 := Bool.eq_false_iff.2 g4
      refine Ev.cases (fun g5 => on _ (fun g6 => ?_) (fun g6 => ?_)) (fun g5 => on _ (fun g6 => by cases g6) (fun _ => ?_))
      · unfold okHome; rw [decide_eq_true g5, g6]; simp
      · unfold okHome; rw [g1, g2, g3, g4, g6]; simp
      · unfold okHome; rw [g1, g2, g3, g4, decide_eq_false g5]; simp
    · refine Ev.neg (by omega) (Ev.some ?_)
      rw [List.drop_of_length_le (by omega)]; rfl

def movedF (hs gs : List S80) : Nat → Nat → List Int
  | _, 0 => []
  | i, m + 1 => if (rd_T80 hs (i : Int)).f0 = (rd_T80 gs (i : Int)).f0 then movedF hs gs (i + 1) m else (i : Int) :: movedF hs gs (i + 1) m
theorem movedF_len (hs gs : List S80) : ∀ m i, (movedF hs gs i m).length ≤ m := by
  intro m
  induction m with
  | zero => intro i; simp [movedF]
  | succ m ih => intro i; have := ih (i + 1); unfold movedF; split <;> simp <;> omega
def movedP (n : Int) (dn : List Int) (hs : List S80) (m : Int) (dm : List Int) (gs : List S80) : List Int × Bool :=
  if goodCfg n dn hs = true ∧ goodCfg m dm gs = true ∧ hs.length = gs.length then (movedF hs gs 0 hs.length, true) else ([], false)
theorem spec_MovedParts.go (n : Int) (dn : List Int) (hs : List S80) (m : Int) (dm : List Int) (gs : List S80) (hl : hs.length = gs.length) (hb : hs.length ≤ 1048576) : ∀ (d i : Nat) (acc : List Int), i + d = hs.length → acc.length ≤ i →
    Ev (fun k => spec_MovedParts.l0 k acc (hs.length : Int) (i : Int) n dn hs m dm gs) (acc ++ movedF hs gs i d, true) := by
  intro d
  induction d with
  | zero =>
    intro i acc h1 h2
    exact Ev.step (fun k => by rw [spec_MovedParts.l0]) (Ev.neg (by omega) (Ev.some (by simp [movedF])))
  | succ d ih =>
    intro i acc h1 h2
    have hlt : i < hs.length := by omega
    refine Ev.step (fun k => by rw [spec_MovedParts.l0]) (Ev.pos (by omega) (Ev.pos (by omega) (Ev.pos (by omega) (Ev.pos (by omega) ?_))))
    rw [w64_succ hlt (by omega)]
    unfold movedF
    refine Ev.cases (fun he => ?_) (fun he => ?_)
    · rw [if_pos he]; exact ih (i + 1) acc (by omega) (by omega)
    · rw [if_neg he]
      refine Ev.pos (by omega) (Ev.eq (ih (i + 1) (acc ++ [(i : Int)]) (by omega) (by simp; omega)) (by simp))
theorem spec_MovedParts.ev (n : Int) (dn : List Int) (hs : List S80) (m : Int) (dm : List Int) (gs : List S80) (h1 : okLI dn) (h2 : okL80 hs) (h3 : okLI dm) (h4 : okL80 gs) : Ev (fun k => spec_MovedParts.f k n dn hs m dm gs) (movedP n dn hs m dm gs) := by
  unfold spec_MovedParts.f movedP
  have no : Ev (fun k => spec_MovedParts.j0 k true n dn hs m dm gs) ([], false) := Ev.step (fun k => by rw [spec_MovedParts.j0]) (Ev.pos rfl (Ev.now _))
  refine Ev.bind (spec_GoodConfig.ev n dn hs h1 h2) (Ev.cases (fun g1 => ?_) (fun g1 => Ev.eq no (by rw [if_neg (fun h => g1 h.1)])))
  refine Ev.bind (spec_GoodConfig.ev m dm gs h3 h4) (Ev.cases (fun g2 => ?_) (fun g2 => Ev.eq no (by rw [if_neg (fun h => g2 h.2.1)])))
  by_cases hl : hs.length = gs.length
  · rw [show ((hs.length : Int) != (gs.length : Int)) = false from by simp [hl], if_pos ⟨g1, g2, hl⟩]
    refine Ev.step (fun k => by rw [spec_MovedParts.j0]) (Ev.neg (by simp) ?_)
    exact spec_MovedParts.go n dn hs m dm gs hl h2.1 hs.length 0 [] (by omega) (by simp)
  · rw [show ((hs.length : Int) != (gs.length : Int)) = true from by simp; omega, if_neg (fun h => hl h.2.2)]
    exact no

theorem impl_in.ev (n a b : Int) : impl_in.f n a b = some (inB n a b) := by
  unfold impl_in.f inB
  by_cases h : a ≤ n
  · rw [if_pos h]; simp [h]
  · rw [if_neg h]; simp [h]

theorem impl_areRising.ev (l : List Int) (hl : l.length ≤ 1048576) : Ev (fun k => impl_areRising.f k l 12) (ris l) := by
  unfold impl_areRising.f ris
  refine Ev.eq (Ev.up (g := fun k i => impl_areRising.l0 k l 12 l (l.length : Int) i) l.length (fun i => allFrom (rise l) l.length i) ?_) rfl
  intro i hi ih
  refine Ev.step (fun k => by rw [impl_areRising.l0]) ?_
  by_cases hlt : i < l.length
  · refine Ev.pos (by omega) (Ev.pos (by omega) (Ev.pos (by omega) (Ev.bindS (impl_in.ev _ _ _) ?_)))
    rw [allFrom_step hlt]
    have ih := ih hlt
    generalize allFrom (rise l) l.length (i + 1) = q at ih ⊢
    unfold rise
    rw [show wrap64 ((12 : Int) - 1) = 11 from w64 (by omega) (by omega)]
    refine Ev.cases (fun h1 => ?_) (fun h1 => Ev.some (by simp at h1; simp [h1]))
    rw [h1, w64_succ hlt (by omega)]
    refine Ev.cases (fun h2 => ?_) (fun h2 => Ev.eq ih (by rw [decide_eq_true (by omega : i = 0)]; simp))
    rw [w64 (by omega) (by omega)]
    refine Ev.pos (by omega) (Ev.pos (by omega) (Ev.cases (fun h3 => Ev.some ?_) (fun h3 => Ev.eq ih ?_)))
    · rw [decide_eq_false (by omega : ¬ i = 0), decide_eq_false (by omega)]; simp
    · rw [decide_eq_true (by omega : rd l ((i : Int) - 1) < rd l i)]; simp
  · have : i = l.length := by omega
    subst this
    exact Ev.neg (by omega) (Ev.some (by rw [allFrom_end]))

theorem any_contains (x : Int) : ∀ l : List Int, l.any (fun y => decide (x = y)) = l.contains x
  | [] => rfl
  | a :: l => by rw [List.any_cons, List.contains_cons, any_contains x l]; rfl
theorem slices_Index_int_int.ev (l : List Int) (x : Int) (hl : l.length ≤ 1048576) : Ev (fun k => slices_Index_int_int.f k l x) (idxN (fun y => decide (x = y)) l 0) := by
  unfold slices_Index_int_int.f
  refine Ev.eq (Ev.up (g := fun k i => slices_Index_int_int.l0 k l x (l.length : Int) i) l.length (fun i => idxN (fun y => decide (x = y)) (l.drop i) i) ?_) (by simp)
  intro i hi ih
  refine Ev.step (fun k => by rw [slices_Index_int_int.l0]) ?_
  by_cases hlt : i < l.length
  · rw [List.drop_eq_getElem_cons hlt, idxN_cons, rd_get hlt, w64_succ hlt (by omega)]
    refine Ev.pos (by omega) (Ev.pos (by omega) (Ev.pos (by omega) (Ev.cases (fun h => Ev.some (by rw [if_pos (by simpa using h)])) (fun h => ?_))))
    rw [if_neg (by simpa using h)]
    exact ih hlt
  · refine Ev.neg (by omega) (Ev.some ?_)
    rw [List.drop_of_length_le (by omega)]; rfl

theorem slices_Contains_int_int.ev (l : List Int) (x : Int) (hl : l.length ≤ 1048576) : Ev (fun k => slices_Contains_int_int.f k l x) (l.contains x) := by
  unfold slices_Contains_int_int.f
  refine Ev.bind (slices_Index_int_int.ev l x hl) (Ev.some ?_)
  rw [idxN_any, any_contains]

theorem impl_isConfig_1_1.ev (x n : Int) (dn : List Int) (l : List S80) (hd : okLI dn) : Ev (fun k => impl_isConfig_1_1.f k x n dn l) (dn.contains x) := by
  unfold impl_isConfig_1_1.f
  exact Ev.bind (slices_Contains_int_int.ev dn x hd) (Ev.now _)

theorem has_impl_isConfig_1_1.ev (b : List Int) (n : Int) (dn : List Int) (l : List S80) (hd : okLI dn) : Ev (fun k => has_impl_isConfig_1_1.f k b n dn l) (b.any (fun x => dn.contains x)) := by
  unfold has_impl_isConfig_1_1.f
  exact idxAny_Ev (fun x _ => impl_isConfig_1_1.ev x n dn l hd)

theorem any_not_all (p : Int → Bool) : ∀ l : List Int, l.any p = !(l.all (fun x => !(p x)))
  | [] => rfl
  | a :: l => by rw [List.any_cons, List.all_cons, any_not_all p l]; cases p a <;> simp
theorem impl_isConfig_1.ev (z : S80) (n : Int) (dn : List Int) (l : List S80) (hd : okLI dn) (hz : okE80 z) : Ev (fun k => impl_isConfig_1.f k z.f0 z.f1 n dn l) (!(okHome dn z)) := by
  have hz' : z.f1.length ≤ 1048576 := hz
  unfold impl_isConfig_1.f
  refine Ev.bind (has_impl_isConfig_1_1.ev z.f1 n dn l hd) (Ev.bindS (impl_in.ev _ _ _) ?_)
  refine Ev.cases (fun g1 => ?_) (fun g1 => Ev.some (by unfold okHome; rw [Bool.eq_false_iff.2 g1]; simp))
  refine Ev.bind (slices_Contains_int_int.ev dn z.f0 hd) (Ev.cases (fun g2 => Ev.some (by unfold okHome; rw [g2]; simp)) (fun g2 => ?_))
  have g2 := Bool.eq_false_iff.2 g2
  refine Ev.cases (fun g3 => Ev.some ?_) (fun g3 => ?_)
  · rw [any_not_all] at g3
    have g3 : z.f1.all (fun x => !(dn.contains x)) = false := by simpa using g3
    unfold okHome; rw [g3]; simp
  have g3 : z.f1.all (fun x => !(dn.contains x)) = true := by rw [any_not_all] at g3; simpa using g3
  refine Ev.cases (fun g4 => Ev.some (by unfold okHome; rw [decide_eq_false (by omega : ¬ (z.f1.length : Int) ≤ 11)]; simp)) (fun g4 => ?_)
  refine Ev.bind (impl_areRising.ev z.f1 hz') (Ev.cases (fun g5 => ?_) (fun g5 => Ev.some (by unfold okHome; rw [Bool.eq_false_iff.2 g5]; simp)))
  refine Ev.bind (slices_Contains_int_int.ev z.f1 z.f0 hz') (Ev.cases (fun g6 => Ev.some (by unfold okHome; rw [g6]; simp)) (fun g6 => ?_))
  have g6 := Bool.eq_false_iff.2 g6
  have e : okHome dn z = !(decide (z.f0 = -1) && decide ((z.f1.length : Int) > 0)) := by
    unfold okHome; rw [g1, g2, g3, g5, g6, decide_eq_true (by omega : (z.f1.length : Int) ≤ 11)]; simp
  have g1 := inB_iff.1 g1
  rw [e]
  refine Ev.cases (fun g7 => Ev.some (by rw [decide_eq_true (by omega : z.f0 = -1)]; simp)) (fun g7 => Ev.some (by rw [decide_eq_false (by omega : ¬ z.f0 = -1)]; simp))

theorem any_not_allH (p : S80 → Bool) : ∀ l : List S80, l.any (fun z => !(p z)) = !(l.all p)
  | [] => rfl
  | a :: l => by rw [List.any_cons, List.all_cons, any_not_allH p l]; cases p a <;> simp
theorem has_impl_isConfig_1.ev (b : List S80) (n : Int) (dn : List Int) (l : List S80) (hd : okLI dn) (hb : okL80 b) : Ev (fun k => has_impl_isConfig_1.f k b n dn l) (!(b.all (okHome dn))) := by
  unfold has_impl_isConfig_1.f
  refine Ev.eq (idxAny_Ev (p := fun z => !(okHome dn z)) (fun x hx => impl_isConfig_1.ev x n dn l hd (hb.2 x hx))) ?_
  exact any_not_allH _ _

theorem impl_isConfig.ev (n : Int) (dn : List Int) (l : List S80) (hd : okLI dn) (hl : okL80 l) : Ev (fun k => impl_isConfig.f k n dn l) (goodCfg n dn l) := by
  unfold impl_isConfig.f goodCfg
  refine Ev.bindS (impl_in.ev _ _ _) (Ev.cases (fun h1 => ?_) (fun h1 => Ev.some (by simp at h1; simp [h1])))
  refine Ev.bind (impl_areRising.ev dn hd) (Ev.cases (fun h2 => ?_) (fun h2 => Ev.some (by rw [Bool.eq_false_iff.2 h2]; simp)))
  refine Ev.bindS (impl_in.ev _ _ _) (Ev.cases (fun h3 => ?_) (fun h3 => Ev.some (by rw [Bool.eq_false_iff.2 h3]; simp)))
  refine Ev.bind (has_impl_isConfig_1.ev l n dn l hd hl) (Ev.some ?_)
  have := ris_len h2
  rw [h1, h2, h3, decide_eq_true (by omega : (dn.length : Int) ≤ 12)]; simp

theorem impl_MovedParts.go (n : Int) (dn : List Int) (hs : List S80) (m : Int) (dm : List Int) (gs : List S80) (hl : hs.length = gs.length) (hb : hs.length ≤ 1048576) : ∀ (d i : Nat) (acc : List Int), i + d = hs.length → acc.length ≤ i →
    Ev (fun k => impl_MovedParts.l0 k acc hs (hs.length : Int) (i : Int) m dm gs) (acc ++ movedF hs gs i d, true) := by
  intro d
  induction d with
  | zero =>
    intro i acc h1 h2
    exact Ev.step (fun k => by rw [impl_MovedParts.l0]) (Ev.neg (by omega) (Ev.some (by simp [movedF])))
  | succ d ih =>
    intro i acc h1 h2
    have hlt : i < hs.length := by omega
    refine Ev.step (fun k => by rw [impl_MovedParts.l0]) (Ev.pos (by omega) (Ev.pos (by omega) (Ev.pos (by omega) (Ev.pos (by omega) ?_))))
    rw [w64_succ hlt (by omega)]
    unfold movedF
    refine Ev.cases (fun he => ?_) (fun he => ?_)
    · rw [if_pos he]; exact ih (i + 1) acc (by omega) (by omega)
    · rw [if_neg he]
      refine Ev.pos (by omega) (Ev.eq (ih (i + 1) (acc ++ [(i : Int)]) (by omega) (by simp; omega)) (by simp))
theorem impl_MovedParts.ev (n : Int) (dn : List Int) (hs : List S80) (m : Int) (dm : List Int) (gs : List S80) (h1 : okLI dn) (h2 : okL80 hs) (h3 : okLI dm) (h4 : okL80 gs) : Ev (fun k => impl_MovedParts.f k n dn hs m dm gs) (movedP n dn hs m dm gs) := by
  unfold impl_MovedParts.f movedP
  have no : Ev (fun k => impl_MovedParts.j0 k true n dn hs m dm gs) ([], false) := Ev.step (fun k => by rw [impl_MovedParts.j0]) (Ev.pos rfl (Ev.now _))
  refine Ev.bind (impl_isConfig.ev n dn hs h1 h2) (Ev.cases (fun g1 => ?_) (fun g1 => Ev.eq no (by rw [if_neg (fun h => g1 h.1)])))
  refine Ev.bind (impl_isConfig.ev m dm gs h3 h4) (Ev.cases (fun g2 => ?_) (fun g2 => Ev.eq no (by rw [if_neg (fun h => g2 h.2.1)])))
  by_cases hl : hs.length = gs.length
  · rw [show ((hs.length : Int) != (gs.length : Int)) = false from by simp [hl], if_pos ⟨g1, g2, hl⟩]
    refine Ev.step (fun k => by rw [impl_MovedParts.j0]) (Ev.neg (by simp) ?_)
    exact impl_MovedParts.go n dn hs m dm gs hl h2.1 hs.length 0 [] (by omega) (by simp)
  · rw [show ((hs.length : Int) != (gs.length : Int)) = true from by simp; omega, if_neg (fun h => hl h.2.2)]
    exact no

theorem laws_heldIntS.ev (n : Nat) (k0 : Int) (h0 : -9223372036854775808 ≤ k0) (h1 : k0 + n ≤ 9223372036854775807) (hn : n ≤ 9223372036854775807) : Ev (fun k => laws_heldIntS.f k (marks k0 n) k0) (k0 + n) := by
  unfold laws_heldIntS.f
  refine Ev.eq (Ev.congr (fun k => ?_) (Ev.up (g := fun k i => laws_heldIntS.l0 k (marks k0 n) (k0 + i) i) n (fun _ => k0 + (n : Int)) ?_)) rfl
  · simp
  intro i hi ih
  refine Ev.step (fun k => by rw [laws_heldIntS.l0]) ?_
  by_cases hlt : i < n
  · refine Ev.pos (by rw [marks_length]; omega) (Ev.pos (by omega) (Ev.pos (marks_get hlt) ?_))
    have h2 := ih hlt
    rw [w64_succ hlt hn, w64 (by omega) (by omega)]
    refine Ev.congr (fun k => ?_) h2
    rw [show k0 + (i : Int) + 1 = k0 + ((i + 1 : Nat) : Int) by omega]
  · have : i = n := by omega
    subst this
    exact Ev.neg (by rw [marks_length]; omega) (Ev.some rfl)
theorem laws_markIntS.two (l : List Int) (k0 : Int) (h0 : 0 ≤ k0) (h1 : k0 + (l.length : Int) ≤ 9223372036854775807) (h2 : l.length ≤ 9223372036854775807) : ∃ l' : List Int, l'.length = l.length ∧ Ev (fun k => laws_markIntS.f k l k0) (k0 + (l.length : Int), l') ∧ Ev (fun k => laws_heldIntS.f k l' k0) (k0 + (l.length : Int)) :=
  ⟨marks k0 l.length, marks_length _ _, laws_markIntS.ev l k0 h0 (by omega), laws_heldIntS.ev l.length k0 (by omega) (by omega) (by omega)⟩

def mc80 (x : S80) : Nat := 1 + (x.f1).length
def ms80 : List S80 → Nat
  | [] => 0
  | x :: r => mc80 x + ms80 r
def mok80 (l : List S80) : Prop := ∀ x ∈ l, x.f1.length ≤ 1048576
theorem laws_markHomeS.go (r : List S80) : mok80 r → ∀ (p q : List S80) (k0 : Int), 0 ≤ k0 → k0 + (ms80 r : Int) ≤ 9223372036854775807 → p.length + r.length ≤ 9223372036854775807 → q.length = p.length →
    ∃ r' : List S80, r'.length = r.length ∧ Ev (fun k => laws_markHomeS.l0 k (p ++ r) k0 (p.length : Int)) (k0 + (ms80 r : Int), p ++ r') := by
  induction r with
  | nil =>
    intro _ p q k0 h0 h1 h2 hq
    refine ⟨[], rfl, ?_⟩
    · exact Ev.step (fun k => by rw [laws_markHomeS.l0]) (Ev.neg (by simp) (Ev.some (by simp [ms80])))
  | cons x r ih =>
    intro hok p q k0 h0 h1 h2 hq
    have hx := hok x (List.mem_cons_self ..)
    have ih := ih (fun z hz => hok z (List.mem_cons_of_mem _ hz))
    have hms : ms80 (x :: r) = mc80 x + ms80 r := rfl
    simp only [mc80] at hms
    simp only [List.length_cons] at h2
    have hx1 := hx
    have e1 : wrap64 (k0 + 1) = k0 + 1 := w64 (by omega) (by omega)
    obtain ⟨l1, hl1, hm1, hh1⟩ := laws_markIntS.two x.f1 (k0 + 1) (by omega) (by omega) (by omega)
    obtain ⟨r', hr', hm⟩ := ih (p ++ [(⟨k0, l1⟩ : S80)]) (q ++ [(⟨k0, l1⟩ : S80)]) (k0 + 1 + ((x.f1).length : Int)) (by omega) (by omega) (by simp; omega) (by simp [hq])
    have ep : wrap64 ((p.length : Int) + 1) = (((p ++ [(⟨k0, l1⟩ : S80)]).length : Nat) : Int) := by rw [w64 (by omega) (by omega)]; simp
    have eq : wrap64 ((q.length : Int) + 1) = (((q ++ [(⟨k0, l1⟩ : S80)]).length : Nat) : Int) := by rw [w64 (by omega) (by omega)]; simp
    have rdp : ∀ (y : S80) (r : List S80), rd_T80 (p ++ y :: r) (p.length : Int) = y := fun y r => by simp [rd_T80]
    have rdq : rd_T80 (q ++ (⟨k0, l1⟩ : S80) :: r') (q.length : Int) = (⟨k0, l1⟩ : S80) := by simp [rd_T80]
    have stp : ∀ (y z : S80) (r : List S80), (p ++ y :: r).set (p.length : Int).toNat z = p ++ z :: r := fun y z r => by simp
    refine ⟨(⟨k0, l1⟩ : S80) :: r', by simp [hr'], ?_⟩
    · refine Ev.step (fun k => by rw [laws_markHomeS.l0]) (Ev.pos (by simp; omega) (Ev.pos (by omega) ?_))
      simp only [Option.bind_some, rdp, stp]
      rw [e1]
      refine Ev.bind hm1 ?_
      try dsimp only
      rw [ep]
      have e_ : p ++ (⟨k0, l1⟩ : S80) :: r = (p ++ [(⟨k0, l1⟩ : S80)]) ++ r := by simp
      first | rw [e_] | (simp only [stp]; rw [e_])
      exact Ev.eq hm (by rw [Prod.mk.injEq]; exact ⟨by omega, by simp⟩)
theorem laws_markHomeS.two (l : List S80) (k0 : Int) (h0 : 0 ≤ k0) (h1 : k0 + (ms80 l : Int) ≤ 9223372036854775807) (h2 : l.length ≤ 9223372036854775807) (h3 : mok80 l) : ∃ l' : List S80, l'.length = l.length ∧ Ev (fun k => laws_markHomeS.f k l k0) (k0 + (ms80 l : Int), l') := by
  obtain ⟨l', e, h4⟩ := laws_markHomeS.go l h3 [] [] k0 h0 h1 (by simpa using h2) rfl
  exact ⟨l', e, by simpa [laws_markHomeS.f] using h4⟩

theorem laws_markConfig.two (a0 : Int) (l1 : List Int) (l2 : List S80) (k0 : Int) (h0 : 0 ≤ k0) (h1 : k0 + ((l1).length : Int) + (ms80 (l2) : Int) ≤ 9223372036854775807) (hl1 : l1.length ≤ 9223372036854775807) (hl2 : l2.length ≤ 9223372036854775807) (ho2 : mok80 l2) : ∃ (m1 : List Int) (m2 : List S80), Ev (fun k => laws_markConfig.f k a0 l1 l2 k0) (k0 + ((l1).length : Int) + (ms80 (l2) : Int), m1, m2) := by
  obtain ⟨m1, e1, hm1, hh1⟩ := laws_markIntS.two l1 (k0) (by omega) (by omega) hl1
  obtain ⟨m2, e2, hm2⟩ := laws_markHomeS.two l2 (k0 + ((l1).length : Int)) (by omega) (by omega) hl2 ho2
  refine ⟨m1, m2, ?_⟩
  · unfold laws_markConfig.f
    exact Ev.bind hm1 (Ev.bind hm2 (Ev.now _))

theorem homes_ok (l : List S80) (h : okL80 l) : ms80 l ≤ 1048577 * l.length ∧ mok80 l := by
  obtain ⟨h1, h2⟩ := h
  refine ⟨?_, fun w hw => h2 w hw⟩
  clear h1
  induction l with
  | nil => simp [ms80]
  | cons x r ih =>
    have hx : x.f1.length ≤ 1048576 := h2 x (List.mem_cons_self ..)
    have := ih (fun w hw => h2 w (List.mem_cons_of_mem _ hw))
    simp only [ms80, mc80, List.length_cons]; omega
theorem holds_ev (n : Int) (dn : List Int) (l : List S96) (m : Int) (dm : List Int) (r : List S96) (h1 : bigLI dn) (h2 : bigL96 l) (h3 : bigLI dm) (h4 : bigL96 r) : Ev (fun k => laws_FnExactMovedParts.f k n dn l m dm r) true := by
  obtain ⟨z, hr, hz, hsz⟩ := laws_szConfig.ev n dn l 1048576 (by omega) (by omega) h1 h2
  unfold laws_FnExactMovedParts.f
  refine Ev.bind hr ?_
  try dsimp only
  refine Ev.cases (fun _ => Ev.now _) (fun hn => ?_)
  obtain ⟨o1, o2⟩ := hsz (by omega)
  obtain ⟨z2, hr2, _, hsz2⟩ := laws_szConfig.ev m dm r z (by omega) hz h3 h4
  refine Ev.bind hr2 ?_
  try dsimp only
  refine Ev.cases (fun _ => Ev.now _) (fun hn2 => ?_)
  obtain ⟨o3, o4⟩ := hsz2 (by omega)
  have p2 := okL96_map o2
  have p4 := okL96_map o4
  refine Ev.bind (laws_toConfig.ev n dn l o1 o2) ?_
  try dsimp only
  refine Ev.bind (laws_toConfig.ev m dm r o3 o4) ?_
  try dsimp only
  generalize l.map c96 = hs at p2 ⊢
  generalize r.map c96 = gs at p4 ⊢
  refine Ev.bind (spec_MovedParts.ev n dn hs m dm gs o1 p2 o3 p4) ?_
  have hI := impl_MovedParts.ev n dn hs m dm gs o1 p2 o3 p4
  have hb : (movedP n dn hs m dm gs).1.length ≤ 1048576 := by
    unfold movedP
    split
    · have := movedF_len hs gs hs.length 0
      have := p2.1
      simp only; omega
    · simp
  generalize movedP n dn hs m dm gs = N at hI hb ⊢
  obtain ⟨out, ok⟩ := N
  dsimp only at hb ⊢
  refine Ev.bind hI ?_
  try dsimp only
  obtain ⟨s1, t1⟩ := homes_ok hs p2
  obtain ⟨s2, t2⟩ := homes_ok gs p4
  have b1 : dn.length ≤ 1048576 := o1
  have b2 : dm.length ≤ 1048576 := o3
  have b3 := p2.1
  have b4 := p4.1
  have c1 : 1048577 * hs.length ≤ 1048577 * 1048576 := Nat.mul_le_mul_left _ b3
  have c2 : 1048577 * gs.length ≤ 1048577 * 1048576 := Nat.mul_le_mul_left _ b4
  obtain ⟨d1, d2, hx⟩ := laws_markConfig.two n dn hs 1 (by omega) (by omega) (by omega) (by omega) t1
  obtain ⟨e1, e2, hy⟩ := laws_markConfig.two m dm gs (1 + (dn.length : Int) + (ms80 hs : Int)) (by omega) (by omega) (by omega) (by omega) t2
  obtain ⟨q, _, hq, hh⟩ := laws_markIntS.two out 1 (by omega) (by omega) (by omega)
  refine Ev.iff (laws_eqIntS.refl out (by unfold okLI; omega)) (Ev.pos rfl (Ev.iff (laws_eqConfig.refl n dn hs o1 p2) (Ev.iff (laws_eqConfig.refl m dm gs o3 p4) (Ev.bind hx ?_))))
  try dsimp only
  refine Ev.bind hy ?_
  try dsimp only
  refine Ev.pos (by omega) (Ev.bind hq ?_)
  try dsimp only
  exact Ev.bind hh (Ev.pos (by omega) (Ev.pos rfl (Ev.now _)))

end Go.Proofs.Ytniaodllgeloiaa.PMP
namespace Go.Proofs.Ytniaodllgeloiaa.PureFnExactMovedParts
open Go.RowKit Go.Proofs.Ytniaodllgeloiaa.PMP Go.Proofs.Ytniaodllgeloiaa.Base Go.Proofs.Ytniaodllgeloiaa.Open Go.Proofs.YtniaodllgeloiaaW.PrintWords Go.Proofs.YtniaodllgeloiaaW.PrintLast
theorem holds (a0_0 : Int) (l0_1 : List Int) (l0_2 : List S96) (a1_0 : Int) (l1_1 : List Int) (l1_2 : List S96) (w0 : ((Lit.int .i64 a0_0).wf = true ∧ (l0_1.length ≤ 9223372036854775807 ∧ ∀ z ∈ l0_1, (Lit.int .i64 z).wf = true) ∧ (l0_2.length ≤ 9223372036854775807 ∧ ∀ z ∈ l0_2, W96 z))) (w1 : ((Lit.int .i64 a1_0).wf = true ∧ (l1_1.length ≤ 9223372036854775807 ∧ ∀ z ∈ l1_1, (Lit.int .i64 z).wf = true) ∧ (l1_2.length ≤ 9223372036854775807 ∧ ∀ z ∈ l1_2, W96 z))) : ∃ k, Go.Proofs.Ytniaodllgeloiaa.PMP.laws_FnExactMovedParts.f k a0_0 l0_1 l0_2 a1_0 l1_1 l1_2 = some true := by
  exact (holds_ev _ _ _ _ _ _ w0.2.1.1 ⟨w0.2.2.1, fun z hz => (w0.2.2.2 z hz).2.1⟩ w1.2.1.1 ⟨w1.2.2.1, fun z hz => (w1.2.2.2 z hz).2.1⟩).rounds
end Go.Proofs.Ytniaodllgeloiaa.PureFnExactMovedParts
