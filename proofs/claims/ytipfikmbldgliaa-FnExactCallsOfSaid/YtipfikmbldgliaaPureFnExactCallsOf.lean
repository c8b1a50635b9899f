/- What this text proves: laws.FnExactCallsOf, told as plain functions of numbers and lists, answers true for all arguments.
   Conditions: the bounds that the typed reading gives. -/
import Derived.Test.YtipfikmbldgliaaPRGx35
import Derived.Test.YtipfikmbldgliaaOpen
import Derived.Test.YtipfikmbldgliaaBase
namespace Go.Proofs.Ytipfikmbldgliaa.PRG
open Go.RowKit Go.Proofs.Ytipfikmbldgliaa.Base Go.Proofs.Ytipfikmbldgliaa.Open Go.Proofs.YtipfikmbldgliaaW.PrintWords Go.Proofs.YtipfikmbldgliaaW.PrintLast Go.Proofs.YtipfikmbldgliaaW.PrintMore
set_option linter.unusedVariables false
set_option linter.unusedSimpArgs false
theorem op3 : Opens Try.prog 3 (Kd.int .i64) (fun x => (Lit.int .i64 x).wf = true) := Opens.int Try.underlying3 (by kernel_rfl)
theorem op9 : Opens Try.prog 9 Kd.string (fun x => x.size ≤ 9223372036854775807) := Opens.string Try.underlying9 (by kernel_rfl)
def W109 (x : S109) : Prop := (Lit.int .i64 x.f0).wf = true ∧ (Lit.int .i64 x.f1).wf = true ∧ x.f2.size ≤ 9223372036854775807
theorem o109 : Opens Try.prog 109 k109 W109 := by
  have h := Opens.struct Try.underlying109 (by kernel_rfl) (Fits.cons (P := Try.prog) rfl op3 (Fits.cons (P := Try.prog) rfl op3 (Fits.one (P := Try.prog) rfl op9)))
  exact Opens.iso (fun x : S109 => (x.f0, x.f1, x.f2)) (fun p => ⟨p.1, p.2.1, p.2.2⟩) (fun _ => rfl) h
theorem op31 : Opens Try.prog 31 (Kd.slice 109 k109) (fun x => (x.length ≤ 9223372036854775807 ∧ ∀ z ∈ x, W109 z)) := Opens.slice Try.underlying31 (by kernel_rfl) o109
theorem op4 : Opens Try.prog 4 Kd.bool (fun x => True) := Opens.bool Try.underlying4 (by kernel_rfl)
theorem op49 : Opens Try.prog 49 (Kd.slice 3 (Kd.int .i64)) (fun x => (x.length ≤ 9223372036854775807 ∧ ∀ z ∈ x, (Lit.int .i64 z).wf = true)) := Opens.slice Try.underlying49 (by kernel_rfl) op3
def W112 (x : S112) : Prop := (Lit.int .i64 x.f0).wf = true ∧ True ∧ x.f2.size ≤ 9223372036854775807 ∧ (Lit.int .i64 x.f3).wf = true ∧ (x.f4.length ≤ 9223372036854775807 ∧ ∀ z ∈ x.f4, (Lit.int .i64 z).wf = true) ∧ W109 x.f5 ∧ (Lit.int .i64 x.f6).wf = true ∧ (Lit.int .i64 x.f7).wf = true
theorem o112 : Opens Try.prog 112 k112 W112 := by
  have h := Opens.struct Try.underlying112 (by kernel_rfl) (Fits.cons (P := Try.prog) rfl op3 (Fits.cons (P := Try.prog) rfl op4 (Fits.cons (P := Try.prog) rfl op9 (Fits.cons (P := Try.prog) rfl op3 (Fits.cons (P := Try.prog) rfl op49 (Fits.cons (P := Try.prog) rfl o109 (Fits.cons (P := Try.prog) rfl op3 (Fits.one (P := Try.prog) rfl op3))))))))
  exact Opens.iso (fun x : S112 => (x.f0, x.f1, x.f2, x.f3, x.f4, x.f5, x.f6, x.f7)) (fun p => ⟨p.1, p.2.1, p.2.2.1, p.2.2.2.1, p.2.2.2.2.1, p.2.2.2.2.2.1, p.2.2.2.2.2.2.1, p.2.2.2.2.2.2.2⟩) (fun _ => rfl) h
theorem op32 : Opens Try.prog 32 (Kd.slice 112 k112) (fun x => (x.length ≤ 9223372036854775807 ∧ ∀ z ∈ x, W112 z)) := Opens.slice Try.underlying32 (by kernel_rfl) o112
/-- The place of the first element at which p says yes, counted from i; -1 for none. -/
def idxN {α : Type} (p : α → Bool) : List α → Nat → Int
  | [], _ => -1
  | x :: r, i => if p x = true then (i : Int) else idxN p r (i + 1)
theorem idxO_val {α : Type} {F : α → Option Bool} {p : α → Bool} : ∀ (l : List α) (i : Nat), (∀ x ∈ l, F x = some (p x)) → idxO F l i = some (idxN p l i)
  | [], _, _ => rfl
  | x :: r, i, h => by
    simp only [idxO, idxN, h x (List.mem_cons_self ..), Option.bind_some]
    rw [idxO_val r (i + 1) (fun y hy => h y (List.mem_cons_of_mem _ hy))]
    split <;> rfl
theorem idxN_cons {α : Type} (p : α → Bool) (x : α) (r : List α) (i : Nat) : idxN p (x :: r) i = if p x = true then (i : Int) else idxN p r (i + 1) := rfl
theorem idxN_anyP {α : Type} (p : α → Bool) : ∀ (l : List α) (i : Nat), (idxN p l i ≥ 0) ↔ l.any p = true
  | [], _ => by simp [idxN]
  | x :: r, i => by
    rw [idxN_cons]
    by_cases h : p x = true
    · rw [if_pos h, List.any_cons, h]; simp
    · rw [if_neg h, List.any_cons, Bool.eq_false_iff.2 h, Bool.false_or]; exact idxN_anyP p r (i + 1)
theorem idxN_any {α : Type} (p : α → Bool) (l : List α) (i : Nat) : decide (idxN p l i ≥ 0) = l.any p := by
  rw [Bool.eq_iff_iff, decide_eq_true_iff]; exact idxN_anyP p l i
theorem idxN_ge {α : Type} (p : α → Bool) : ∀ (l : List α) (i : Nat), idxN p l i = -1 ∨ (i : Int) ≤ idxN p l i
  | [], _ => .inl rfl
  | x :: r, i => by
    simp only [idxN]
    split
    · exact .inr (Int.le_refl _)
    · rcases idxN_ge p r (i + 1) with h | h
      · exact .inl h
      · exact .inr (by omega)
theorem idxO_any {α : Type} {F : α → Option Bool} {p : α → Bool} {l : List α} (h : ∀ x ∈ l, F x = some (p x)) : ((idxO F l 0).bind fun i => some (decide (i ≥ 0))) = some (l.any p) := by
  rw [idxO_val l 0 h]; simp only [Option.bind_some]; rw [idxN_any]
theorem idxO_Ev {α : Type} {F : Nat → α → Option Bool} {p : α → Bool} : ∀ (l : List α) (i : Nat), (∀ x ∈ l, Ev (fun k => F k x) (p x)) → Ev (fun k => idxO (F k) l i) (idxN p l i)
  | [], _, _ => Ev.now _
  | x :: r, i, h => by
    show Ev (fun k => (F k x).bind fun b => if b = true then some (i : Int) else idxO (F k) r (i + 1)) _
    refine Ev.bind (h x (List.mem_cons_self ..)) ?_
    simp only [idxN]
    refine Ev.cases (fun hp => Ev.some (by rw [if_pos hp])) (fun hp => ?_)
    rw [if_neg hp]
    exact idxO_Ev r (i + 1) (fun y hy => h y (List.mem_cons_of_mem _ hy))
theorem idxAny_Ev {α : Type} {F : Nat → α → Option Bool} {p : α → Bool} {l : List α} (h : ∀ x ∈ l, Ev (fun k => F k x) (p x)) : Ev (fun k => (idxO (F k) l 0).bind fun i => some (decide (i ≥ 0))) (l.any p) := by
  refine Ev.bind (idxO_Ev l 0 h) (Ev.some ?_)
  exact idxN_any p l 0

theorem laws_eqCopy.refl (x0 : Int) (x1 : Int) (x2 : ByteArray) : laws_eqCopy.f x0 x1 x2 x0 x1 x2 = some true := by
  unfold laws_eqCopy.f; simp

def okLS (s : ByteArray) : Prop := s.size ≤ 1048576
def bigLS (s : ByteArray) : Prop := s.size ≤ 9223372036854775807
def okE40 (z : S40) : Prop := okLS z.f2
def okL40 (l : List S40) : Prop := l.length ≤ 1048576 ∧ ∀ z ∈ l, okE40 z
def bigE40 (z : S40) : Prop := bigLS z.f2
def bigL40 (l : List S40) : Prop := l.length ≤ 9223372036854775807 ∧ ∀ z ∈ l, bigE40 z
theorem laws_eqCopyS.refl (x : List S40) (hx : okL40 x) : Ev (fun k => laws_eqCopyS.f k x x) true := by
  unfold laws_eqCopyS.f
  refine Ev.pos rfl (Ev.eq (Ev.up (g := fun k i => laws_eqCopyS.l0 k x x i) x.length (fun _ => true) ?_) rfl)
  intro i hi ih
  refine Ev.step (fun k => by rw [laws_eqCopyS.l0]) ?_
  by_cases hlt : i < x.length
  · have e : rd_T40 x (i : Int) = x[i] := getD_nat x _ hlt
    have h3 := hx.2 _ (List.getElem_mem hlt)
    have h1 := hx.1
    rw [e, w64_succ hlt (by omega)]
    exact Ev.pos (by omega) (Ev.pos (by omega) (Ev.pos (by omega) (Ev.bindS (laws_eqCopy.refl (x[i].f0) (x[i].f1) (x[i].f2)) (Ev.pos rfl (ih hlt)))))
  · exact Ev.neg (by omega) (Ev.now _)

def okLI (l : List Int) : Prop := l.length ≤ 1048576
def bigLI (l : List Int) : Prop := l.length ≤ 9223372036854775807
theorem laws_eqIntS.ev (x y : List Int) (hx : x.length ≤ 9223372036854775807) : Ev (fun k => laws_eqIntS.f k x y) (decide (x = y)) := by
  unfold laws_eqIntS.f
  refine Ev.cases (fun hl => ?_) (fun hl => Ev.some ?_)
  · have hl' : x.length = y.length := by omega
    refine Ev.eq (Ev.up (g := fun k i => laws_eqIntS.l0 k x y i) x.length (fun i => decide (x.drop i = y.drop i)) ?_) (by simp)
    intro i hi ih
    refine Ev.step (fun k => by rw [laws_eqIntS.l0]) ?_
    by_cases hlt : i < x.length
    · refine Ev.pos (by omega) (Ev.pos (by omega) (Ev.pos (by omega) ?_))
      rw [rd_get hlt, rd_get (by omega : i < y.length), w64_succ hlt hx]
      have e : decide (x.drop i = y.drop i) = (decide (x[i] = y[i]) && decide (x.drop (i + 1) = y.drop (i + 1))) := drop_eq_step hlt (by omega)
      rw [e]
      refine Ev.cases (fun he => ?_) (fun he => Ev.some (by rw [decide_eq_false he]; rfl))
      exact Ev.eq (ih hlt) (by rw [decide_eq_true he]; rfl)
    · refine Ev.neg (by omega) (Ev.some ?_)
      rw [List.drop_of_length_le (by omega), List.drop_of_length_le (by omega)]
      simp
  · have : x ≠ y := fun h => hl (by rw [h])
    simp [this]
theorem laws_eqIntS.refl (x : List Int) (hx : okLI x) : Ev (fun k => laws_eqIntS.f k x x) true := Ev.eq (laws_eqIntS.ev x x (by unfold okLI at hx; omega)) (by simp)

theorem laws_eqRegOp.refl (x0 : Int) (x1 : Bool) (x2 : ByteArray) (x3 : Int) (x4 : List Int) (x5 : Int) (x6 : Int) (x7 : ByteArray) (x8 : Int) (x9 : Int) (h4 : okLI x4) : Ev (fun k => laws_eqRegOp.f k x0 x1 x2 x3 x4 x5 x6 x7 x8 x9 x0 x1 x2 x3 x4 x5 x6 x7 x8 x9) true := by
  unfold laws_eqRegOp.f
  exact (Ev.pos rfl (Ev.neg (by simp) (Ev.pos rfl (Ev.pos rfl (Ev.bind (laws_eqIntS.refl _ h4) (Ev.pos rfl (Ev.bindS (laws_eqCopy.refl _ _ _) (Ev.pos rfl (Ev.pos rfl (Ev.pos rfl (Ev.now _)))))))))))

def okE83 (z : S83) : Prop := okLS z.f2 ∧ okLI z.f4 ∧ okLS z.f5.f2
def okL83 (l : List S83) : Prop := l.length ≤ 1048576 ∧ ∀ z ∈ l, okE83 z
def bigE83 (z : S83) : Prop := bigLS z.f2 ∧ bigLI z.f4 ∧ bigLS z.f5.f2
def bigL83 (l : List S83) : Prop := l.length ≤ 9223372036854775807 ∧ ∀ z ∈ l, bigE83 z
theorem laws_eqRegOpS.refl (x : List S83) (hx : okL83 x) : Ev (fun k => laws_eqRegOpS.f k x x) true := by
  unfold laws_eqRegOpS.f
  refine Ev.pos rfl (Ev.eq (Ev.up (g := fun k i => laws_eqRegOpS.l0 k x x i) x.length (fun _ => true) ?_) rfl)
  intro i hi ih
  refine Ev.step (fun k => by rw [laws_eqRegOpS.l0]) ?_
  by_cases hlt : i < x.length
  · have e : rd_T83 x (i : Int) = x[i] := getD_nat x _ hlt
    have h3 := hx.2 _ (List.getElem_mem hlt)
    have h1 := hx.1
    rw [e, w64_succ hlt (by omega)]
    exact Ev.pos (by omega) (Ev.pos (by omega) (Ev.pos (by omega) (Ev.bind (laws_eqRegOp.refl (x[i].f0) (x[i].f1) (x[i].f2) (x[i].f3) (x[i].f4) (x[i].f5.f0) (x[i].f5.f1) (x[i].f5.f2) (x[i].f6) (x[i].f7) (h3.2.1)) (Ev.pos rfl (ih hlt)))))
  · exact Ev.neg (by omega) (Ev.now _)

theorem laws_eqRegister.refl (x0 : Int) (x1 : List (S40)) (x2 : List (S83)) (h1 : okL40 x1) (h2 : okL83 x2) : Ev (fun k => laws_eqRegister.f k x0 x1 x2 x0 x1 x2) true := by
  unfold laws_eqRegister.f
  exact (Ev.pos rfl (Ev.bind (laws_eqCopyS.refl _ h1) (Ev.pos rfl (Ev.bind (laws_eqRegOpS.refl _ h2) (Ev.pos rfl (Ev.now _))))))

theorem laws_szCopy.ev (x0 : Int) (x1 : Int) (x2 : ByteArray) (a : Int) (g0 : 0 ≤ a) (g1 : a ≤ 1048576) (h2 : bigLS x2) : ∃ r, laws_szCopy.f x0 x1 x2 a = some r ∧ r ≤ a ∧ (0 ≤ r → okLS x2) := by
  have hs2 : x2.size ≤ 9223372036854775807 := h2
  by_cases c2 : a - (x2.size : Int) < 0
  · exact ⟨-1, by unfold laws_szCopy.f; rw [w64 (x := a - (x2.size : Int)) (by omega) (by omega)]; rw [if_pos c2], by omega, fun h => by omega⟩
  exact ⟨(a - (x2.size : Int)), by unfold laws_szCopy.f; rw [w64 (x := a - (x2.size : Int)) (by omega) (by omega)]; rw [if_neg c2], by omega, fun h => (by unfold okLS; omega)⟩

def okE109 (z : S109) : Prop := okLS z.f2
def okL109 (l : List S109) : Prop := l.length ≤ 1048576 ∧ ∀ z ∈ l, okE109 z
def bigE109 (z : S109) : Prop := bigLS z.f2
def bigL109 (l : List S109) : Prop := l.length ≤ 9223372036854775807 ∧ ∀ z ∈ l, bigE109 z
theorem laws_szCopyS.ev (l : List S109) (a : Int) (h0 : 0 ≤ a) (h1 : a ≤ 1048576) (hb : bigL109 l) : ∃ r, Ev (fun k => laws_szCopyS.f k l a) r ∧ r ≤ a ∧ (0 ≤ r → okL109 l) := by
  obtain ⟨hl, hx⟩ := hb
  unfold laws_szCopyS.f
  rw [w64 (by omega) (by omega)]
  by_cases h : a - l.length < 0
  · exact ⟨-1, Ev.pos h (Ev.now _), by omega, fun h => by omega⟩
  · have key : ∀ d i : Nat, i + d = l.length → ∀ b : Int, 0 ≤ b → b ≤ 1048576 → ∃ r, Ev (fun k => laws_szCopyS.l0 k l b i) r ∧ r ≤ b ∧ (0 ≤ r → ∀ x ∈ l.drop i, okE109 x) := by
      intro d
      induction d with
      | zero =>
        intro i hi b hb0 hb1
        have : i = l.length := by omega
        subst this
        exact ⟨b, Ev.step (fun k => by rw [laws_szCopyS.l0]) (Ev.neg (by omega) (Ev.now _)), by omega, fun _ x hx => by simp at hx⟩
      | succ d ih =>
        intro i hi b hb0 hb1
        have hlt : i < l.length := by omega
        have hz := hx _ (List.getElem_mem hlt)
        obtain ⟨r, hr, h2, h3⟩ := laws_szCopy.ev (l[i].f0) (l[i].f1) (l[i].f2) b hb0 hb1 (hz)
        have e : rd_T109 l (i : Int) = l[i] := getD_nat l _ hlt
        by_cases hr0 : r < 0
        · refine ⟨-1, Ev.step (fun k => by rw [laws_szCopyS.l0]) (Ev.pos (by omega) (Ev.pos (by omega) ?_)), by omega, fun h => by omega⟩
          rw [e]
          exact Ev.bindS hr (Ev.pos hr0 (Ev.now _))
        · obtain ⟨q, hq, h5, h4⟩ := ih (i + 1) (by omega) r (by omega) (by omega)
          refine ⟨q, Ev.step (fun k => by rw [laws_szCopyS.l0]) (Ev.pos (by omega) (Ev.pos (by omega) ?_)), by omega, fun h x hx => ?_⟩
          · rw [e, w64_succ hlt hl]
            exact Ev.bindS hr (Ev.neg hr0 hq)
          · rw [List.drop_eq_getElem_cons hlt] at hx
            rcases List.mem_cons.1 hx with rfl | hx
            · exact h3 (by omega)
            · exact h4 h x hx
    obtain ⟨r, hr, h5, h2⟩ := key l.length 0 (by omega) (a - l.length) (by omega) (by omega)
    exact ⟨r, Ev.neg h hr, by omega, fun h => ⟨by omega, fun x hx => h2 h x (by simpa using hx)⟩⟩

theorem laws_szIntS.ev (l : List Int) (a : Int) (h0 : 0 ≤ a) (h1 : a ≤ 1048576) (hb : bigLI l) : ∃ r, laws_szIntS.f l a = some r ∧ r ≤ a ∧ (0 ≤ r → okLI l) := by
  have hl : l.length ≤ 9223372036854775807 := hb
  unfold laws_szIntS.f
  rw [w64 (by omega) (by omega)]
  by_cases h : a < l.length
  · exact ⟨-1, by rw [if_pos (by omega)], by omega, fun h => by omega⟩
  · exact ⟨_, by rw [if_neg (by omega)], by omega, fun _ => (by unfold okLI; omega)⟩

theorem laws_szRegOp.ev (x0 : Int) (x1 : Bool) (x2 : ByteArray) (x3 : Int) (x4 : List Int) (x5 : Int) (x6 : Int) (x7 : ByteArray) (x8 : Int) (x9 : Int) (a : Int) (g0 : 0 ≤ a) (g1 : a ≤ 1048576) (h2 : bigLS x2) (h4 : bigLI x4) (h7 : bigLS x7) : ∃ r, laws_szRegOp.f x0 x1 x2 x3 x4 x5 x6 x7 x8 x9 a = some r ∧ r ≤ a ∧ (0 ≤ r → okLS x2 ∧ okLI x4 ∧ okLS x7) := by
  have hs2 : x2.size ≤ 9223372036854775807 := h2
  have hs7 : x7.size ≤ 9223372036854775807 := h7
  by_cases c2 : a - (x2.size : Int) < 0
  · exact ⟨-1, by unfold laws_szRegOp.f; rw [w64 (x := a - (x2.size : Int)) (by omega) (by omega)]; rw [if_pos c2], by omega, fun h => by omega⟩
  obtain ⟨r4, e4, b4, o4⟩ := laws_szIntS.ev x4 (a - (x2.size : Int)) (by omega) (by omega) h4
  by_cases c4 : r4 < 0
  · exact ⟨-1, by unfold laws_szRegOp.f; rw [w64 (x := a - (x2.size : Int)) (by omega) (by omega)]; rw [if_neg c2]; rw [e4]; simp only [Option.bind_some]; rw [if_pos c4], by omega, fun h => by omega⟩
  obtain ⟨r7, e7, b7, o7⟩ := laws_szCopy.ev x5 x6 x7 r4 (by omega) (by omega) h7
  by_cases c7 : r7 < 0
  · exact ⟨-1, by unfold laws_szRegOp.f; rw [w64 (x := a - (x2.size : Int)) (by omega) (by omega)]; rw [if_neg c2]; rw [e4]; simp only [Option.bind_some]; rw [if_neg c4]; rw [e7]; simp only [Option.bind_some]; rw [if_pos c7], by omega, fun h => by omega⟩
  exact ⟨r7, by unfold laws_szRegOp.f; rw [w64 (x := a - (x2.size : Int)) (by omega) (by omega)]; rw [if_neg c2]; rw [e4]; simp only [Option.bind_some]; rw [if_neg c4]; rw [e7]; simp only [Option.bind_some]; rw [if_neg c7], by omega, fun h => ⟨(by unfold okLS; omega), o4 (by omega), o7 (by omega)⟩⟩

def okE112 (z : S112) : Prop := okLS z.f2 ∧ okLI z.f4 ∧ okLS z.f5.f2
def okL112 (l : List S112) : Prop := l.length ≤ 1048576 ∧ ∀ z ∈ l, okE112 z
def bigE112 (z : S112) : Prop := bigLS z.f2 ∧ bigLI z.f4 ∧ bigLS z.f5.f2
def bigL112 (l : List S112) : Prop := l.length ≤ 9223372036854775807 ∧ ∀ z ∈ l, bigE112 z
theorem laws_szRegOpS.ev (l : List S112) (a : Int) (h0 : 0 ≤ a) (h1 : a ≤ 1048576) (hb : bigL112 l) : ∃ r, Ev (fun k => laws_szRegOpS.f k l a) r ∧ r ≤ a ∧ (0 ≤ r → okL112 l) := by
  obtain ⟨hl, hx⟩ := hb
  unfold laws_szRegOpS.f
  rw [w64 (by omega) (by omega)]
  by_cases h : a - l.length < 0
  · exact ⟨-1, Ev.pos h (Ev.now _), by omega, fun h => by omega⟩
  · have key : ∀ d i : Nat, i + d = l.length → ∀ b : Int, 0 ≤ b → b ≤ 1048576 → ∃ r, Ev (fun k => laws_szRegOpS.l0 k l b i) r ∧ r ≤ b ∧ (0 ≤ r → ∀ x ∈ l.drop i, okE112 x) := by
      intro d
      induction d with
      | zero =>
        intro i hi b hb0 hb1
        have : i = l.length := by omega
        subst this
        exact ⟨b, Ev.step (fun k => by rw [laws_szRegOpS.l0]) (Ev.neg (by omega) (Ev.now _)), by omega, fun _ x hx => by simp at hx⟩
      | succ d ih =>
        intro i hi b hb0 hb1
        have hlt : i < l.length := by omega
        have hz := hx _ (List.getElem_mem hlt)
        obtain ⟨r, hr, h2, h3⟩ := laws_szRegOp.ev (l[i].f0) (l[i].f1) (l[i].f2) (l[i].f3) (l[i].f4) (l[i].f5.f0) (l[i].f5.f1) (l[i].f5.f2) (l[i].f6) (l[i].f7) b hb0 hb1 (hz.1) (hz.2.1) (hz.2.2)
        have e : rd_T112 l (i : Int) = l[i] := getD_nat l _ hlt
        by_cases hr0 : r < 0
        · refine ⟨-1, Ev.step (fun k => by rw [laws_szRegOpS.l0]) (Ev.pos (by omega) (Ev.pos (by omega) ?_)), by omega, fun h => by omega⟩
          rw [e]
          exact Ev.bindS hr (Ev.pos hr0 (Ev.now _))
        · obtain ⟨q, hq, h5, h4⟩ := ih (i + 1) (by omega) r (by omega) (by omega)
          refine ⟨q, Ev.step (fun k => by rw [laws_szRegOpS.l0]) (Ev.pos (by omega) (Ev.pos (by omega) ?_)), by omega, fun h x hx => ?_⟩
          · rw [e, w64_succ hlt hl]
            exact Ev.bindS hr (Ev.neg hr0 hq)
          · rw [List.drop_eq_getElem_cons hlt] at hx
            rcases List.mem_cons.1 hx with rfl | hx
            · exact h3 (by omega)
            · exact h4 h x hx
    obtain ⟨r, hr, h5, h2⟩ := key l.length 0 (by omega) (a - l.length) (by omega) (by omega)
    exact ⟨r, Ev.neg h hr, by omega, fun h => ⟨by omega, fun x hx => h2 h x (by simpa using hx)⟩⟩

theorem laws_szRegister.ev (x0 : Int) (x1 : List (S109)) (x2 : List (S112)) (a : Int) (g0 : 0 ≤ a) (g1 : a ≤ 1048576) (h1 : bigL109 x1) (h2 : bigL112 x2) : ∃ r, Ev (fun k => laws_szRegister.f k x0 x1 x2 a) r ∧ r ≤ a ∧ (0 ≤ r → okL109 x1 ∧ okL112 x2) := by
  obtain ⟨r1, e1, b1, o1⟩ := laws_szCopyS.ev x1 a g0 g1 h1
  by_cases c1 : r1 < 0
  · exact ⟨-1, by unfold laws_szRegister.f; refine Ev.bind e1 ?_; refine Ev.pos c1 ?_; exact Ev.now _, by omega, fun h => by omega⟩
  obtain ⟨r2, e2, b2, o2⟩ := laws_szRegOpS.ev x2 r1 (by omega) (by omega) h2
  by_cases c2 : r2 < 0
  · exact ⟨-1, by unfold laws_szRegister.f; refine Ev.bind e1 ?_; refine Ev.neg c1 ?_; refine Ev.bind e2 ?_; refine Ev.pos c2 ?_; exact Ev.now _, by omega, fun h => by omega⟩
  exact ⟨r2, by unfold laws_szRegister.f; refine Ev.bind e1 ?_; refine Ev.neg c1 ?_; refine Ev.bind e2 ?_; refine Ev.neg c2 ?_; exact Ev.now _, by omega, fun h => ⟨o1 (by omega), o2 (by omega)⟩⟩

theorem laws_toCopy.ev (x0 : Int) (x1 : Int) (x2 : ByteArray) : laws_toCopy.f x0 x1 x2 = some (x0, x1, x2) := rfl

def c109 (x : S109) : S40 := ⟨x.f0, x.f1, x.f2⟩
theorem okE109_map {x : S109} (h : okE109 x) : okE40 (c109 x) := h
theorem okL109_map {l : List S109} (h : okL109 l) : okL40 (l.map c109) := ⟨by simpa using h.1, fun x hx => by obtain ⟨y, hy, rfl⟩ := List.mem_map.1 hx; exact okE109_map (h.2 y hy)⟩
theorem laws_toCopyS.ev (l : List S109) (hb : okL109 l) : Ev (fun k => laws_toCopyS.f k l) (l.map c109) := by
  obtain ⟨hl, hx⟩ := hb
  unfold laws_toCopyS.f
  refine Ev.pos (by omega) (Ev.pos (by omega) ?_)
  refine Ev.eq (Ev.up (g := fun k i => laws_toCopyS.l0 k l ((l.take i.toNat).map c109 ++ List.replicate (l.length - i.toNat) z40) i) l.length (fun _ => l.map c109) ?_) rfl
  intro i hi ih
  refine Ev.step (fun k => by rw [laws_toCopyS.l0]) ?_
  by_cases hlt : i < l.length
  · have h2 := ih hlt
    have h3 := hx _ (List.getElem_mem hlt)
    simp only [Int.toNat_natCast] at h2 ⊢
    have e : rd_T109 l (i : Int) = l[i] := getD_nat l _ hlt
    rw [e, w64_succ hlt (by omega)]
    refine Ev.pos (by omega) (Ev.pos (by omega) (Ev.bindS (laws_toCopy.ev (l[i].f0) (l[i].f1) (l[i].f2)) (Ev.pos (by rw [fill_len _ _ _ _ hi]; omega) ?_)))
    refine Ev.congr (fun k => ?_) h2
    rw [← set_fillM c109 l z40 hlt]; rfl
  · have : i = l.length := by omega
    subst this
    refine Ev.neg (by omega) (Ev.some ?_)
    simp only [Int.toNat_natCast]
    exact fill_end _ _ _

theorem laws_toIntS.ev0 (l : List Int) (hl : l.length ≤ 1048576) : Ev (fun k => laws_toIntS.f k l) l := by
  unfold laws_toIntS.f
  refine Ev.pos (by omega) (Ev.pos (by omega) ?_)
  refine Ev.eq (Ev.up (g := fun k i => laws_toIntS.l0 k l (l.take i.toNat ++ List.replicate (l.length - i.toNat) 0) i) l.length (fun _ => l) ?_) rfl
  intro i hi ih
  refine Ev.step (fun k => by rw [laws_toIntS.l0]) ?_
  by_cases hlt : i < l.length
  · refine Ev.pos (by omega) (Ev.pos (by omega) (Ev.pos (by simp; omega) ?_))
    rw [rd_get hlt, w64_succ hlt (by omega)]
    have h2 := ih hlt
    simp only [Int.toNat_natCast] at h2 ⊢
    rw [set_fill l 0 hlt]
    exact h2
  · refine Ev.neg (by omega) (Ev.some ?_)
    simp only [Int.toNat_natCast]
    have : i = l.length := by omega
    subst this
    simp
theorem laws_toIntS.ev (l : List Int) (hl : okLI l) : Ev (fun k => laws_toIntS.f k l) l := laws_toIntS.ev0 l hl

theorem laws_toRegOp.ev (x0 : Int) (x1 : Bool) (x2 : ByteArray) (x3 : Int) (x4 : List Int) (x5 : Int) (x6 : Int) (x7 : ByteArray) (x8 : Int) (x9 : Int) (h4 : okLI x4) : Ev (fun k => laws_toRegOp.f k x0 x1 x2 x3 x4 x5 x6 x7 x8 x9) (x0, x1, x2, x3, x4, x5, x6, x7, x8, x9) := by
  unfold laws_toRegOp.f
  exact Ev.bind (laws_toIntS.ev _ h4) (Ev.bindS rfl (Ev.now _))

def c112 (x : S112) : S83 := ⟨x.f0, x.f1, x.f2, x.f3, x.f4, ⟨x.f5.f0, x.f5.f1, x.f5.f2⟩, x.f6, x.f7⟩
theorem okE112_map {x : S112} (h : okE112 x) : okE83 (c112 x) := h
theorem okL112_map {l : List S112} (h : okL112 l) : okL83 (l.map c112) := ⟨by simpa using h.1, fun x hx => by obtain ⟨y, hy, rfl⟩ := List.mem_map.1 hx; exact okE112_map (h.2 y hy)⟩
theorem laws_toRegOpS.ev (l : List S112) (hb : okL112 l) : Ev (fun k => laws_toRegOpS.f k l) (l.map c112) := by
  obtain ⟨hl, hx⟩ := hb
  unfold laws_toRegOpS.f
  refine Ev.pos (by omega) (Ev.pos (by omega) ?_)
  refine Ev.eq (Ev.up (g := fun k i => laws_toRegOpS.l0 k l ((l.take i.toNat).map c112 ++ List.replicate (l.length - i.toNat) z83) i) l.length (fun _ => l.map c112) ?_) rfl
  intro i hi ih
  refine Ev.step (fun k => by rw [laws_toRegOpS.l0]) ?_
  by_cases hlt : i < l.length
  · have h2 := ih hlt
    have h3 := hx _ (List.getElem_mem hlt)
    simp only [Int.toNat_natCast] at h2 ⊢
    have e : rd_T112 l (i : Int) = l[i] := getD_nat l _ hlt
    rw [e, w64_succ hlt (by omega)]
    refine Ev.pos (by omega) (Ev.pos (by omega) (Ev.bind (laws_toRegOp.ev (l[i].f0) (l[i].f1) (l[i].f2) (l[i].f3) (l[i].f4) (l[i].f5.f0) (l[i].f5.f1) (l[i].f5.f2) (l[i].f6) (l[i].f7) (h3.2.1)) (Ev.pos (by rw [fill_len _ _ _ _ hi]; omega) ?_)))
    refine Ev.congr (fun k => ?_) h2
    rw [← set_fillM c112 l z83 hlt]; rfl
  · have : i = l.length := by omega
    subst this
    refine Ev.neg (by omega) (Ev.some ?_)
    simp only [Int.toNat_natCast]
    exact fill_end _ _ _

theorem laws_toRegister.ev (x0 : Int) (x1 : List (S109)) (x2 : List (S112)) (h1 : okL109 x1) (h2 : okL112 x2) : Ev (fun k => laws_toRegister.f k x0 x1 x2) (x0, x1.map c109, x2.map c112) := by
  unfold laws_toRegister.f
  exact Ev.bind (laws_toCopyS.ev _ h1) (Ev.bind (laws_toRegOpS.ev _ h2) (Ev.now _))

theorem laws_markText.go : ∀ (n : Nat) (x : Int) (s : ByteArray), 0 ≤ x → x ≤ n → (s.size : Int) + x ≤ 9223372036854775806 → ∃ t, Ev (fun k => laws_markText.l0 k x s) t := by
  intro n
  induction n with
  | zero =>
    intro x s h0 h1 h2
    exact ⟨_, Ev.step (fun k => by rw [laws_markText.l0]) (Ev.neg (by omega) (Ev.pos (by omega) (Ev.now _)))⟩
  | succ n ih =>
    intro x s h0 h1 h2
    by_cases hx : x > 0
    · have hd : Int.tdiv x 10 = x / 10 := Int.tdiv_eq_ediv_of_nonneg h0
      have hw : wrap64 (Int.tdiv x 10) = x / 10 := by rw [hd]; unfold wrap64; omega
      have hs : ∀ y : Int, (strOfNums [y]).size = 1 := fun y => by simp [strOfNums]; rfl
      obtain ⟨t, ht⟩ := ih (x / 10) ((strOfNums [(wrap64 (48 + (Int.tmod x 10))) % 256]) ++ s) (by omega) (by omega) (by rw [ByteArray.size_append, hs]; omega)
      refine ⟨t, Ev.step (fun k => by rw [laws_markText.l0]) (Ev.pos hx ?_)⟩
      simp only [Option.bind_some]
      refine Ev.pos (by rw [hs]; omega) ?_
      rw [hw]
      exact ht
    · exact ⟨_, Ev.step (fun k => by rw [laws_markText.l0]) (Ev.neg hx (Ev.pos (by omega) (Ev.now _)))⟩
theorem laws_markText.all (x : Int) (h0 : 0 ≤ x) (h1 : x ≤ 9223372036854775806) : ∃ t, Ev (fun k => laws_markText.f k x) t := by
  by_cases hx : x ≤ 0
  · exact ⟨_, by unfold laws_markText.f; exact Ev.pos hx (Ev.now _)⟩
  · obtain ⟨t, ht⟩ := laws_markText.go x.toNat x ⟨#[]⟩ h0 (by omega) (by show ((0 : Nat) : Int) + x ≤ _; omega)
    exact ⟨t, by unfold laws_markText.f; exact Ev.neg hx ht⟩

def mc40 (x : S40) : Nat := 3
def ms40 : List S40 → Nat
  | [] => 0
  | x :: r => mc40 x + ms40 r
def mok40 (l : List S40) : Prop := ∀ x ∈ l, True
theorem laws_markCopyS.go (r : List S40) : mok40 r → ∀ (p q : List S40) (k0 : Int), 0 ≤ k0 → k0 + (ms40 r : Int) ≤ 9223372036854775807 → p.length + r.length ≤ 9223372036854775807 → q.length = p.length →
    ∃ r' : List S40, r'.length = r.length ∧ Ev (fun k => laws_markCopyS.l0 k (p ++ r) k0 (p.length : Int)) (k0 + (ms40 r : Int), p ++ r') := by
  induction r with
  | nil =>
    intro _ p q k0 h0 h1 h2 hq
    refine ⟨[], rfl, ?_⟩
    · exact Ev.step (fun k => by rw [laws_markCopyS.l0]) (Ev.neg (by simp) (Ev.some (by simp [ms40])))
  | cons x r ih =>
    intro hok p q k0 h0 h1 h2 hq
    have hx := hok x (List.mem_cons_self ..)
    have ih := ih (fun z hz => hok z (List.mem_cons_of_mem _ hz))
    have hms : ms40 (x :: r) = mc40 x + ms40 r := rfl
    simp only [mc40] at hms
    simp only [List.length_cons] at h2
    have e1 : wrap64 (k0 + 1) = k0 + 1 := w64 (by omega) (by omega)
    have e2 : wrap64 (k0 + 1 + 1) = k0 + 1 + 1 := w64 (by omega) (by omega)
    obtain ⟨t2, ht2⟩ := laws_markText.all (k0 + 1 + 1) (by omega) (by omega)
    have e3 : wrap64 (k0 + 1 + 1 + 1) = k0 + 1 + 1 + 1 := w64 (by omega) (by omega)
    obtain ⟨r', hr', hm⟩ := ih (p ++ [(⟨k0, k0 + 1, t2⟩ : S40)]) (q ++ [(⟨k0, k0 + 1, t2⟩ : S40)]) (k0 + 1 + 1 + 1) (by omega) (by omega) (by simp; omega) (by simp [hq])
    have ep : wrap64 ((p.length : Int) + 1) = (((p ++ [(⟨k0, k0 + 1, t2⟩ : S40)]).length : Nat) : Int) := by rw [w64 (by omega) (by omega)]; simp
    have eq : wrap64 ((q.length : Int) + 1) = (((q ++ [(⟨k0, k0 + 1, t2⟩ : S40)]).length : Nat) : Int) := by rw [w64 (by omega) (by omega)]; simp
    have rdp : ∀ (y : S40) (r : List S40), rd_T40 (p ++ y :: r) (p.length : Int) = y := fun y r => by simp [rd_T40]
    have rdq : rd_T40 (q ++ (⟨k0, k0 + 1, t2⟩ : S40) :: r') (q.length : Int) = (⟨k0, k0 + 1, t2⟩ : S40) := by simp [rd_T40]
    have stp : ∀ (y z : S40) (r : List S40), (p ++ y :: r).set (p.length : Int).toNat z = p ++ z :: r := fun y z r => by simp
    refine ⟨(⟨k0, k0 + 1, t2⟩ : S40) :: r', by simp [hr'], ?_⟩
    · refine Ev.step (fun k => by rw [laws_markCopyS.l0]) (Ev.pos (by simp; omega) (Ev.pos (by omega) ?_))
      simp only [Option.bind_some, rdp, stp]
      rw [e1, e2]
      refine Ev.bind ht2 ?_
      try dsimp only
      try simp only [Option.bind_some, rdp, stp]
      rw [e3]
      rw [ep]
      have e_ : p ++ (⟨k0, k0 + 1, t2⟩ : S40) :: r = (p ++ [(⟨k0, k0 + 1, t2⟩ : S40)]) ++ r := by simp
      first | rw [e_] | (simp only [stp]; rw [e_])
      exact Ev.eq hm (by rw [Prod.mk.injEq]; exact ⟨by omega, by simp⟩)
theorem laws_markCopyS.two (l : List S40) (k0 : Int) (h0 : 0 ≤ k0) (h1 : k0 + (ms40 l : Int) ≤ 9223372036854775807) (h2 : l.length ≤ 9223372036854775807) (h3 : mok40 l) : ∃ l' : List S40, l'.length = l.length ∧ Ev (fun k => laws_markCopyS.f k l k0) (k0 + (ms40 l : Int), l') := by
  obtain ⟨l', e, h4⟩ := laws_markCopyS.go l h3 [] [] k0 h0 h1 (by simpa using h2) rfl
  exact ⟨l', e, by simpa [laws_markCopyS.f] using h4⟩

theorem laws_markIntS.ev (l : List Int) (k0 : Int) (h0 : 0 ≤ k0) (h1 : k0 + l.length ≤ 9223372036854775807) : Ev (fun k => laws_markIntS.f k l k0) (k0 + l.length, marks k0 l.length) := by
  unfold laws_markIntS.f
  by_cases hb : (l.length : Int) ≤ 9223372036854775807
  · refine Ev.eq (Ev.congr (fun k => ?_) (Ev.up (g := fun k i => laws_markIntS.l0 k (marks k0 i.toNat ++ l.drop i.toNat) (k0 + i) i) l.length (fun _ => (k0 + l.length, marks k0 l.length)) ?_)) rfl
    · simp [marks]
    intro i hi ih
    refine Ev.step (fun k => by rw [laws_markIntS.l0]) ?_
    by_cases hlt : i < l.length
    · refine Ev.pos (by simp [marks_length]; omega) (Ev.pos (by omega) ?_)
      have h2 := ih hlt
      simp only [Int.toNat_natCast] at h2 ⊢
      rw [w64_succ hlt (by omega), w64 (by omega) (by omega), set_mark _ _ _ (marks_length _ _) hlt, ← marks_succ]
      refine Ev.congr (fun k => ?_) h2
      rw [show k0 + (i : Int) + 1 = k0 + ((i + 1 : Nat) : Int) by omega]
    · have : i = l.length := by omega
      subst this
      refine Ev.neg (by simp [marks_length]) (Ev.some ?_)
      simp
  · omega
theorem laws_markIntS.two (l : List Int) (k0 : Int) (h0 : 0 ≤ k0) (h1 : k0 + (l.length : Int) ≤ 9223372036854775807) (h2 : l.length ≤ 9223372036854775807) : ∃ l' : List Int, l'.length = l.length ∧ Ev (fun k => laws_markIntS.f k l k0) (k0 + (l.length : Int), l') :=
  ⟨marks k0 l.length, marks_length _ _, laws_markIntS.ev l k0 h0 (by omega)⟩

theorem okL40_sz {l : List S40} (h : okL40 l) : l.all szCp = true := List.all_eq_true.2 (fun x hx => by
  have q : x.f2.size ≤ 1048576 := h.2 x hx
  unfold szCp; exact decide_eq_true (by omega))
theorem okL83_sz {l : List S83} (h : okL83 l) : l.all szOp = true := List.all_eq_true.2 (fun x hx => by
  have q := h.2 x hx
  have q2 : x.f2.size ≤ 1048576 := q.1
  have q5 : x.f5.f2.size ≤ 1048576 := q.2.2
  unfold szOp szCp; rw [decide_eq_true (by omega), decide_eq_true (by omega)]; rfl)
/-- The sets hold what the first i ops have put in. -/
def setsAt (l : List S83) (i : Nat) (S T : List Int) : Prop := (∀ y : Int, y ∈ S ↔ ∃ k : Nat, k < i ∧ ((rd_T83 l (k : Int)).f6 = y ∨ ((rd_T83 l (k : Int)).f3 = 3 ∧ (rd_T83 l (k : Int)).f7 = y))) ∧ (∀ y : Int, y ∈ T ↔ ∃ k : Nat, k < i ∧ (rd_T83 l (k : Int)).f3 ≠ 3 ∧ (rd_T83 l (k : Int)).f0 = y)
theorem clash_iff (o x : S83) : clash o x = true ↔ ((o.f3 ≠ 3 ∧ x.f3 ≠ 3 ∧ x.f0 = o.f0) ∨ (x.f6 = o.f6 ∨ (x.f3 = 3 ∧ x.f7 = o.f6)) ∨ (o.f3 = 3 ∧ (x.f6 = o.f7 ∨ (x.f3 = 3 ∧ x.f7 = o.f7)))) := by
  unfold clash
  simp only [Bool.or_eq_true, Bool.and_eq_true, beq_iff_eq, bne_iff_ne, Bool.not_eq_true', beq_eq_false_iff_ne, ne_eq]
  constructor
  · rintro (⟨h1, h2, h3⟩ | h | ⟨h1, h2⟩ | ⟨h1, h | ⟨h2, h3⟩⟩)
    · exact .inl ⟨h2, h3, h1⟩
    · exact .inr (.inl (.inl h))
    · exact .inr (.inr ⟨h1, .inl h2.symm⟩)
    · exact .inr (.inl (.inr ⟨h1, h⟩))
    · exact .inr (.inr ⟨h2, .inr ⟨h1, h3⟩⟩)
  · rintro (⟨h1, h2, h3⟩ | (h | ⟨h1, h2⟩) | ⟨h1, (h | ⟨h2, h3⟩)⟩)
    · exact .inl ⟨h3, h1, h2⟩
    · exact .inr (.inl h)
    · exact .inr (.inr (.inr ⟨h1, .inl h2⟩))
    · exact .inr (.inr (.inl ⟨h1, h.symm⟩))
    · exact .inr (.inr (.inr ⟨h2, .inr ⟨h1, h3⟩⟩))
theorem clashes (l : List S83) (i : Nat) (S T : List Int) (h : setsAt l i S T) (o : S83) : allFrom (fun k => !clash o (rd_T83 l (k : Int))) i 0 = !(decide (o.f6 ∈ S) || (((o.f3 == 3) && decide (o.f7 ∈ S)) || (!(o.f3 == 3) && decide (o.f0 ∈ T)))) := by
  obtain ⟨hS, hT⟩ := h
  rw [Bool.eq_iff_iff, allFrom_iff]
  simp only [Bool.not_eq_true', Bool.or_eq_false_iff, decide_eq_false_iff_not, Bool.and_eq_false_iff, beq_eq_false_iff_ne, Bool.not_eq_false', beq_iff_eq, ne_eq]
  constructor
  · intro hall
    have hk : ∀ k : Nat, k < i → ¬ clash o (rd_T83 l (k : Int)) = true := fun k hk => by rw [hall k (Nat.zero_le _) hk]; simp
    refine ⟨fun hm => ?_, ?_, ?_⟩
    · obtain ⟨k, h1, h2⟩ := (hS _).1 hm
      exact hk k h1 ((clash_iff _ _).2 (.inr (.inl h2)))
    · by_cases hd : o.f3 = 3
      · refine .inr (fun hm => ?_)
        obtain ⟨k, h1, h2⟩ := (hS _).1 hm
        exact hk k h1 ((clash_iff _ _).2 (.inr (.inr ⟨hd, h2⟩)))
      · exact .inl hd
    · by_cases hd : o.f3 = 3
      · exact .inl hd
      · refine .inr (fun hm => ?_)
        obtain ⟨k, h1, h2, h3⟩ := (hT _).1 hm
        exact hk k h1 ((clash_iff _ _).2 (.inl ⟨hd, h2, h3⟩))
  · rintro ⟨h6, h7, h0⟩ k _ hk
    cases hc : clash o (rd_T83 l (k : Int)) with
    | false => rfl
    | true =>
      rcases (clash_iff _ _).1 hc with ⟨q1, q2, q3⟩ | q | ⟨q1, q2⟩
      · rcases h0 with h0 | h0
        · exact absurd h0 q1
        · exact absurd ((hT _).2 ⟨k, hk, q2, q3⟩) h0
      · exact absurd ((hS _).2 ⟨k, hk, q⟩) h6
      · rcases h7 with h7 | h7
        · exact absurd q1 h7
        · exact absurd ((hS _).2 ⟨k, hk, q2⟩) h7
/-- One op's look, both ways. -/
theorem opFine_eq (clk n : Int) (l : List S83) (i : Nat) (S T : List Int) (h : setsAt l i S T) (hc : 0 ≤ clk ∧ clk ≤ 1000) : opFine clk n l i = (!badA clk n S (rd_T83 l (i : Int)) && (if (rd_T83 l (i : Int)).f3 = 3 then !badC clk ((rd_T83 l (i : Int)).f6 :: S) (rd_T83 l (i : Int)) else !badB T (rd_T83 l (i : Int)))) := by
  unfold opFine
  rw [clashes l i S T h]
  generalize rd_T83 l (i : Int) = o
  unfold badD badA badC badB
  have e7 : inB o.f6 0 (wrap64 (clk - 1)) = true → inB o.f7 (wrap64 (o.f6 + 1)) (wrap64 (clk - 1)) = true → decide (o.f7 ∈ o.f6 :: S) = decide (o.f7 ∈ S) := by
    intro h1 h2
    have q1 := inB_iff.1 h1
    have q2 := inB_iff.1 h2
    rw [w64 (x := clk - 1) (by omega) (by omega)] at q1 q2
    rw [w64 (x := o.f6 + 1) (by omega) (by omega)] at q2
    apply decide_eq_decide.2
    rw [List.mem_cons]
    exact ⟨fun h => h.resolve_left (by omega), .inr⟩
  cases h1 : inB o.f6 0 (wrap64 (clk - 1)) with
  | false => simp
  | true =>
    by_cases hd : o.f3 = 3
    · rw [if_pos hd, show (o.f3 == 3) = true by simp [hd]]
      cases h2 : inB o.f7 (wrap64 (o.f6 + 1)) (wrap64 (clk - 1)) with
      | false => simp
      | true =>
        rw [e7 h1 h2]
        generalize inB o.f0 0 9 = b1
        generalize okVal o.f2 = b2
        generalize (!o.f1 && (o.f2.toList != ([] : List UInt8))) = b3
        generalize inB o.f3 1 3 = b4
        generalize risB o.f4 (wrap64 (n - 1)) = b5
        generalize decide (n < wrap64 (2 * (o.f4.length : Int))) = b6
        generalize okCp o.f5.f0 o.f5.f1 o.f5.f2 = b7
        generalize decide (o.f6 ∈ S) = b8
        generalize decide (o.f7 ∈ S) = b9
        generalize decide (0 < (o.f4.length : Int)) = b10
        clear e7 h1 h2 h
        cases b1 <;> cases b2 <;> cases b3 <;> cases b4 <;> cases b5 <;> cases b6 <;> cases b7 <;> cases b8 <;> cases b9 <;> cases b10 <;> rfl
    · rw [if_neg hd, show (o.f3 == 3) = false by simp [hd]]
      generalize inB o.f0 0 9 = b1
      generalize okVal o.f2 = b2
      generalize (!o.f1 && (o.f2.toList != ([] : List UInt8))) = b3
      generalize inB o.f3 1 3 = b4
      generalize risB o.f4 (wrap64 (n - 1)) = b5
      generalize decide (n < wrap64 (2 * (o.f4.length : Int))) = b6
      generalize okCp o.f5.f0 o.f5.f1 o.f5.f2 = b7
      generalize decide (o.f6 ∈ S) = b8
      generalize decide (o.f0 ∈ T) = b9
      generalize (o.f7 != 0) = b10
      clear e7 h1 h
      cases b1 <;> cases b2 <;> cases b3 <;> cases b4 <;> cases b5 <;> cases b6 <;> cases b7 <;> cases b8 <;> cases b9 <;> cases b10 <;> rfl
theorem setsAt_done {l : List S83} {i : Nat} {S T : List Int} (h : setsAt l i S T) (hd : (rd_T83 l (i : Int)).f3 = 3) : setsAt l (i + 1) ((rd_T83 l (i : Int)).f7 :: (rd_T83 l (i : Int)).f6 :: S) T := by
  obtain ⟨hS, hT⟩ := h
  refine ⟨fun y => ?_, fun y => ?_⟩
  · rw [List.mem_cons, List.mem_cons, hS]
    constructor
    · rintro (h | h | ⟨k, hk, h⟩)
      · exact ⟨i, by omega, .inr ⟨hd, h.symm⟩⟩
      · exact ⟨i, by omega, .inl h.symm⟩
      · exact ⟨k, by omega, h⟩
    · rintro ⟨k, hk, h⟩
      by_cases e : k = i
      · subst e
        rcases h with h | ⟨_, h⟩
        · exact .inr (.inl h.symm)
        · exact .inl h.symm
      · exact .inr (.inr ⟨k, by omega, h⟩)
  · rw [hT]
    constructor
    · rintro ⟨k, hk, h⟩; exact ⟨k, by omega, h⟩
    · rintro ⟨k, hk, h⟩
      by_cases e : k = i
      · subst e; exact absurd hd h.1
      · exact ⟨k, by omega, h⟩
theorem setsAt_open {l : List S83} {i : Nat} {S T : List Int} (h : setsAt l i S T) (hd : ¬ (rd_T83 l (i : Int)).f3 = 3) : setsAt l (i + 1) ((rd_T83 l (i : Int)).f6 :: S) ((rd_T83 l (i : Int)).f0 :: T) := by
  obtain ⟨hS, hT⟩ := h
  refine ⟨fun y => ?_, fun y => ?_⟩
  · rw [List.mem_cons, hS]
    constructor
    · rintro (h | ⟨k, hk, h⟩)
      · exact ⟨i, by omega, .inl h.symm⟩
      · exact ⟨k, by omega, h⟩
    · rintro ⟨k, hk, h⟩
      by_cases e : k = i
      · subst e
        rcases h with h | ⟨h, _⟩
        · exact .inl h.symm
        · exact absurd h hd
      · exact .inr ⟨k, by omega, h⟩
  · rw [List.mem_cons, hT]
    constructor
    · rintro (h | ⟨k, hk, h⟩)
      · exact ⟨i, by omega, hd, h.symm⟩
      · exact ⟨k, by omega, h⟩
    · rintro ⟨k, hk, h⟩
      by_cases e : k = i
      · subst e; exact .inl h.2.symm
      · exact .inr ⟨k, by omega, h⟩
theorem ops_eq (clk n : Int) (l : List S83) (hc : 0 ≤ clk ∧ clk ≤ 1000) : ∀ (m i : Nat) (S T : List Int), i + m = l.length → setsAt l i S T → allFrom (opFine clk n l) l.length i = goodOps clk n (l.drop i) S T := by
  intro m
  induction m with
  | zero =>
    intro i S T h _
    have : i = l.length := by omega
    subst this
    rw [allFrom_end, goodOps_end]
  | succ m ih =>
    intro i S T h hs
    have hlt : i < l.length := by omega
    rw [allFrom_step hlt, goodOps_step hlt, opFine_eq clk n l i S T hs hc, ← rdT83 hlt]
    have i1 := fun hd => ih (i + 1) _ _ (by omega) (setsAt_done hs hd)
    have i2 := fun hd => ih (i + 1) _ _ (by omega) (setsAt_open hs hd)
    generalize rd_T83 l (i : Int) = o at i1 i2 ⊢
    by_cases hd : o.f3 = 3
    · rw [if_pos hd, if_pos hd, i1 hd, Bool.and_assoc]
    · rw [if_neg hd, if_neg hd, i2 hd, Bool.and_assoc]
theorem any_not_all3 {α : Type} (p : α → Bool) (l : List α) : l.any (fun x => !p x) = !(l.all p) := by
  induction l with
  | nil => rfl
  | cons x r ih => simp [ih]
theorem goodRegS_eq (clk : Int) (l1 : List S40) (l2 : List S83) : goodRegS clk l1 l2 = goodReg clk l1 l2 := by
  unfold goodRegS goodReg badS badT
  rw [any_not_all3 (fun c : S40 => okCp c.f0 c.f1 c.f2)]
  cases h1 : inB clk 0 1000 with
  | false => rfl
  | true =>
    have hc := inB_iff.1 h1
    rw [ops_eq clk (l1.length : Int) l2 hc l2.length 0 [] [] (by omega) ⟨fun y => ⟨fun h => (by cases h), fun ⟨k, hk, _⟩ => (by omega)⟩, fun y => ⟨fun h => (by cases h), fun ⟨k, hk, _⟩ => (by omega)⟩⟩, List.drop_zero]
    cases inB (l1.length : Int) 1 12 <;> cases decide (7 < (l2.length : Int)) <;> cases l1.all (fun c => okCp c.f0 c.f1 c.f2) <;> rfl
theorem spec_CallsOf.ev (clk : Int) (l1 : List S40) (l2 : List S83) (h1 : okL40 l1) (h2 : okL83 l2) : Ev (fun k => spec_CallsOf.f k clk l1 l2) (callsP (goodReg clk l1 l2) l2) := by
  unfold spec_CallsOf.f
  rw [okL40_sz h1, okL83_sz h2, goodRegS_eq]
  exact Ev.pos rfl (Ev.now _)

theorem impl_CallsOf.ev (clk : Int) (l1 : List S40) (l2 : List S83) (h1 : okL40 l1) (h2 : okL83 l2) : Ev (fun k => impl_CallsOf.f k clk l1 l2) (callsP (goodReg clk l1 l2) l2) := by
  unfold impl_CallsOf.f
  rw [okL40_sz h1, okL83_sz h2]
  exact Ev.pos rfl (Ev.now _)

theorem laws_eqCall.refl (x0 : Int) (x1 : Bool) (x2 : ByteArray) (x3 : ByteArray) (x4 : Int) (x5 : Int) : laws_eqCall.f x0 x1 x2 x3 x4 x5 x0 x1 x2 x3 x4 x5 = some true := by
  unfold laws_eqCall.f; simp

def okE88 (z : S88) : Prop := okLS z.f2 ∧ okLS z.f3
def okL88 (l : List S88) : Prop := l.length ≤ 1048576 ∧ ∀ z ∈ l, okE88 z
def bigE88 (z : S88) : Prop := bigLS z.f2 ∧ bigLS z.f3
def bigL88 (l : List S88) : Prop := l.length ≤ 9223372036854775807 ∧ ∀ z ∈ l, bigE88 z
theorem laws_eqCallS.refl (x : List S88) (hx : okL88 x) : Ev (fun k => laws_eqCallS.f k x x) true := by
  unfold laws_eqCallS.f
  refine Ev.pos rfl (Ev.eq (Ev.up (g := fun k i => laws_eqCallS.l0 k x x i) x.length (fun _ => true) ?_) rfl)
  intro i hi ih
  refine Ev.step (fun k => by rw [laws_eqCallS.l0]) ?_
  by_cases hlt : i < x.length
  · have e : rd_T88 x (i : Int) = x[i] := getD_nat x _ hlt
    have h3 := hx.2 _ (List.getElem_mem hlt)
    have h1 := hx.1
    rw [e, w64_succ hlt (by omega)]
    exact Ev.pos (by omega) (Ev.pos (by omega) (Ev.pos (by omega) (Ev.bindS (laws_eqCall.refl (x[i].f0) (x[i].f1) (x[i].f2) (x[i].f3) (x[i].f4) (x[i].f5)) (Ev.pos rfl (ih hlt)))))
  · exact Ev.neg (by omega) (Ev.now _)

def mc88 (x : S88) : Nat := 6
def ms88 : List S88 → Nat
  | [] => 0
  | x :: r => mc88 x + ms88 r
def mok88 (l : List S88) : Prop := ∀ x ∈ l, True
theorem laws_markCallS.go (r : List S88) : mok88 r → ∀ (p q : List S88) (k0 : Int), 0 ≤ k0 → k0 + (ms88 r : Int) ≤ 9223372036854775807 → p.length + r.length ≤ 9223372036854775807 → q.length = p.length →
    ∃ r' : List S88, r'.length = r.length ∧ Ev (fun k => laws_markCallS.l0 k (p ++ r) k0 (p.length : Int)) (k0 + (ms88 r : Int), p ++ r') ∧ Ev (fun k => laws_heldCallS.l0 k (q ++ r') k0 (q.length : Int)) (k0 + (ms88 r : Int)) := by
  induction r with
  | nil =>
    intro _ p q k0 h0 h1 h2 hq
    refine ⟨[], rfl, ?_, ?_⟩
    · exact Ev.step (fun k => by rw [laws_markCallS.l0]) (Ev.neg (by simp) (Ev.some (by simp [ms88])))
    · exact Ev.step (fun k => by rw [laws_heldCallS.l0]) (Ev.neg (by simp) (Ev.some (by simp [ms88])))
  | cons x r ih =>
    intro hok p q k0 h0 h1 h2 hq
    have hx := hok x (List.mem_cons_self ..)
    have ih := ih (fun z hz => hok z (List.mem_cons_of_mem _ hz))
    have hms : ms88 (x :: r) = mc88 x + ms88 r := rfl
    simp only [mc88] at hms
    simp only [List.length_cons] at h2
    have e1 : wrap64 (k0 + 1) = k0 + 1 := w64 (by omega) (by omega)
    have e2 : wrap64 (k0 + 1 + 1) = k0 + 1 + 1 := w64 (by omega) (by omega)
    obtain ⟨t2, ht2⟩ := laws_markText.all (k0 + 1 + 1) (by omega) (by omega)
    have e3 : wrap64 (k0 + 1 + 1 + 1) = k0 + 1 + 1 + 1 := w64 (by omega) (by omega)
    obtain ⟨t3, ht3⟩ := laws_markText.all (k0 + 1 + 1 + 1) (by omega) (by omega)
    have e4 : wrap64 (k0 + 1 + 1 + 1 + 1) = k0 + 1 + 1 + 1 + 1 := w64 (by omega) (by omega)
    have e5 : wrap64 (k0 + 1 + 1 + 1 + 1 + 1) = k0 + 1 + 1 + 1 + 1 + 1 := w64 (by omega) (by omega)
    have e6 : wrap64 (k0 + 1 + 1 + 1 + 1 + 1 + 1) = k0 + 1 + 1 + 1 + 1 + 1 + 1 := w64 (by omega) (by omega)
    obtain ⟨r', hr', hm, hh⟩ := ih (p ++ [(⟨k0, ((Int.tmod (k0 + 1) 3) == 0), t2, t3, k0 + 1 + 1 + 1 + 1, k0 + 1 + 1 + 1 + 1 + 1⟩ : S88)]) (q ++ [(⟨k0, ((Int.tmod (k0 + 1) 3) == 0), t2, t3, k0 + 1 + 1 + 1 + 1, k0 + 1 + 1 + 1 + 1 + 1⟩ : S88)]) (k0 + 1 + 1 + 1 + 1 + 1 + 1) (by omega) (by omega) (by simp; omega) (by simp [hq])
    have ep : wrap64 ((p.length : Int) + 1) = (((p ++ [(⟨k0, ((Int.tmod (k0 + 1) 3) == 0), t2, t3, k0 + 1 + 1 + 1 + 1, k0 + 1 + 1 + 1 + 1 + 1⟩ : S88)]).length : Nat) : Int) := by rw [w64 (by omega) (by omega)]; simp
    have eq : wrap64 ((q.length : Int) + 1) = (((q ++ [(⟨k0, ((Int.tmod (k0 + 1) 3) == 0), t2, t3, k0 + 1 + 1 + 1 + 1, k0 + 1 + 1 + 1 + 1 + 1⟩ : S88)]).length : Nat) : Int) := by rw [w64 (by omega) (by omega)]; simp
    have rdp : ∀ (y : S88) (r : List S88), rd_T88 (p ++ y :: r) (p.length : Int) = y := fun y r => by simp [rd_T88]
    have rdq : rd_T88 (q ++ (⟨k0, ((Int.tmod (k0 + 1) 3) == 0), t2, t3, k0 + 1 + 1 + 1 + 1, k0 + 1 + 1 + 1 + 1 + 1⟩ : S88) :: r') (q.length : Int) = (⟨k0, ((Int.tmod (k0 + 1) 3) == 0), t2, t3, k0 + 1 + 1 + 1 + 1, k0 + 1 + 1 + 1 + 1 + 1⟩ : S88) := by simp [rd_T88]
    have stp : ∀ (y z : S88) (r : List S88), (p ++ y :: r).set (p.length : Int).toNat z = p ++ z :: r := fun y z r => by simp
    refine ⟨(⟨k0, ((Int.tmod (k0 + 1) 3) == 0), t2, t3, k0 + 1 + 1 + 1 + 1, k0 + 1 + 1 + 1 + 1 + 1⟩ : S88) :: r', by simp [hr'], ?_, ?_⟩
    · refine Ev.step (fun k => by rw [laws_markCallS.l0]) (Ev.pos (by simp; omega) (Ev.pos (by omega) ?_))
      simp only [Option.bind_some, rdp, stp]
      rw [e1, e2]
      refine Ev.bind ht2 ?_
      try dsimp only
      try simp only [Option.bind_some, rdp, stp]
      rw [e3]
      refine Ev.bind ht3 ?_
      try dsimp only
      try simp only [Option.bind_some, rdp, stp]
      rw [e4, e5, e6]
      rw [ep]
      have e_ : p ++ (⟨k0, ((Int.tmod (k0 + 1) 3) == 0), t2, t3, k0 + 1 + 1 + 1 + 1, k0 + 1 + 1 + 1 + 1 + 1⟩ : S88) :: r = (p ++ [(⟨k0, ((Int.tmod (k0 + 1) 3) == 0), t2, t3, k0 + 1 + 1 + 1 + 1, k0 + 1 + 1 + 1 + 1 + 1⟩ : S88)]) ++ r := by simp
      first | rw [e_] | (simp only [stp]; rw [e_])
      exact Ev.eq hm (by rw [Prod.mk.injEq]; exact ⟨by omega, by simp⟩)
    · refine Ev.step (fun k => by rw [laws_heldCallS.l0]) (Ev.pos (by simp; omega) (Ev.pos (by omega) ?_))
      rw [rdq]
      refine Ev.pos rfl ?_
      try rw [e1]
      refine Ev.neg (by simp) ?_
      try rw [e2]
      refine Ev.bind ht2 ?_
      refine Ev.pos rfl ?_
      try rw [e3]
      refine Ev.bind ht3 ?_
      refine Ev.pos rfl ?_
      try rw [e4]
      refine Ev.pos rfl ?_
      try rw [e5]
      refine Ev.pos rfl ?_
      try rw [e6]
      rw [eq]
      have e_ : q ++ (⟨k0, ((Int.tmod (k0 + 1) 3) == 0), t2, t3, k0 + 1 + 1 + 1 + 1, k0 + 1 + 1 + 1 + 1 + 1⟩ : S88) :: r' = (q ++ [(⟨k0, ((Int.tmod (k0 + 1) 3) == 0), t2, t3, k0 + 1 + 1 + 1 + 1, k0 + 1 + 1 + 1 + 1 + 1⟩ : S88)]) ++ r' := by simp
      rw [e_]
      exact Ev.eq hh (by omega)
theorem laws_markCallS.two (l : List S88) (k0 : Int) (h0 : 0 ≤ k0) (h1 : k0 + (ms88 l : Int) ≤ 9223372036854775807) (h2 : l.length ≤ 9223372036854775807) (h3 : mok88 l) : ∃ l' : List S88, l'.length = l.length ∧ Ev (fun k => laws_markCallS.f k l k0) (k0 + (ms88 l : Int), l') ∧ Ev (fun k => laws_heldCallS.f k l' k0) (k0 + (ms88 l : Int)) := by
  obtain ⟨l', e, h4, h5⟩ := laws_markCallS.go l h3 [] [] k0 h0 h1 (by simpa using h2) rfl
  exact ⟨l', e, by simpa [laws_markCallS.f] using h4, by simpa [laws_heldCallS.f] using h5⟩

def mc83 (x : S83) : Nat := 9 + (x.f4).length
def ms83 : List S83 → Nat
  | [] => 0
  | x :: r => mc83 x + ms83 r
def mok83 (l : List S83) : Prop := ∀ x ∈ l, x.f4.length ≤ 1048576
theorem laws_markRegOpS.go (r : List S83) : mok83 r → ∀ (p q : List S83) (k0 : Int), 0 ≤ k0 → k0 + (ms83 r : Int) ≤ 9223372036854775807 → p.length + r.length ≤ 9223372036854775807 → q.length = p.length →
    ∃ r' : List S83, r'.length = r.length ∧ Ev (fun k => laws_markRegOpS.l0 k (p ++ r) k0 (p.length : Int)) (k0 + (ms83 r : Int), p ++ r') := by
  induction r with
  | nil =>
    intro _ p q k0 h0 h1 h2 hq
    refine ⟨[], rfl, ?_⟩
    · exact Ev.step (fun k => by rw [laws_markRegOpS.l0]) (Ev.neg (by simp) (Ev.some (by simp [ms83])))
  | cons x r ih =>
    intro hok p q k0 h0 h1 h2 hq
    have hx := hok x (List.mem_cons_self ..)
    have ih := ih (fun z hz => hok z (List.mem_cons_of_mem _ hz))
    have hms : ms83 (x :: r) = mc83 x + ms83 r := rfl
    simp only [mc83] at hms
    simp only [List.length_cons] at h2
    have hx4 := hx
    have e1 : wrap64 (k0 + 1) = k0 + 1 := w64 (by omega) (by omega)
    have e2 : wrap64 (k0 + 1 + 1) = k0 + 1 + 1 := w64 (by omega) (by omega)
    obtain ⟨t2, ht2⟩ := laws_markText.all (k0 + 1 + 1) (by omega) (by omega)
    have e3 : wrap64 (k0 + 1 + 1 + 1) = k0 + 1 + 1 + 1 := w64 (by omega) (by omega)
    have e4 : wrap64 (k0 + 1 + 1 + 1 + 1) = k0 + 1 + 1 + 1 + 1 := w64 (by omega) (by omega)
    obtain ⟨l4, hl4, hm4⟩ := laws_markIntS.two x.f4 (k0 + 1 + 1 + 1 + 1) (by omega) (by omega) (by omega)
    have e5 : wrap64 (k0 + 1 + 1 + 1 + 1 + ((x.f4).length : Int) + 1) = k0 + 1 + 1 + 1 + 1 + ((x.f4).length : Int) + 1 := w64 (by omega) (by omega)
    have e6 : wrap64 (k0 + 1 + 1 + 1 + 1 + ((x.f4).length : Int) + 1 + 1) = k0 + 1 + 1 + 1 + 1 + ((x.f4).length : Int) + 1 + 1 := w64 (by omega) (by omega)
    obtain ⟨t7, ht7⟩ := laws_markText.all (k0 + 1 + 1 + 1 + 1 + ((x.f4).length : Int) + 1 + 1) (by omega) (by omega)
    have e7 : wrap64 (k0 + 1 + 1 + 1 + 1 + ((x.f4).length : Int) + 1 + 1 + 1) = k0 + 1 + 1 + 1 + 1 + ((x.f4).length : Int) + 1 + 1 + 1 := w64 (by omega) (by omega)
    have e8 : wrap64 (k0 + 1 + 1 + 1 + 1 + ((x.f4).length : Int) + 1 + 1 + 1 + 1) = k0 + 1 + 1 + 1 + 1 + ((x.f4).length : Int) + 1 + 1 + 1 + 1 := w64 (by omega) (by omega)
    have e9 : wrap64 (k0 + 1 + 1 + 1 + 1 + ((x.f4).length : Int) + 1 + 1 + 1 + 1 + 1) = k0 + 1 + 1 + 1 + 1 + ((x.f4).length : Int) + 1 + 1 + 1 + 1 + 1 := w64 (by omega) (by omega)
    obtain ⟨r', hr', hm⟩ := ih (p ++ [(⟨k0, ((Int.tmod (k0 + 1) 3) == 0), t2, k0 + 1 + 1 + 1, l4, ⟨k0 + 1 + 1 + 1 + 1 + ((x.f4).length : Int), k0 + 1 + 1 + 1 + 1 + ((x.f4).length : Int) + 1, t7⟩, k0 + 1 + 1 + 1 + 1 + ((x.f4).length : Int) + 1 + 1 + 1, k0 + 1 + 1 + 1 + 1 + ((x.f4).length : Int) + 1 + 1 + 1 + 1⟩ : S83)]) (q ++ [(⟨k0, ((Int.tmod (k0 + 1) 3) == 0), t2, k0 + 1 + 1 + 1, l4, ⟨k0 + 1 + 1 + 1 + 1 + ((x.f4).length : Int), k0 + 1 + 1 + 1 + 1 + ((x.f4).length : Int) + 1, t7⟩, k0 + 1 + 1 + 1 + 1 + ((x.f4).length : Int) + 1 + 1 + 1, k0 + 1 + 1 + 1 + 1 + ((x.f4).length : Int) + 1 + 1 + 1 + 1⟩ : S83)]) (k0 + 1 + 1 + 1 + 1 + ((x.f4).length : Int) + 1 + 1 + 1 + 1 + 1) (by omega) (by omega) (by simp; omega) (by simp [hq])
    have ep : wrap64 ((p.length : Int) + 1) = (((p ++ [(⟨k0, ((Int.tmod (k0 + 1) 3) == 0), t2, k0 + 1 + 1 + 1, l4, ⟨k0 + 1 + 1 + 1 + 1 + ((x.f4).length : Int), k0 + 1 + 1 + 1 + 1 + ((x.f4).length : Int) + 1, t7⟩, k0 + 1 + 1 + 1 + 1 + ((x.f4).length : Int) + 1 + 1 + 1, k0 + 1 + 1 + 1 + 1 + ((x.f4).length : Int) + 1 + 1 + 1 + 1⟩ : S83)]).length : Nat) : Int) := by rw [w64 (by omega) (by omega)]; simp
    have eq : wrap64 ((q.length : Int) + 1) = (((q ++ [(⟨k0, ((Int.tmod (k0 + 1) 3) == 0), t2, k0 + 1 + 1 + 1, l4, ⟨k0 + 1 + 1 + 1 + 1 + ((x.f4).length : Int), k0 + 1 + 1 + 1 + 1 + ((x.f4).length : Int) + 1, t7⟩, k0 + 1 + 1 + 1 + 1 + ((x.f4).length : Int) + 1 + 1 + 1, k0 + 1 + 1 + 1 + 1 + ((x.f4).length : Int) + 1 + 1 + 1 + 1⟩ : S83)]).length : Nat) : Int) := by rw [w64 (by omega) (by omega)]; simp
    have rdp : ∀ (y : S83) (r : List S83), rd_T83 (p ++ y :: r) (p.length : Int) = y := fun y r => by simp [rd_T83]
    have rdq : rd_T83 (q ++ (⟨k0, ((Int.tmod (k0 + 1) 3) == 0), t2, k0 + 1 + 1 + 1, l4, ⟨k0 + 1 + 1 + 1 + 1 + ((x.f4).length : Int), k0 + 1 + 1 + 1 + 1 + ((x.f4).length : Int) + 1, t7⟩, k0 + 1 + 1 + 1 + 1 + ((x.f4).length : Int) + 1 + 1 + 1, k0 + 1 + 1 + 1 + 1 + ((x.f4).length : Int) + 1 + 1 + 1 + 1⟩ : S83) :: r') (q.length : Int) = (⟨k0, ((Int.tmod (k0 + 1) 3) == 0), t2, k0 + 1 + 1 + 1, l4, ⟨k0 + 1 + 1 + 1 + 1 + ((x.f4).length : Int), k0 + 1 + 1 + 1 + 1 + ((x.f4).length : Int) + 1, t7⟩, k0 + 1 + 1 + 1 + 1 + ((x.f4).length : Int) + 1 + 1 + 1, k0 + 1 + 1 + 1 + 1 + ((x.f4).length : Int) + 1 + 1 + 1 + 1⟩ : S83) := by simp [rd_T83]
    have stp : ∀ (y z : S83) (r : List S83), (p ++ y :: r).set (p.length : Int).toNat z = p ++ z :: r := fun y z r => by simp
    refine ⟨(⟨k0, ((Int.tmod (k0 + 1) 3) == 0), t2, k0 + 1 + 1 + 1, l4, ⟨k0 + 1 + 1 + 1 + 1 + ((x.f4).length : Int), k0 + 1 + 1 + 1 + 1 + ((x.f4).length : Int) + 1, t7⟩, k0 + 1 + 1 + 1 + 1 + ((x.f4).length : Int) + 1 + 1 + 1, k0 + 1 + 1 + 1 + 1 + ((x.f4).length : Int) + 1 + 1 + 1 + 1⟩ : S83) :: r', by simp [hr'], ?_⟩
    · refine Ev.step (fun k => by rw [laws_markRegOpS.l0]) (Ev.pos (by simp; omega) (Ev.pos (by omega) ?_))
      simp only [Option.bind_some, rdp, stp]
      rw [e1, e2]
      refine Ev.bind ht2 ?_
      try dsimp only
      try simp only [Option.bind_some, rdp, stp]
      rw [e3, e4]
      refine Ev.bind hm4 ?_
      try dsimp only
      rw [e5, e6]
      refine Ev.bind ht7 ?_
      try dsimp only
      try simp only [Option.bind_some, rdp, stp]
      rw [e7, e8, e9]
      rw [ep]
      have e_ : p ++ (⟨k0, ((Int.tmod (k0 + 1) 3) == 0), t2, k0 + 1 + 1 + 1, l4, ⟨k0 + 1 + 1 + 1 + 1 + ((x.f4).length : Int), k0 + 1 + 1 + 1 + 1 + ((x.f4).length : Int) + 1, t7⟩, k0 + 1 + 1 + 1 + 1 + ((x.f4).length : Int) + 1 + 1 + 1, k0 + 1 + 1 + 1 + 1 + ((x.f4).length : Int) + 1 + 1 + 1 + 1⟩ : S83) :: r = (p ++ [(⟨k0, ((Int.tmod (k0 + 1) 3) == 0), t2, k0 + 1 + 1 + 1, l4, ⟨k0 + 1 + 1 + 1 + 1 + ((x.f4).length : Int), k0 + 1 + 1 + 1 + 1 + ((x.f4).length : Int) + 1, t7⟩, k0 + 1 + 1 + 1 + 1 + ((x.f4).length : Int) + 1 + 1 + 1, k0 + 1 + 1 + 1 + 1 + ((x.f4).length : Int) + 1 + 1 + 1 + 1⟩ : S83)]) ++ r := by simp
      first | rw [e_] | (simp only [stp]; rw [e_])
      exact Ev.eq hm (by rw [Prod.mk.injEq]; exact ⟨by omega, by simp⟩)
theorem laws_markRegOpS.two (l : List S83) (k0 : Int) (h0 : 0 ≤ k0) (h1 : k0 + (ms83 l : Int) ≤ 9223372036854775807) (h2 : l.length ≤ 9223372036854775807) (h3 : mok83 l) : ∃ l' : List S83, l'.length = l.length ∧ Ev (fun k => laws_markRegOpS.f k l k0) (k0 + (ms83 l : Int), l') := by
  obtain ⟨l', e, h4⟩ := laws_markRegOpS.go l h3 [] [] k0 h0 h1 (by simpa using h2) rfl
  exact ⟨l', e, by simpa [laws_markRegOpS.f] using h4⟩

theorem ms40_len (l : List S40) : ms40 l = 3 * l.length := by
  induction l with
  | nil => rfl
  | cons x r ih => simp only [ms40, mc40, List.length_cons, ih]; omega
theorem ms83_le (l : List S83) (h : mok83 l) : ms83 l ≤ 1048585 * l.length := by
  induction l with
  | nil => simp [ms83]
  | cons x r ih =>
    have q := h x (List.mem_cons_self ..)
    have := ih (fun z hz => h z (List.mem_cons_of_mem _ hz))
    simp only [ms83, mc83, List.length_cons]; omega
theorem laws_markRegister.some (a : Int) (c : List S40) (l : List S83) (h1 : okL40 c) (h2 : okL83 l) : ∃ (r : Int) (m1 : List S40) (m2 : List S83), 0 ≤ r ∧ Ev (fun k => laws_markRegister.f k a c l 1) (r, m1, m2) := by
  have q1 : c.length ≤ 1048576 := h1.1
  have q2 : l.length ≤ 1048576 := h2.1
  have hm : mok83 l := fun x hx => (h2.2 x hx).2.1
  have b1 := ms40_len c
  have b2 := ms83_le l hm
  obtain ⟨m1, _, e1⟩ := laws_markCopyS.two c 1 (by omega) (by omega) (by omega) (fun _ _ => trivial)
  obtain ⟨m2, _, e2⟩ := laws_markRegOpS.two l (1 + (ms40 c : Int)) (by omega) (by omega) (by omega) hm
  refine ⟨1 + (ms40 c : Int) + (ms83 l : Int), m1, m2, by omega, ?_⟩
  unfold laws_markRegister.f
  exact Ev.bind e1 (Ev.bind e2 (Ev.now _))

theorem callsFrom_ok : ∀ (l : List S83) (i : Nat), (∀ z ∈ l, okE83 z) → (callsFrom l i).length ≤ l.length ∧ ∀ z ∈ callsFrom l i, okE88 z := by
  intro l
  induction l with
  | nil => intro i _; exact ⟨Nat.le_refl _, fun z hz => by cases hz⟩
  | cons o r ih =>
    intro i h
    obtain ⟨h1, h2⟩ := ih (i + 1) (fun z hz => h z (List.mem_cons_of_mem _ hz))
    have ho := h o (List.mem_cons_self ..)
    refine ⟨?_, fun z hz => ?_⟩
    · unfold callsFrom; split <;> simp <;> omega
    · unfold callsFrom at hz
      rcases List.mem_append.1 hz with hz | hz
      · split at hz
        · rw [List.mem_singleton] at hz
          subst hz
          unfold okE88 callOf
          refine ⟨by show (1 : Nat) ≤ _; omega, ?_⟩
          dsimp only
          split
          · exact ho.1
          · exact ho.2.2
        · cases hz
      · exact h2 z hz
theorem callsP_ok (b : Bool) (l : List S83) (h : okL83 l) : okL88 (callsP b l).1 := by
  unfold callsP
  split
  · obtain ⟨h1, h2⟩ := callsFrom_ok l 0 h.2
    have := h.1
    exact ⟨by show (callsFrom l 0).length ≤ 1048576; omega, h2⟩
  · exact ⟨by simp, fun z hz => by cases hz⟩
theorem ms88_len (l : List S88) : ms88 l = 6 * l.length := by
  induction l with
  | nil => rfl
  | cons x r ih => simp only [ms88, mc88, List.length_cons, ih]; omega
theorem holds_ev (x0 : Int) (x1 : List S109) (x2 : List S112) (h1 : bigL109 x1) (h2 : bigL112 x2) : Ev (fun k => laws_FnExactCallsOf.f k x0 x1 x2) true := by
  unfold laws_FnExactCallsOf.f
  obtain ⟨r, hr, _, hsz⟩ := laws_szRegister.ev x0 x1 x2 1048576 (by omega) (by omega) h1 h2
  refine Ev.bind hr ?_
  try dsimp only
  refine Ev.cases (fun _ => Ev.some rfl) (fun hn => ?_)
  obtain ⟨o1, o2⟩ := hsz (by omega)
  have o3 := okL109_map o1
  have o4 := okL112_map o2
  refine Ev.bind (laws_toRegister.ev x0 x1 x2 o1 o2) ?_
  try dsimp only
  have hS := spec_CallsOf.ev x0 _ _ o3 o4
  have hI := impl_CallsOf.ev x0 _ _ o3 o4
  have hok := callsP_ok (goodReg x0 (x1.map c109) (x2.map c112)) _ o4
  have hE := laws_eqRegister.refl x0 _ _ o3 o4
  obtain ⟨m, m1, m2, hm0, hm⟩ := laws_markRegister.some x0 _ _ o3 o4
  generalize x1.map c109 = c at *
  generalize x2.map c112 = l at *
  generalize callsP (goodReg x0 c l) l = N at *
  obtain ⟨cs, ok⟩ := N
  dsimp only at hok
  refine Ev.bind hS ?_
  try dsimp only
  refine Ev.bind hI ?_
  try dsimp only
  have q1 : cs.length ≤ 1048576 := hok.1
  have b1 := ms88_len cs
  obtain ⟨m3, _, k1, k2⟩ := laws_markCallS.two cs 1 (by omega) (by omega) (by omega) (fun _ _ => trivial)
  refine Ev.iff (laws_eqCallS.refl cs hok) (Ev.pos rfl (Ev.iff hE (Ev.bind hm ?_)))
  try dsimp only
  refine Ev.pos (by omega) (Ev.bind k1 ?_)
  try dsimp only
  refine Ev.bind k2 ?_
  try dsimp only
  exact Ev.pos (by omega) (Ev.pos rfl (Ev.now _))

end Go.Proofs.Ytipfikmbldgliaa.PRG
namespace Go.Proofs.Ytipfikmbldgliaa.PureFnExactCallsOf
open Go.RowKit Go.Proofs.Ytipfikmbldgliaa.PRG Go.Proofs.Ytipfikmbldgliaa.Base Go.Proofs.Ytipfikmbldgliaa.Open Go.Proofs.YtipfikmbldgliaaW.PrintWords Go.Proofs.YtipfikmbldgliaaW.PrintLast
theorem holds (a0_0 : Int) (l0_1 : List S109) (l0_2 : List S112) (w0 : ((Lit.int .i64 a0_0).wf = true ∧ (l0_1.length ≤ 9223372036854775807 ∧ ∀ z ∈ l0_1, W109 z) ∧ (l0_2.length ≤ 9223372036854775807 ∧ ∀ z ∈ l0_2, W112 z))) : ∃ k, Go.Proofs.Ytipfikmbldgliaa.PRG.laws_FnExactCallsOf.f k a0_0 l0_1 l0_2 = some true := by
  exact (holds_ev _ _ _ ⟨w0.2.1.1, fun z hz => (w0.2.1.2 z hz).2.2⟩ ⟨w0.2.2.1, fun z hz => ⟨(w0.2.2.2 z hz).2.2.1, (w0.2.2.2 z hz).2.2.2.2.1.1, (w0.2.2.2 z hz).2.2.2.2.2.1.2.2⟩⟩).rounds
end Go.Proofs.Ytipfikmbldgliaa.PureFnExactCallsOf
