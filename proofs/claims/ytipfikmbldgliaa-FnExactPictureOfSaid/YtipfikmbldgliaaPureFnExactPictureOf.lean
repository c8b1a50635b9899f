/- What this text proves: laws.FnExactPictureOf, told as plain functions of numbers and lists, answers true for all arguments.
   Conditions: the bounds that the typed reading gives. -/
import Derived.Test.YtipfikmbldgliaaPNXx13
import Derived.Test.YtipfikmbldgliaaOpen
import Derived.Test.YtipfikmbldgliaaBase
namespace Go.Proofs.Ytipfikmbldgliaa.PNX
open Go.RowKit Go.Proofs.Ytipfikmbldgliaa.Base Go.Proofs.Ytipfikmbldgliaa.Open Go.Proofs.YtipfikmbldgliaaW.PrintWords Go.Proofs.YtipfikmbldgliaaW.PrintLast Go.Proofs.YtipfikmbldgliaaW.PrintMore
set_option linter.unusedVariables false
set_option linter.unusedSimpArgs false
theorem op3 : Opens Try.prog 3 (Kd.int .i64) (fun x => (Lit.int .i64 x).wf = true) := Opens.int Try.underlying3 (by kernel_rfl)
theorem op4 : Opens Try.prog 4 Kd.bool (fun x => True) := Opens.bool Try.underlying4 (by kernel_rfl)
def W127 (x : S127) : Prop := (Lit.int .i64 x.f0).wf = true ∧ True ∧ (Lit.int .i64 x.f2).wf = true
theorem o127 : Opens Try.prog 127 k127 W127 := by
  have h := Opens.struct Try.underlying127 (by kernel_rfl) (Fits.cons (P := Try.prog) rfl op3 (Fits.cons (P := Try.prog) rfl op4 (Fits.one (P := Try.prog) rfl op3)))
  exact Opens.iso (fun x : S127 => (x.f0, x.f1, x.f2)) (fun p => ⟨p.1, p.2.1, p.2.2⟩) (fun _ => rfl) h
theorem op62 : Opens Try.prog 62 (Kd.slice 127 k127) (fun x => (x.length ≤ 9223372036854775807 ∧ ∀ z ∈ x, W127 z)) := Opens.slice Try.underlying62 (by kernel_rfl) o127
def W143 (x : S143) : Prop := True ∧ (Lit.int .i64 x.f1).wf = true
theorem o143 : Opens Try.prog 143 k143 W143 := by
  have h := Opens.struct Try.underlying143 (by kernel_rfl) (Fits.cons (P := Try.prog) rfl op4 (Fits.one (P := Try.prog) rfl op3))
  exact Opens.iso (fun x : S143 => (x.f0, x.f1)) (fun p => ⟨p.1, p.2⟩) (fun _ => rfl) h
theorem op123 : Opens Try.prog 123 (Kd.slice 143 k143) (fun x => (x.length ≤ 9223372036854775807 ∧ ∀ z ∈ x, W143 z)) := Opens.slice Try.underlying123 (by kernel_rfl) o143
theorem op49 : Opens Try.prog 49 (Kd.slice 3 (Kd.int .i64)) (fun x => (x.length ≤ 9223372036854775807 ∧ ∀ z ∈ x, (Lit.int .i64 z).wf = true)) := Opens.slice Try.underlying49 (by kernel_rfl) op3
def W125 (x : S125) : Prop := (Lit.int .i64 x.f0).wf = true ∧ (Lit.int .i64 x.f1).wf = true ∧ (x.f2.length ≤ 9223372036854775807 ∧ ∀ z ∈ x.f2, W143 z) ∧ True ∧ (x.f4.length ≤ 9223372036854775807 ∧ ∀ z ∈ x.f4, (Lit.int .i64 z).wf = true)
theorem o125 : Opens Try.prog 125 k125 W125 := by
  have h := Opens.struct Try.underlying125 (by kernel_rfl) (Fits.cons (P := Try.prog) rfl op3 (Fits.cons (P := Try.prog) rfl op3 (Fits.cons (P := Try.prog) rfl op123 (Fits.cons (P := Try.prog) rfl op4 (Fits.one (P := Try.prog) rfl op49)))))
  exact Opens.iso (fun x : S125 => (x.f0, x.f1, x.f2, x.f3, x.f4)) (fun p => ⟨p.1, p.2.1, p.2.2.1, p.2.2.2.1, p.2.2.2.2⟩) (fun _ => rfl) h
theorem op63 : Opens Try.prog 63 (Kd.slice 125 k125) (fun x => (x.length ≤ 9223372036854775807 ∧ ∀ z ∈ x, W125 z)) := Opens.slice Try.underlying63 (by kernel_rfl) o125
/-- The place of the first element at which p says yes, counted from i; -1 for none. -/
def idxN {α : Type} (p : α → Bool) : List α → Nat → Int
  | [], _ => -1
  | x :: r, i => if p x = true then (i : Int) else idxN p r (i + 1)
theorem idxO_val {α : Type} {F : α → Option Bool} {p : α → Bool} : ∀ (l : List α) (i : Nat), (∀ x ∈ l, F x = some (p x)) → idxO F l i = some (idxN p l i)
  | [], _, _ => rfl
  | x :: r, i, h => by
    simp only [idxO, idxN, h x (List.mem_cons_self ..), Option.bind_some]
    rw [idxO_val r (i + 1) (fun y hy => h y (List.mem_cons_of_mem _ hy))]
    split <;> rfl
theorem idxN_cons {α : Type} (p : α → Bool) (x : α) (r : List α) (i : Nat) : idxN p (x :: r) i = if p x = true then (i : Int) else idxN p r (i + 1) := rfl
theorem idxN_anyP {α : Type} (p : α → Bool) : ∀ (l : List α) (i : Nat), (idxN p l i ≥ 0) ↔ l.any p = true
  | [], _ => by simp [idxN]
  | x :: r, i => by
    rw [idxN_cons]
    by_cases h : p x = true
    · rw [if_pos h, List.any_cons, h]; simp
    · rw [if_neg h, List.any_cons, Bool.eq_false_iff.2 h, Bool.false_or]; exact idxN_anyP p r (i + 1)
theorem idxN_any {α : Type} (p : α → Bool) (l : List α) (i : Nat) : decide (idxN p l i ≥ 0) = l.any p := by
  rw [Bool.eq_iff_iff, decide_eq_true_iff]; exact idxN_anyP p l i
theorem idxN_ge {α : Type} (p : α → Bool) : ∀ (l : List α) (i : Nat), idxN p l i = -1 ∨ (i : Int) ≤ idxN p l i
  | [], _ => .inl rfl
  | x :: r, i => by
    simp only [idxN]
    split
    · exact .inr (Int.le_refl _)
    · rcases idxN_ge p r (i + 1) with h | h
      · exact .inl h
      · exact .inr (by omega)
theorem idxO_any {α : Type} {F : α → Option Bool} {p : α → Bool} {l : List α} (h : ∀ x ∈ l, F x = some (p x)) : ((idxO F l 0).bind fun i => some (decide (i ≥ 0))) = some (l.any p) := by
  rw [idxO_val l 0 h]; simp only [Option.bind_some]; rw [idxN_any]
theorem idxO_Ev {α : Type} {F : Nat → α → Option Bool} {p : α → Bool} : ∀ (l : List α) (i : Nat), (∀ x ∈ l, Ev (fun k => F k x) (p x)) → Ev (fun k => idxO (F k) l i) (idxN p l i)
  | [], _, _ => Ev.now _
  | x :: r, i, h => by
    show Ev (fun k => (F k x).bind fun b => if b = true then some (i : Int) else idxO (F k) r (i + 1)) _
    refine Ev.bind (h x (List.mem_cons_self ..)) ?_
    simp only [idxN]
    refine Ev.cases (fun hp => Ev.some (by rw [if_pos hp])) (fun hp => ?_)
    rw [if_neg hp]
    exact idxO_Ev r (i + 1) (fun y hy => h y (List.mem_cons_of_mem _ hy))
theorem idxAny_Ev {α : Type} {F : Nat → α → Option Bool} {p : α → Bool} {l : List α} (h : ∀ x ∈ l, Ev (fun k => F k x) (p x)) : Ev (fun k => (idxO (F k) l 0).bind fun i => some (decide (i ≥ 0))) (l.any p) := by
  refine Ev.bind (idxO_Ev l 0 h) (Ev.some ?_)
  exact idxN_any p l 0

theorem laws_eqBank.refl (x0 : Int) (x1 : Bool) (x2 : Int) : laws_eqBank.f x0 x1 x2 x0 x1 x2 = some true := by
  unfold laws_eqBank.f; simp

def okE92 (z : S92) : Prop := True
def okL92 (l : List S92) : Prop := l.length ≤ 1048576 ∧ ∀ z ∈ l, okE92 z
def bigE92 (z : S92) : Prop := True
def bigL92 (l : List S92) : Prop := l.length ≤ 9223372036854775807 ∧ ∀ z ∈ l, bigE92 z
theorem laws_eqBankS.refl (x : List S92) (hx : okL92 x) : Ev (fun k => laws_eqBankS.f k x x) true := by
  unfold laws_eqBankS.f
  refine Ev.pos rfl (Ev.eq (Ev.up (g := fun k i => laws_eqBankS.l0 k x x i) x.length (fun _ => true) ?_) rfl)
  intro i hi ih
  refine Ev.step (fun k => by rw [laws_eqBankS.l0]) ?_
  by_cases hlt : i < x.length
  · have e : rd_T92 x (i : Int) = x[i] := getD_nat x _ hlt
    have h3 := hx.2 _ (List.getElem_mem hlt)
    have h1 := hx.1
    rw [e, w64_succ hlt (by omega)]
    exact Ev.pos (by omega) (Ev.pos (by omega) (Ev.pos (by omega) (Ev.bindS (laws_eqBank.refl (x[i].f0) (x[i].f1) (x[i].f2)) (Ev.pos rfl (ih hlt)))))
  · exact Ev.neg (by omega) (Ev.now _)

def okLI (l : List Int) : Prop := l.length ≤ 1048576
def bigLI (l : List Int) : Prop := l.length ≤ 9223372036854775807
theorem laws_eqIntS.ev (x y : List Int) (hx : x.length ≤ 9223372036854775807) : Ev (fun k => laws_eqIntS.f k x y) (decide (x = y)) := by
  unfold laws_eqIntS.f
  refine Ev.cases (fun hl => ?_) (fun hl => Ev.some ?_)
  · have hl' : x.length = y.length := by omega
    refine Ev.eq (Ev.up (g := fun k i => laws_eqIntS.l0 k x y i) x.length (fun i => decide (x.drop i = y.drop i)) ?_) (by simp)
    intro i hi ih
    refine Ev.step (fun k => by rw [laws_eqIntS.l0]) ?_
    by_cases hlt : i < x.length
    · refine Ev.pos (by omega) (Ev.pos (by omega) (Ev.pos (by omega) ?_))
      rw [rd_get hlt, rd_get (by omega : i < y.length), w64_succ hlt hx]
      have e : decide (x.drop i = y.drop i) = (decide (x[i] = y[i]) && decide (x.drop (i + 1) = y.drop (i + 1))) := drop_eq_step hlt (by omega)
      rw [e]
      refine Ev.cases (fun he => ?_) (fun he => Ev.some (by rw [decide_eq_false he]; rfl))
      exact Ev.eq (ih hlt) (by rw [decide_eq_true he]; rfl)
    · refine Ev.neg (by omega) (Ev.some ?_)
      rw [List.drop_of_length_le (by omega), List.drop_of_length_le (by omega)]
      simp
  · have : x ≠ y := fun h => hl (by rw [h])
    simp [this]
theorem laws_eqIntS.refl (x : List Int) (hx : okLI x) : Ev (fun k => laws_eqIntS.f k x x) true := Ev.eq (laws_eqIntS.ev x x (by unfold okLI at hx; omega)) (by simp)

theorem laws_eqParcel.refl (x0 : Bool) (x1 : Int) : laws_eqParcel.f x0 x1 x0 x1 = some true := by
  unfold laws_eqParcel.f; simp

def okE103 (z : S103) : Prop := True
def okL103 (l : List S103) : Prop := l.length ≤ 1048576 ∧ ∀ z ∈ l, okE103 z
def bigE103 (z : S103) : Prop := True
def bigL103 (l : List S103) : Prop := l.length ≤ 9223372036854775807 ∧ ∀ z ∈ l, bigE103 z
theorem laws_eqParcelS.refl (x : List S103) (hx : okL103 x) : Ev (fun k => laws_eqParcelS.f k x x) true := by
  unfold laws_eqParcelS.f
  refine Ev.pos rfl (Ev.eq (Ev.up (g := fun k i => laws_eqParcelS.l0 k x x i) x.length (fun _ => true) ?_) rfl)
  intro i hi ih
  refine Ev.step (fun k => by rw [laws_eqParcelS.l0]) ?_
  by_cases hlt : i < x.length
  · have e : rd_T103 x (i : Int) = x[i] := getD_nat x _ hlt
    have h3 := hx.2 _ (List.getElem_mem hlt)
    have h1 := hx.1
    rw [e, w64_succ hlt (by omega)]
    exact Ev.pos (by omega) (Ev.pos (by omega) (Ev.pos (by omega) (Ev.bindS (laws_eqParcel.refl (x[i].f0) (x[i].f1)) (Ev.pos rfl (ih hlt)))))
  · exact Ev.neg (by omega) (Ev.now _)

theorem laws_eqWay.refl (x0 : Int) (x1 : Int) (x2 : List (S103)) (x3 : Bool) (x4 : List Int) (h2 : okL103 x2) (h4 : okLI x4) : Ev (fun k => laws_eqWay.f k x0 x1 x2 x3 x4 x0 x1 x2 x3 x4) true := by
  unfold laws_eqWay.f
  exact (Ev.pos rfl (Ev.pos rfl (Ev.bind (laws_eqParcelS.refl _ h2) (Ev.pos rfl (Ev.neg (by simp) (Ev.bind (laws_eqIntS.refl _ h4) (Ev.pos rfl (Ev.now _))))))))

def okE95 (z : S95) : Prop := okL103 z.f2 ∧ okLI z.f4
def okL95 (l : List S95) : Prop := l.length ≤ 1048576 ∧ ∀ z ∈ l, okE95 z
def bigE95 (z : S95) : Prop := bigL103 z.f2 ∧ bigLI z.f4
def bigL95 (l : List S95) : Prop := l.length ≤ 9223372036854775807 ∧ ∀ z ∈ l, bigE95 z
theorem laws_eqWayS.refl (x : List S95) (hx : okL95 x) : Ev (fun k => laws_eqWayS.f k x x) true := by
  unfold laws_eqWayS.f
  refine Ev.pos rfl (Ev.eq (Ev.up (g := fun k i => laws_eqWayS.l0 k x x i) x.length (fun _ => true) ?_) rfl)
  intro i hi ih
  refine Ev.step (fun k => by rw [laws_eqWayS.l0]) ?_
  by_cases hlt : i < x.length
  · have e : rd_T95 x (i : Int) = x[i] := getD_nat x _ hlt
    have h3 := hx.2 _ (List.getElem_mem hlt)
    have h1 := hx.1
    rw [e, w64_succ hlt (by omega)]
    exact Ev.pos (by omega) (Ev.pos (by omega) (Ev.pos (by omega) (Ev.bind (laws_eqWay.refl (x[i].f0) (x[i].f1) (x[i].f2) (x[i].f3) (x[i].f4) (h3.1) (h3.2)) (Ev.pos rfl (ih hlt)))))
  · exact Ev.neg (by omega) (Ev.now _)

theorem laws_eqNet.refl (x0 : List (S92)) (x1 : List (S95)) (h0 : okL92 x0) (h1 : okL95 x1) : Ev (fun k => laws_eqNet.f k x0 x1 x0 x1) true := by
  unfold laws_eqNet.f
  exact (Ev.bind (laws_eqBankS.refl _ h0) (Ev.pos rfl (Ev.bind (laws_eqWayS.refl _ h1) (Ev.pos rfl (Ev.now _)))))

def okE127 (z : S127) : Prop := True
def okL127 (l : List S127) : Prop := l.length ≤ 1048576 ∧ ∀ z ∈ l, okE127 z
def bigE127 (z : S127) : Prop := True
def bigL127 (l : List S127) : Prop := l.length ≤ 9223372036854775807 ∧ ∀ z ∈ l, bigE127 z
theorem laws_szBankS.ev (l : List S127) (a : Int) (h0 : 0 ≤ a) (h1 : a ≤ 1048576) (hb : bigL127 l) : ∃ r, laws_szBankS.f l a = some r ∧ r ≤ a ∧ (0 ≤ r → okL127 l) := by
  have hl : l.length ≤ 9223372036854775807 := hb.1
  unfold laws_szBankS.f
  rw [w64 (by omega) (by omega)]
  by_cases h : a < l.length
  · exact ⟨-1, by rw [if_pos (by omega)], by omega, fun h => by omega⟩
  · exact ⟨_, by rw [if_neg (by omega)], by omega, fun _ => ⟨by omega, fun _ _ => trivial⟩⟩

theorem laws_szIntS.ev (l : List Int) (a : Int) (h0 : 0 ≤ a) (h1 : a ≤ 1048576) (hb : bigLI l) : ∃ r, laws_szIntS.f l a = some r ∧ r ≤ a ∧ (0 ≤ r → okLI l) := by
  have hl : l.length ≤ 9223372036854775807 := hb
  unfold laws_szIntS.f
  rw [w64 (by omega) (by omega)]
  by_cases h : a < l.length
  · exact ⟨-1, by rw [if_pos (by omega)], by omega, fun h => by omega⟩
  · exact ⟨_, by rw [if_neg (by omega)], by omega, fun _ => (by unfold okLI; omega)⟩

def okE143 (z : S143) : Prop := True
def okL143 (l : List S143) : Prop := l.length ≤ 1048576 ∧ ∀ z ∈ l, okE143 z
def bigE143 (z : S143) : Prop := True
def bigL143 (l : List S143) : Prop := l.length ≤ 9223372036854775807 ∧ ∀ z ∈ l, bigE143 z
theorem laws_szParcelS.ev (l : List S143) (a : Int) (h0 : 0 ≤ a) (h1 : a ≤ 1048576) (hb : bigL143 l) : ∃ r, laws_szParcelS.f l a = some r ∧ r ≤ a ∧ (0 ≤ r → okL143 l) := by
  have hl : l.length ≤ 9223372036854775807 := hb.1
  unfold laws_szParcelS.f
  rw [w64 (by omega) (by omega)]
  by_cases h : a < l.length
  · exact ⟨-1, by rw [if_pos (by omega)], by omega, fun h => by omega⟩
  · exact ⟨_, by rw [if_neg (by omega)], by omega, fun _ => ⟨by omega, fun _ _ => trivial⟩⟩

theorem laws_szWay.ev (x0 : Int) (x1 : Int) (x2 : List (S143)) (x3 : Bool) (x4 : List Int) (a : Int) (g0 : 0 ≤ a) (g1 : a ≤ 1048576) (h2 : bigL143 x2) (h4 : bigLI x4) : ∃ r, laws_szWay.f x0 x1 x2 x3 x4 a = some r ∧ r ≤ a ∧ (0 ≤ r → okL143 x2 ∧ okLI x4) := by
  obtain ⟨r2, e2, b2, o2⟩ := laws_szParcelS.ev x2 a g0 g1 h2
  by_cases c2 : r2 < 0
  · exact ⟨-1, by unfold laws_szWay.f; rw [e2]; simp only [Option.bind_some]; rw [if_pos c2], by omega, fun h => by omega⟩
  obtain ⟨r4, e4, b4, o4⟩ := laws_szIntS.ev x4 r2 (by omega) (by omega) h4
  by_cases c4 : r4 < 0
  · exact ⟨-1, by unfold laws_szWay.f; rw [e2]; simp only [Option.bind_some]; rw [if_neg c2]; rw [e4]; simp only [Option.bind_some]; rw [if_pos c4], by omega, fun h => by omega⟩
  exact ⟨r4, by unfold laws_szWay.f; rw [e2]; simp only [Option.bind_some]; rw [if_neg c2]; rw [e4]; simp only [Option.bind_some]; rw [if_neg c4], by omega, fun h => ⟨o2 (by omega), o4 (by omega)⟩⟩

def okE125 (z : S125) : Prop := okL143 z.f2 ∧ okLI z.f4
def okL125 (l : List S125) : Prop := l.length ≤ 1048576 ∧ ∀ z ∈ l, okE125 z
def bigE125 (z : S125) : Prop := bigL143 z.f2 ∧ bigLI z.f4
def bigL125 (l : List S125) : Prop := l.length ≤ 9223372036854775807 ∧ ∀ z ∈ l, bigE125 z
theorem laws_szWayS.ev (l : List S125) (a : Int) (h0 : 0 ≤ a) (h1 : a ≤ 1048576) (hb : bigL125 l) : ∃ r, Ev (fun k => laws_szWayS.f k l a) r ∧ r ≤ a ∧ (0 ≤ r → okL125 l) := by
  obtain ⟨hl, hx⟩ := hb
  unfold laws_szWayS.f
  rw [w64 (by omega) (by omega)]
  by_cases h : a - l.length < 0
  · exact ⟨-1, Ev.pos h (Ev.now _), by omega, fun h => by omega⟩
  · have key : ∀ d i : Nat, i + d = l.length → ∀ b : Int, 0 ≤ b → b ≤ 1048576 → ∃ r, Ev (fun k => laws_szWayS.l0 k l b i) r ∧ r ≤ b ∧ (0 ≤ r → ∀ x ∈ l.drop i, okE125 x) := by
      intro d
      induction d with
      | zero =>
        intro i hi b hb0 hb1
        have : i = l.length := by omega
        subst this
        exact ⟨b, Ev.step (fun k => by rw [laws_szWayS.l0]) (Ev.neg (by omega) (Ev.now _)), by omega, fun _ x hx => by simp at hx⟩
      | succ d ih =>
        intro i hi b hb0 hb1
        have hlt : i < l.length := by omega
        have hz := hx _ (List.getElem_mem hlt)
        obtain ⟨r, hr, h2, h3⟩ := laws_szWay.ev (l[i].f0) (l[i].f1) (l[i].f2) (l[i].f3) (l[i].f4) b hb0 hb1 (hz.1) (hz.2)
        have e : rd_T125 l (i : Int) = l[i] := getD_nat l _ hlt
        by_cases hr0 : r < 0
        · refine ⟨-1, Ev.step (fun k => by rw [laws_szWayS.l0]) (Ev.pos (by omega) (Ev.pos (by omega) ?_)), by omega, fun h => by omega⟩
          rw [e]
          exact Ev.bindS hr (Ev.pos hr0 (Ev.now _))
        · obtain ⟨q, hq, h5, h4⟩ := ih (i + 1) (by omega) r (by omega) (by omega)
          refine ⟨q, Ev.step (fun k => by rw [laws_szWayS.l0]) (Ev.pos (by omega) (Ev.pos (by omega) ?_)), by omega, fun h x hx => ?_⟩
          · rw [e, w64_succ hlt hl]
            exact Ev.bindS hr (Ev.neg hr0 hq)
          · rw [List.drop_eq_getElem_cons hlt] at hx
            rcases List.mem_cons.1 hx with rfl | hx
            · exact h3 (by omega)
            · exact h4 h x hx
    obtain ⟨r, hr, h5, h2⟩ := key l.length 0 (by omega) (a - l.length) (by omega) (by omega)
    exact ⟨r, Ev.neg h hr, by omega, fun h => ⟨by omega, fun x hx => h2 h x (by simpa using hx)⟩⟩

theorem laws_szNet.ev (x0 : List (S127)) (x1 : List (S125)) (a : Int) (g0 : 0 ≤ a) (g1 : a ≤ 1048576) (h0 : bigL127 x0) (h1 : bigL125 x1) : ∃ r, Ev (fun k => laws_szNet.f k x0 x1 a) r ∧ r ≤ a ∧ (0 ≤ r → okL127 x0 ∧ okL125 x1) := by
  obtain ⟨r0, e0, b0, o0⟩ := laws_szBankS.ev x0 a g0 g1 h0
  by_cases c0 : r0 < 0
  · exact ⟨-1, by unfold laws_szNet.f; exact Ev.bindS e0 (Ev.pos c0 (Ev.now _)), by omega, fun h => by omega⟩
  obtain ⟨r1, e1, b1, o1⟩ := laws_szWayS.ev x1 r0 (by omega) (by omega) h1
  by_cases c1 : r1 < 0
  · exact ⟨-1, by unfold laws_szNet.f; exact Ev.bindS e0 (Ev.neg c0 (Ev.bind e1 (Ev.pos c1 (Ev.now _)))), by omega, fun h => by omega⟩
  exact ⟨r1, by unfold laws_szNet.f; exact Ev.bindS e0 (Ev.neg c0 (Ev.bind e1 (Ev.neg c1 (Ev.now _)))), by omega, fun h => ⟨o0 (by omega), o1 (by omega)⟩⟩

theorem goodNetS_eq (bs : List S92) (ws : List S95) : goodNetS bs ws = goodNet bs ws := by
  unfold goodNetS goodNet badN
  cases h1 : inB (bs.length : Int) 2 5 with
  | false => rfl
  | true =>
    have h2 := inB_iff.1 h1
    have h3 : ((ws.length : Int) != wrap64 ((bs.length : Int) * wrap64 ((bs.length : Int) - 1))) = !decide (ws.length = bs.length * (bs.length - 1)) := by
      rw [Bool.eq_iff_iff]
      rcases (show bs.length = 2 ∨ bs.length = 3 ∨ bs.length = 4 ∨ bs.length = 5 by omega) with e | e | e | e <;> rw [e] <;> simp [wrap64] <;> omega
    rw [h3]; simp [Bool.and_assoc]
theorem spec_GoodNet.ev (bs : List S92) (ws : List S95) : Ev (fun k => spec_GoodNet.f k bs ws) (goodNet bs ws) := by
  unfold spec_GoodNet.f; rw [goodNetS_eq]; exact Ev.now _

theorem laws_toBank.ev (x0 : Int) (x1 : Bool) (x2 : Int) : laws_toBank.f x0 x1 x2 = some (x0, x1, x2) := rfl

def c127 (x : S127) : S92 := ⟨x.f0, x.f1, x.f2⟩
theorem okE127_map {x : S127} (h : okE127 x) : okE92 (c127 x) := trivial
theorem okL127_map {l : List S127} (h : okL127 l) : okL92 (l.map c127) := ⟨by simpa using h.1, fun x hx => by obtain ⟨y, hy, rfl⟩ := List.mem_map.1 hx; exact okE127_map (h.2 y hy)⟩
theorem laws_toBankS.ev (l : List S127) (hb : okL127 l) : Ev (fun k => laws_toBankS.f k l) (l.map c127) := by
  obtain ⟨hl, hx⟩ := hb
  unfold laws_toBankS.f
  refine Ev.pos (by omega) (Ev.pos (by omega) ?_)
  refine Ev.eq (Ev.up (g := fun k i => laws_toBankS.l0 k l ((l.take i.toNat).map c127 ++ List.replicate (l.length - i.toNat) z92) i) l.length (fun _ => l.map c127) ?_) rfl
  intro i hi ih
  refine Ev.step (fun k => by rw [laws_toBankS.l0]) ?_
  by_cases hlt : i < l.length
  · have h2 := ih hlt
    have h3 := hx _ (List.getElem_mem hlt)
    simp only [Int.toNat_natCast] at h2 ⊢
    have e : rd_T127 l (i : Int) = l[i] := getD_nat l _ hlt
    rw [e, w64_succ hlt (by omega)]
    refine Ev.pos (by omega) (Ev.pos (by omega) (Ev.bindS (laws_toBank.ev (l[i].f0) (l[i].f1) (l[i].f2)) (Ev.pos (by rw [fill_len _ _ _ _ hi]; omega) ?_)))
    refine Ev.congr (fun k => ?_) h2
    rw [← set_fillM c127 l z92 hlt]; rfl
  · have : i = l.length := by omega
    subst this
    refine Ev.neg (by omega) (Ev.some ?_)
    simp only [Int.toNat_natCast]
    exact fill_end _ _ _

theorem laws_toIntS.ev0 (l : List Int) (hl : l.length ≤ 1048576) : Ev (fun k => laws_toIntS.f k l) l := by
  unfold laws_toIntS.f
  refine Ev.pos (by omega) (Ev.pos (by omega) ?_)
  refine Ev.eq (Ev.up (g := fun k i => laws_toIntS.l0 k l (l.take i.toNat ++ List.replicate (l.length - i.toNat) 0) i) l.length (fun _ => l) ?_) rfl
  intro i hi ih
  refine Ev.step (fun k => by rw [laws_toIntS.l0]) ?_
  by_cases hlt : i < l.length
  · refine Ev.pos (by omega) (Ev.pos (by omega) (Ev.pos (by simp; omega) ?_))
    rw [rd_get hlt, w64_succ hlt (by omega)]
    have h2 := ih hlt
    simp only [Int.toNat_natCast] at h2 ⊢
    rw [set_fill l 0 hlt]
    exact h2
  · refine Ev.neg (by omega) (Ev.some ?_)
    simp only [Int.toNat_natCast]
    have : i = l.length := by omega
    subst this
    simp
theorem laws_toIntS.ev (l : List Int) (hl : okLI l) : Ev (fun k => laws_toIntS.f k l) l := laws_toIntS.ev0 l hl

theorem laws_toParcel.ev (x0 : Bool) (x1 : Int) : laws_toParcel.f x0 x1 = some (x0, x1) := rfl

def c143 (x : S143) : S103 := ⟨x.f0, x.f1⟩
theorem okE143_map {x : S143} (h : okE143 x) : okE103 (c143 x) := trivial
theorem okL143_map {l : List S143} (h : okL143 l) : okL103 (l.map c143) := ⟨by simpa using h.1, fun x hx => by obtain ⟨y, hy, rfl⟩ := List.mem_map.1 hx; exact okE143_map (h.2 y hy)⟩
theorem laws_toParcelS.ev (l : List S143) (hb : okL143 l) : Ev (fun k => laws_toParcelS.f k l) (l.map c143) := by
  obtain ⟨hl, hx⟩ := hb
  unfold laws_toParcelS.f
  refine Ev.pos (by omega) (Ev.pos (by omega) ?_)
  refine Ev.eq (Ev.up (g := fun k i => laws_toParcelS.l0 k l ((l.take i.toNat).map c143 ++ List.replicate (l.length - i.toNat) z103) i) l.length (fun _ => l.map c143) ?_) rfl
  intro i hi ih
  refine Ev.step (fun k => by rw [laws_toParcelS.l0]) ?_
  by_cases hlt : i < l.length
  · have h2 := ih hlt
    have h3 := hx _ (List.getElem_mem hlt)
    simp only [Int.toNat_natCast] at h2 ⊢
    have e : rd_T143 l (i : Int) = l[i] := getD_nat l _ hlt
    rw [e, w64_succ hlt (by omega)]
    refine Ev.pos (by omega) (Ev.pos (by omega) (Ev.bindS (laws_toParcel.ev (l[i].f0) (l[i].f1)) (Ev.pos (by rw [fill_len _ _ _ _ hi]; omega) ?_)))
    refine Ev.congr (fun k => ?_) h2
    rw [← set_fillM c143 l z103 hlt]; rfl
  · have : i = l.length := by omega
    subst this
    refine Ev.neg (by omega) (Ev.some ?_)
    simp only [Int.toNat_natCast]
    exact fill_end _ _ _

theorem laws_toWay.ev (x0 : Int) (x1 : Int) (x2 : List (S143)) (x3 : Bool) (x4 : List Int) (h2 : okL143 x2) (h4 : okLI x4) : Ev (fun k => laws_toWay.f k x0 x1 x2 x3 x4) (x0, x1, x2.map c143, x3, x4) := by
  unfold laws_toWay.f
  exact Ev.bind (laws_toParcelS.ev _ h2) (Ev.bind (laws_toIntS.ev _ h4) (Ev.now _))

def c125 (x : S125) : S95 := ⟨x.f0, x.f1, x.f2.map c143, x.f3, x.f4⟩
theorem okE125_map {x : S125} (h : okE125 x) : okE95 (c125 x) := ⟨okL143_map h.1, h.2⟩
theorem okL125_map {l : List S125} (h : okL125 l) : okL95 (l.map c125) := ⟨by simpa using h.1, fun x hx => by obtain ⟨y, hy, rfl⟩ := List.mem_map.1 hx; exact okE125_map (h.2 y hy)⟩
theorem laws_toWayS.ev (l : List S125) (hb : okL125 l) : Ev (fun k => laws_toWayS.f k l) (l.map c125) := by
  obtain ⟨hl, hx⟩ := hb
  unfold laws_toWayS.f
  refine Ev.pos (by omega) (Ev.pos (by omega) ?_)
  refine Ev.eq (Ev.up (g := fun k i => laws_toWayS.l0 k l ((l.take i.toNat).map c125 ++ List.replicate (l.length - i.toNat) z95) i) l.length (fun _ => l.map c125) ?_) rfl
  intro i hi ih
  refine Ev.step (fun k => by rw [laws_toWayS.l0]) ?_
  by_cases hlt : i < l.length
  · have h2 := ih hlt
    have h3 := hx _ (List.getElem_mem hlt)
    simp only [Int.toNat_natCast] at h2 ⊢
    have e : rd_T125 l (i : Int) = l[i] := getD_nat l _ hlt
    rw [e, w64_succ hlt (by omega)]
    refine Ev.pos (by omega) (Ev.pos (by omega) (Ev.bind (laws_toWay.ev (l[i].f0) (l[i].f1) (l[i].f2) (l[i].f3) (l[i].f4) (h3.1) (h3.2)) (Ev.pos (by rw [fill_len _ _ _ _ hi]; omega) ?_)))
    refine Ev.congr (fun k => ?_) h2
    rw [← set_fillM c125 l z95 hlt]; rfl
  · have : i = l.length := by omega
    subst this
    refine Ev.neg (by omega) (Ev.some ?_)
    simp only [Int.toNat_natCast]
    exact fill_end _ _ _

theorem laws_toNet.ev (x0 : List (S127)) (x1 : List (S125)) (h0 : okL127 x0) (h1 : okL125 x1) : Ev (fun k => laws_toNet.f k x0 x1) (x0.map c127, x1.map c125) := by
  unfold laws_toNet.f
  exact Ev.bind (laws_toBankS.ev _ h0) (Ev.bind (laws_toWayS.ev _ h1) (Ev.now _))

theorem impl_in.ev (n a b : Int) : impl_in.f n a b = some (inB n a b) := by
  unfold impl_in.f inB
  by_cases h : a ≤ n
  · rw [if_pos h]; simp [h]
  · rw [if_neg h]; simp [h]

def nbk (a : Int) : S92 := ⟨a, false, 0⟩
def nway (p : Nat × Nat) : S95 := ⟨p.1, p.2, [], false, []⟩
theorem rowP_len (a b m : Nat) : (rowP a b m).length ≤ m := by
  induction m generalizing b with
  | zero => simp [rowP]
  | succ m ih => unfold rowP; have := ih (b + 1); split <;> simp <;> omega
theorem allP_le (k : Nat) : ∀ m a, (allP k a m).length ≤ m * k := by
  intro m
  induction m with
  | zero => intro a; simp [allP]
  | succ m ih => intro a; have h1 := ih (a + 1); have h2 := rowP_len a 0 k; simp only [allP, List.length_append, Nat.succ_mul]; omega
def newB (l : List Int) : Bool := inB l.length 2 5 && l.all (fun a => inB a 0 1000000)
def newNetP (l : List Int) : List S92 × List S95 × Bool := if newB l = true then (l.map nbk, (allP l.length 0 l.length).map nway, true) else ([], [], false)
theorem impl_newNet.row (l : List Int) (hn : l.length ≤ 5) (i : Nat) (r : List S92 × List S95 × Bool) : ∀ (m b : Nat) (bs : List S92) (ws : List S95), b + m = l.length → ws.length + m ≤ 1000 →
    Ev (fun k => impl_newNet.l0 k l l (l.length : Int) (wrap64 ((i : Int) + 1)) bs (ws ++ (rowP i b m).map nway)) r → Ev (fun k => impl_newNet.l1 k l (i : Int) l (l.length : Int) (i : Int) (l.length : Int) (b : Int) bs ws) r := by
  intro m
  induction m with
  | zero =>
    intro b bs ws h1 h2 h3
    refine Ev.step (fun k => by rw [impl_newNet.l1]) (Ev.neg (by omega) ?_)
    simpa [rowP] using h3
  | succ m ih =>
    intro b bs ws h1 h2 h3
    refine Ev.step (fun k => by rw [impl_newNet.l1]) (Ev.pos (by omega) ?_)
    have eb : wrap64 ((b : Int) + 1) = ((b + 1 : Nat) : Int) := w64_succ (n := l.length) (by omega) (by omega)
    by_cases e : i = b
    · subst e
      refine Ev.pos rfl ?_
      rw [eb]
      exact ih (i + 1) bs ws (by omega) (by omega) (by simpa [rowP] using h3)
    · refine Ev.neg (by omega) (Ev.pos (by omega) ?_)
      rw [eb]
      refine ih (b + 1) bs _ (by omega) (by simp; omega) ?_
      simpa [rowP, e, nway] using h3
theorem impl_newNet.all (l : List Int) (hn : l.length ≤ 5) : ∀ (m i : Nat) (bs : List S92) (ws : List S95), i + m = l.length → bs.length ≤ i → ws.length ≤ 5 * i →
    Ev (fun k => impl_newNet.l0 k l l (l.length : Int) (i : Int) bs ws) (if (l.drop i).all (fun a => inB a 0 1000000) = true then (bs ++ (l.drop i).map nbk, ws ++ (allP l.length i m).map nway, true) else ([], [], false)) := by
  intro m
  induction m with
  | zero =>
    intro i bs ws h1 h2 h3
    refine Ev.step (fun k => by rw [impl_newNet.l0]) (Ev.neg (by omega) (Ev.some ?_))
    rw [List.drop_of_length_le (by omega)]; simp [allP]
  | succ m ih =>
    intro i bs ws h1 h2 h3
    have hlt : i < l.length := by omega
    refine Ev.step (fun k => by rw [impl_newNet.l0]) (Ev.pos (by omega) (Ev.pos (by omega) (Ev.pos (by omega) (Ev.bindS (impl_in.ev _ _ _) ?_))))
    rw [rd_get hlt, List.drop_eq_getElem_cons hlt, List.all_cons]
    cases hin : inB l[i] 0 1000000 with
    | false => exact Ev.neg (by simp) (Ev.some (by simp))
    | true =>
      refine Ev.pos rfl (Ev.pos (by omega) ?_)
      refine impl_newNet.row l hn i _ l.length 0 _ _ (by omega) (by omega) ?_
      rw [w64_succ hlt (by omega)]
      have hr : (rowP i 0 l.length).length ≤ l.length := rowP_len i 0 l.length
      refine Ev.eq (ih (i + 1) (bs ++ [nbk l[i]]) (ws ++ (rowP i 0 l.length).map nway) (by omega) (by simp; omega) (by simp; omega)) ?_
      simp only [allP, List.map_cons, List.map_append, List.append_assoc, List.cons_append, List.nil_append, Bool.true_and]
theorem impl_newNet.ev (l : List Int) : Ev (fun k => impl_newNet.f k l) (newNetP l) := by
  unfold impl_newNet.f newNetP newB
  refine Ev.bindS (impl_in.ev _ _ _) ?_
  cases hin : inB l.length 2 5 with
  | false => exact Ev.neg (by simp) (Ev.some (by simp))
  | true =>
    have h := inB_iff.1 hin
    refine Ev.pos rfl (Ev.eq (impl_newNet.all l (by omega) l.length 0 [] [] (by omega) (by simp) (by simp)) ?_)
    simp

def okAm' (a : Int) : Bool := inB a 1 1000000
theorem impl_isWay_1.ev (a : Int) : impl_isWay_1.f a = some (!(okAm' a)) := by
  unfold impl_isWay_1.f okAm'
  rw [impl_in.ev]; rfl

theorem any_not_all {α : Type} (p : α → Bool) (l : List α) : l.any (fun x => !p x) = !(l.all p) := by
  induction l with
  | nil => rfl
  | cons x r ih => simp [ih]
theorem has_impl_isWay_1.ev (l : List Int) : has_impl_isWay_1.f l = some (!(l.all okAm')) := by
  unfold has_impl_isWay_1.f
  rw [← any_not_all]
  exact idxO_any (fun x _ => impl_isWay_1.ev x)

theorem impl_isWay.tail (f0 f1 : Int) (pl : List S103) (f3 : Bool) (f4 : List Int) (fm tm : Bool) (n : Nat) :
    Ev (fun k => impl_isWay.l0 k fm tm (n : Int) pl (pl.length : Int) (pl.length : Int) f0 f1 pl f3 f4) (f4.all okAm' && wayEnd fm tm n pl.length f4.length f3) := by
  refine Ev.step (fun k => by rw [impl_isWay.l0]) ?_
  refine Ev.neg (by omega) ?_
  have no : Ev (fun k => impl_isWay.j2 k fm tm (n : Int) true f0 f1 pl f3 f4) false := by
    refine Ev.step (fun k => by rw [impl_isWay.j2]) ?_
    exact Ev.pos rfl (Ev.now _)
  have go : (pl.length ≤ 20) → n ≤ 1 → (n = 0 ∨ fm = true) → f4.length ≤ 200 → Ev (fun k => (has_impl_isWay_1.f f4).bind fun t => impl_isWay.j2 k fm tm (n : Int) t f0 f1 pl f3 f4) (f4.all okAm' && wayEnd fm tm n pl.length f4.length f3) := by
    intro h1 h2 h3 h4
    refine Ev.bindS (has_impl_isWay_1.ev f4) ?_
    refine Ev.step (fun k => by rw [impl_isWay.j2]) ?_
    unfold wayEnd
    rw [decide_eq_true h1, decide_eq_true h2, decide_eq_true h3, decide_eq_true h4]
    cases ha : f4.all okAm' with
    | false => exact Ev.pos rfl (Ev.some (by simp))
    | true =>
      refine Ev.neg (by simp) ?_
      have hn : ((n : Int) == 1) = decide (n = 1) := by
        rw [Bool.eq_iff_iff]; simp; omega
      cases tm with
      | true =>
        refine Ev.pos rfl ?_
        cases fm with
        | true => exact Ev.pos rfl (Ev.some (by rw [hn]; simp))
        | false => exact Ev.neg (by simp) (Ev.some (by simp))
      | false =>
        refine Ev.neg (by simp) ?_
        cases f3 with
        | true => exact Ev.pos rfl (Ev.some (by simp))
        | false =>
          refine Ev.neg (by simp) ?_
          by_cases h5 : f4.length = 0
          · refine Ev.pos (by omega) ?_
            cases fm with
            | true => exact Ev.pos rfl (Ev.some (by rw [hn]; simp [h5]))
            | false => exact Ev.neg (by simp) (Ev.some (by simp [h5]))
          · exact Ev.neg (by omega) (Ev.some (by simp [h5]))
  by_cases h1 : pl.length ≤ 20
  · refine Ev.neg (by omega) ?_
    by_cases h2 : n ≤ 1
    · refine Ev.neg (by omega) ?_
      by_cases h0 : n = 0
      · refine Ev.neg (by omega) ?_
        by_cases h4 : f4.length ≤ 200
        · exact Ev.neg (by omega) (go h1 h2 (.inl h0) h4)
        · exact Ev.pos (by omega) (Ev.eq no (by unfold wayEnd; simp [h4]))
      · refine Ev.pos (by omega) ?_
        cases hf : fm with
        | true =>
          refine Ev.pos rfl ?_
          by_cases h4 : f4.length ≤ 200
          · rw [hf] at go; exact Ev.neg (by omega) (go h1 h2 (.inr rfl) h4)
          · rw [hf] at no; exact Ev.pos (by omega) (Ev.eq no (by unfold wayEnd; simp [h4]))
        | false => rw [hf] at no; exact Ev.neg (by simp) (Ev.eq no (by unfold wayEnd; simp [h0]))
    · exact Ev.pos (by omega) (Ev.eq no (by unfold wayEnd; simp [h2]))
  · exact Ev.pos (by omega) (Ev.eq no (by unfold wayEnd; simp [h1]))
theorem impl_isWay.ev (f0 f1 : Int) (pl : List S103) (f3 : Bool) (f4 : List Int) (fm tm : Bool) (hp : pl.length ≤ 1048576) :
    Ev (fun k => impl_isWay.f k f0 f1 pl f3 f4 fm tm) (pl.all okPc && (f4.all okAm' && wayEnd fm tm (mkN pl) pl.length f4.length f3)) := by
  have key := Ev.up (g := fun k (j : Int) => impl_isWay.l0 k fm tm ((mkN pl - mkN (pl.drop j.toNat) : Nat) : Int) pl (pl.length : Int) j f0 f1 pl f3 f4) pl.length (fun j => (pl.drop j).all okPc && (f4.all okAm' && wayEnd fm tm (mkN pl) pl.length f4.length f3)) ?_
  · have e0 : ((mkN pl - mkN (pl.drop (0 : Int).toNat) : Nat) : Int) = 0 := by simp
    rw [e0] at key
    unfold impl_isWay.f
    exact Ev.eq key (by simp)
  · intro j hj jh
    have hle := mkN_le pl
    have hmono : ∀ j : Nat, mkN (pl.drop j) ≤ mkN pl := by
      intro j
      induction j with
      | zero => simp
      | succ j ih =>
        by_cases hlt : j < pl.length
        · have := mkN_step pl hlt; omega
        · rw [List.drop_of_length_le (by omega)]; exact Nat.zero_le _
    by_cases hlt : j < pl.length
    · refine Ev.step (fun k => by rw [impl_isWay.l0]) ?_
      have e : rd_T103 pl (j : Int) = pl[j] := getD_nat pl _ hlt
      have hs := mkN_step pl hlt
      have hm := hmono (j + 1)
      have hm' := hmono j
      have jh := jh hlt
      rw [e, all_take_succ pl okPc hlt]
      simp only [Int.toNat_natCast] at jh ⊢
      refine Ev.pos (by omega) (Ev.pos (by omega) (Ev.pos (by omega) ?_))
      have no : ∀ z y, Ev (fun k => impl_isWay.j1 k fm tm ((mkN pl - mkN (pl.drop j) : Nat) : Int) pl (pl.length : Int) (j : Int) true f0 f1 pl f3 f4 z y) false := by
        intro z y
        refine Ev.step (fun k => by rw [impl_isWay.j1]) ?_
        exact Ev.pos rfl (Ev.now _)
      cases hk : pl[j].f0 with
      | true =>
        rw [hk] at hs
        refine Ev.pos rfl ?_
        refine Ev.cases (fun hz => Ev.pos rfl ?_) (fun hz => Ev.eq (no _ _) ?_)
        · refine Ev.step (fun k => by rw [impl_isWay.j1]) ?_
          refine Ev.neg (by simp) (Ev.pos rfl ?_)
          rw [w64_succ hlt (by omega)]
          have ec : wrap64 (((mkN pl - mkN (pl.drop j) : Nat) : Int) + 1) = ((mkN pl - mkN (pl.drop (j + 1)) : Nat) : Int) := by
            rw [w64 (by omega) (by omega)]; simp at hs; omega
          rw [ec]
          refine Ev.eq jh ?_
          unfold okPc; simp [hk, hz]
        · unfold okPc; simp [hk, hz]
      | false =>
        rw [hk] at hs
        refine Ev.neg (by simp) (Ev.neg (by simp) (Ev.bindS (impl_in.ev _ _ _) ?_))
        refine Ev.step (fun k => by rw [impl_isWay.j1]) ?_
        cases hz : inB pl[j].f1 1 1000000 with
        | false => exact Ev.pos rfl (Ev.some (by unfold okPc; simp [hk, hz]))
        | true =>
          refine Ev.neg (by simp) (Ev.neg (by simp) ?_)
          rw [w64_succ hlt (by omega)]
          have ec : mkN (pl.drop j) = mkN (pl.drop (j + 1)) := by simpa using hs
          rw [ec]
          refine Ev.eq jh ?_
          unfold okPc; simp [hk, hz]
    · have : j = pl.length := by omega
      subst this
      simp only [Int.toNat_natCast, List.drop_length, List.all_nil, Bool.true_and]
      exact impl_isWay.tail f0 f1 pl f3 f4 fm tm (mkN pl)

theorem okWay_eq (fm tm : Bool) (w : S95) : (w.f2.all okPc && (w.f4.all okAm' && wayEnd fm tm (mkN w.f2) w.f2.length w.f4.length w.f3)) = okWay fm tm w := by
  unfold okWay; rw [show okAm' = okAm from rfl, Bool.and_assoc]
def okB2 (b : S92) : Bool := inB b.f2 0 1000000 && (b.f1 || decide (b.f2 = 0))
theorem okB2_all (bs : List S92) : bs.all okBk = (bs.all okB2 && (bs.map (fun b => b.f0)).all (fun a => inB a 0 1000000)) := by
  induction bs with
  | nil => rfl
  | cons b r ih =>
    simp only [List.all_cons, List.map_cons, ih]
    unfold okBk okB2
    cases inB b.f0 0 1000000 <;> cases inB b.f2 0 1000000 <;> cases (b.f1 || decide (b.f2 = 0)) <;> simp
theorem impl_isNet.ways (bs : List S92) (ws : List S95) (bs2 : List S92) (q : List (Nat × Nat)) (hq : ws.length = q.length) (hb : bs.length ≤ 1048576) (hw : okL95 ws) (hin : ∀ p ∈ q, p.1 < bs.length ∧ p.2 < bs.length) :
    ∀ m i : Nat, i + m = ws.length → Ev (fun k => impl_isNet.l1 k ws (ws.length : Int) (i : Int) bs ws bs2 (q.map nway)) (allW bs (ws.drop i) (q.drop i)) := by
  have hws : ws.length ≤ 1048576 := hw.1
  intro m
  induction m with
  | zero =>
    intro i h
    refine Ev.step (fun k => by rw [impl_isNet.l1]) (Ev.neg (by omega) (Ev.some ?_))
    rw [List.drop_of_length_le (by omega)]; rfl
  | succ m ih =>
    intro i h
    have hlt : i < ws.length := by omega
    have hlq : i < q.length := by omega
    have e1 : rd_T95 ws (i : Int) = ws[i] := by simp [rd_T95, hlt]
    have e2 : rd_T95 (q.map nway) (i : Int) = nway q[i] := by simp [rd_T95, hlq]
    have hpq := hin q[i] (List.getElem_mem hlq)
    refine Ev.step (fun k => by rw [impl_isNet.l1]) ?_
    have no : Ev (fun k => impl_isNet.j4 k ws (ws.length : Int) (i : Int) true bs ws bs2 (q.map nway)) false := Ev.step (fun k => by rw [impl_isNet.j4]) (Ev.pos rfl (Ev.now _))
    have yes : Ev (fun k => impl_isNet.j4 k ws (ws.length : Int) (i : Int) false bs ws bs2 (q.map nway)) (allW bs (ws.drop (i + 1)) (q.drop (i + 1))) := by
      refine Ev.step (fun k => by rw [impl_isNet.j4]) (Ev.neg (by simp) ?_)
      rw [w64_succ hlt (by omega)]
      exact ih (i + 1) (by omega)
    refine Ev.pos (by omega) (Ev.pos (by omega) (Ev.pos (by omega) (Ev.pos (by simp; omega) ?_)))
    rw [e1, e2, List.drop_eq_getElem_cons hlt, List.drop_eq_getElem_cons hlq]
    have hwi : okE95 ws[i] := hw.2 _ (List.getElem_mem hlt)
    generalize ws[i] = x at hwi
    generalize q[i] = p at hpq
    obtain ⟨p1, p2⟩ := p
    obtain ⟨hp1, hp2⟩ := hpq
    simp only at hp1 hp2
    unfold nway
    show Ev _ ((decide (x.f0 = p1) && decide (x.f1 = p2) && okWay (rd_T92 bs p1).f1 (rd_T92 bs p2).f1 x) && allW bs (ws.drop (i + 1)) (q.drop (i + 1)))
    dsimp only
    refine Ev.cases (fun h1 => ?_) (fun h1 => Ev.eq no (by simp [h1]))
    refine Ev.cases (fun h2 => ?_) (fun h2 => Ev.eq no (by simp [h2]))
    refine Ev.pos (by omega) (Ev.pos (by omega) (Ev.pos (by omega) (Ev.pos (by omega) ?_)))
    rw [h1, h2]
    refine Ev.bind (impl_isWay.ev p1 p2 x.f2 x.f3 x.f4 _ _ hwi.1.1) ?_
    rw [okWay_eq]
    cases hk : okWay (rd_T92 bs (p1 : Int)).f1 (rd_T92 bs (p2 : Int)).f1 x with
    | false => exact Ev.eq no (by simp)
    | true => exact Ev.eq yes (by simp)
theorem impl_isNet.ev (bs : List S92) (ws : List S95) (hb : okL92 bs) (hw : okL95 ws) : Ev (fun k => impl_isNet.f k bs ws) (goodNet bs ws) := by
  have hbs : bs.length ≤ 1048576 := hb.1
  unfold impl_isNet.f
  have key : ∀ m i : Nat, i + m = bs.length → Ev (fun k => impl_isNet.l0 k ((bs.take i).map (fun b => b.f0)) bs (bs.length : Int) (i : Int) bs ws) ((bs.drop i).all okB2 && (newB (bs.map (fun b => b.f0)) && (decide (ws.length = bs.length * (bs.length - 1)) && allW bs ws (allP bs.length 0 bs.length)))) := by
    intro m
    induction m with
    | zero =>
      intro i h
      have : i = bs.length := by omega
      subst this
      rw [List.take_length, List.drop_length, List.all_nil, Bool.true_and]
      refine Ev.step (fun k => by rw [impl_isNet.l0]) (Ev.neg (by omega) ?_)
      refine Ev.bind (impl_newNet.ev _) ?_
      unfold newNetP
      cases hn : newB (bs.map (fun b => b.f0)) with
      | false =>
        rw [if_neg (by simp)]
        exact Ev.neg (by simp) (Ev.step (fun k => by rw [impl_isNet.j2]) (Ev.pos rfl (Ev.some (by simp))))
      | true =>
        rw [if_pos rfl]
        have hn2 : 2 ≤ bs.length ∧ bs.length ≤ 5 := by
          unfold newB at hn; rw [Bool.and_eq_true] at hn; have q := inB_iff.1 hn.1; rw [List.length_map] at q; omega
        have hl : (allP bs.length 0 bs.length).length = bs.length * (bs.length - 1) := allP_len hn2.1 hn2.2
        simp only [List.length_map, Bool.true_and]
        refine Ev.pos trivial ?_
        by_cases hw2 : ws.length = bs.length * (bs.length - 1)
        · have e : ((ws.length : Int) != ((allP bs.length 0 bs.length).length : Int)) = false := by rw [hl, hw2]; simp
          rw [e, decide_eq_true hw2, Bool.true_and]
          refine Ev.step (fun k => by rw [impl_isNet.j2]) (Ev.neg (by simp) ?_)
          refine impl_isNet.ways bs ws _ (allP bs.length 0 bs.length) (by rw [hl, hw2]) hbs hw ?_ ws.length 0 (by omega)
          intro p hp
          have := allP_in p hp
          omega
        · have e : ((ws.length : Int) != ((allP bs.length 0 bs.length).length : Int)) = true := by rw [hl]; simp; omega
          rw [e, decide_eq_false hw2]
          exact Ev.step (fun k => by rw [impl_isNet.j2]) (Ev.pos rfl (Ev.some (by simp)))
    | succ m ih =>
      intro i h
      have hlt : i < bs.length := by omega
      have e1 : rd_T92 bs (i : Int) = bs[i] := by simp [rd_T92, hlt]
      refine Ev.step (fun k => by rw [impl_isNet.l0]) ?_
      refine Ev.pos (by omega) (Ev.pos (by omega) (Ev.pos (by omega) ?_))
      rw [e1, List.drop_eq_getElem_cons hlt, List.all_cons]
      have hin := ih (i + 1) (by omega)
      rw [List.take_succ_eq_append_getElem hlt, List.map_append] at hin
      have no : ∀ x y z, Ev (fun k => impl_isNet.j1 k ((bs.take i).map (fun b => b.f0)) bs (bs.length : Int) (i : Int) true bs ws x y z) false := fun x y z => Ev.step (fun k => by rw [impl_isNet.j1]) (Ev.pos rfl (Ev.now _))
      have yes : ∀ y z, Ev (fun k => impl_isNet.j1 k ((bs.take i).map (fun b => b.f0)) bs (bs.length : Int) (i : Int) false bs ws bs[i].f0 y z) ((bs.drop (i + 1)).all okB2 && (newB (bs.map (fun b => b.f0)) && (decide (ws.length = bs.length * (bs.length - 1)) && allW bs ws (allP bs.length 0 bs.length)))) := by
        intro y z
        refine Ev.step (fun k => by rw [impl_isNet.j1]) (Ev.neg (by simp) (Ev.pos (by simp; omega) ?_))
        rw [w64_succ hlt (by omega)]
        exact hin
      clear hin ih
      refine Ev.bindS (impl_in.ev _ _ _) ?_
      rw [show okB2 bs[i] = (inB bs[i].f2 0 1000000 && (bs[i].f1 || decide (bs[i].f2 = 0))) from rfl]
      cases h1 : inB bs[i].f2 0 1000000 with
      | false => exact Ev.neg (by simp) (Ev.eq (no _ _ _) (by simp))
      | true =>
        refine Ev.pos rfl ?_
        cases h2 : bs[i].f1 with
        | true => exact Ev.pos rfl (Ev.eq (yes _ _) (by simp))
        | false =>
          refine Ev.neg (by simp) ?_
          by_cases h3 : bs[i].f2 = 0
          · rw [show (bs[i].f2 != 0) = false by simp [h3]]
            exact Ev.eq (yes _ _) (by simp [h3])
          · rw [show (bs[i].f2 != 0) = true by simp [h3]]
            exact Ev.eq (no _ _ _) (by simp [h3])
  have k0 := key bs.length 0 (by omega)
  simp only [List.take_zero, List.map_nil, List.drop_zero] at k0
  refine Ev.eq k0 ?_
  unfold goodNet newB
  rw [okB2_all, List.length_map]
  cases bs.all okB2 <;> cases inB (bs.length : Int) 2 5 <;> cases (bs.map (fun b => b.f0)).all (fun a => inB a 0 1000000) <;> cases decide (ws.length = bs.length * (bs.length - 1)) <;> simp

def sumW (l : List Int) (s : Int) : Int := l.foldl (fun s a => wrap64 (s + a)) s
/-- All that the ways have seen, put to s. -/
def seenSum (ws : List S95) (s : Int) : Int := ws.foldl (fun s w => sumW w.f4 s) s
theorem spec_l13Picture.l2v (ws : List S95) (hl : ws.length ≤ 1048576) (i : Nat) (pl : List Int) (hp : pl.length ≤ 1048576) (f0 f1 : Int) (f2 : List S103) (f3 : Bool) (f4 : List Int) (q : Bool) (r : Int × Bool) : ∀ (m j : Nat) (s : Int), j + m = pl.length →
    Ev (fun k => spec_l13Picture.l1 k (sumW (pl.drop j) s) (q && !f3) ws (ws.length : Int) (wrap64 ((i : Int) + 1))) r → Ev (fun k => spec_l13Picture.l2 k s q ws (ws.length : Int) (i : Int) pl (pl.length : Int) (j : Int) f0 f1 f2 f3 f4) r := by
  intro m
  induction m with
  | zero =>
    intro j s h hn
    rw [List.drop_of_length_le (by omega)] at hn
    refine Ev.step (fun k => by rw [spec_l13Picture.l2]) (Ev.neg (by omega) ?_)
    cases q with
    | true => exact Ev.pos rfl (by simpa [sumW] using hn)
    | false => exact Ev.neg (by simp) (by simpa [sumW] using hn)
  | succ m ih =>
    intro j s h hn
    have hlt : j < pl.length := by omega
    refine Ev.step (fun k => by rw [spec_l13Picture.l2]) (Ev.pos (by omega) (Ev.pos (by omega) (Ev.pos (by omega) ?_)))
    rw [rd_get hlt, w64_succ hlt (by omega)]
    refine ih (j + 1) _ (by omega) ?_
    rw [List.drop_eq_getElem_cons hlt] at hn
    exact hn
theorem spec_l13Picture.l1v (ws : List S95) (hw : okL95 ws) : ∀ (m i : Nat) (s : Int) (q : Bool), i + m = ws.length →
    Ev (fun k => spec_l13Picture.l1 k s q ws (ws.length : Int) (i : Int)) (seenSum (ws.drop i) s, q && (ws.drop i).all (fun w => !w.f3)) := by
  have hl : ws.length ≤ 1048576 := hw.1
  intro m
  induction m with
  | zero =>
    intro i s q h
    rw [List.drop_of_length_le (by omega)]
    refine Ev.step (fun k => by rw [spec_l13Picture.l1]) ?_
    exact Ev.neg (by omega) (Ev.some (by simp [seenSum]))
  | succ m ih =>
    intro i s q h
    have hlt : i < ws.length := by omega
    have e1 : rd_T95 ws (i : Int) = ws[i] := by simp [rd_T95, hlt]
    have hwi : okE95 ws[i] := hw.2 _ (List.getElem_mem hlt)
    have h4 : ws[i].f4.length ≤ 1048576 := hwi.2
    refine Ev.step (fun k => by rw [spec_l13Picture.l1]) (Ev.pos (by omega) (Ev.pos (by omega) (Ev.pos (by omega) ?_)))
    rw [e1, List.drop_eq_getElem_cons hlt]
    refine spec_l13Picture.l2v ws hl i _ h4 _ _ _ _ _ q _ ws[i].f4.length 0 s (by omega) ?_
    rw [w64_succ hlt (by omega)]
    refine Ev.eq (ih (i + 1) _ _ (by omega)) ?_
    simp only [seenSum, List.foldl_cons, List.all_cons, List.drop_zero, Bool.and_assoc]
theorem spec_l13Picture.l0v (bs : List S92) (ws : List S95) (hb : okL92 bs) (hw : okL95 ws) : ∀ (m i : Nat) (s : Int) (q : Bool), i + m = bs.length →
    Ev (fun k => spec_l13Picture.l0 k s q bs (bs.length : Int) (i : Int) bs ws) (seenSum ws (sumW ((bs.drop i).map (fun b => b.f2)) s), (q && (bs.drop i).all (fun b => b.f1)) && ws.all (fun w => !w.f3)) := by
  have hl : bs.length ≤ 1048576 := hb.1
  intro m
  induction m with
  | zero =>
    intro i s q h
    rw [List.drop_of_length_le (by omega)]
    refine Ev.step (fun k => by rw [spec_l13Picture.l0]) ?_
    exact Ev.neg (by omega) (Ev.eq (spec_l13Picture.l1v ws hw ws.length 0 s q (by omega)) (by simp [sumW]))
  | succ m ih =>
    intro i s q h
    have hlt : i < bs.length := by omega
    have e1 : rd_T92 bs (i : Int) = bs[i] := by simp [rd_T92, hlt]
    refine Ev.step (fun k => by rw [spec_l13Picture.l0]) (Ev.pos (by omega) (Ev.pos (by omega) (Ev.pos (by omega) ?_)))
    rw [e1, w64_succ hlt (by omega), List.drop_eq_getElem_cons hlt]
    cases q with
    | true => exact Ev.pos rfl (Ev.eq (ih (i + 1) _ _ (by omega)) (by simp only [sumW, List.map_cons, List.foldl_cons, List.all_cons, Bool.true_and]))
    | false => exact Ev.neg (by simp) (Ev.eq (ih (i + 1) _ _ (by omega)) (by simp only [sumW, List.map_cons, List.foldl_cons, Bool.false_and]))
/-- The picture: all that was noted and seen, and whether it is whole. -/
def picP (bs : List S92) (ws : List S95) : Int × Bool := (seenSum ws (sumW (bs.map (fun b => b.f2)) 0), bs.all (fun b => b.f1) && ws.all (fun w => !w.f3))
theorem spec_l13Picture.ev (bs : List S92) (ws : List S95) (hb : okL92 bs) (hw : okL95 ws) : Ev (fun k => spec_l13Picture.f k bs ws) (picP bs ws) := by
  unfold spec_l13Picture.f picP
  exact Ev.eq (spec_l13Picture.l0v bs ws hb hw bs.length 0 0 true (by omega)) (by simp)

theorem spec_PictureOf.ev (bs : List S92) (ws : List S95) (hb : okL92 bs) (hw : okL95 ws) : Ev (fun k => spec_PictureOf.f k bs ws) (if goodNet bs ws = true then ((picP bs ws).1, (picP bs ws).2, true) else (0, false, false)) := by
  unfold spec_PictureOf.f
  refine Ev.bind (spec_GoodNet.ev bs ws) ?_
  by_cases h : goodNet bs ws = true
  · rw [if_pos h]; exact Ev.pos h (Ev.bind (spec_l13Picture.ev bs ws hb hw) (Ev.now _))
  · rw [if_neg h]; exact Ev.neg h (Ev.now _)

theorem any_not_all2 {α : Type} (p : α → Bool) (l : List α) : l.any (fun x => !p x) = !(l.all p) := by
  induction l with
  | nil => rfl
  | cons x r ih => simp [ih]
theorem impl_Net_isWhole.ev (bs : List S92) (ws : List S95) : impl_Net_isWhole.f bs ws = some (bs.all (fun b => b.f1) && ws.all (fun w => !w.f3)) := by
  have h1 : has_impl_Net_isWhole_1.f bs = some (!(bs.all (fun b => b.f1))) := by
    unfold has_impl_Net_isWhole_1.f
    rw [← any_not_all2]
    exact idxO_any (fun x _ => rfl)
  have h2 : has_impl_Net_isWhole_2.f ws = some (!(ws.all (fun w => !w.f3))) := by
    unfold has_impl_Net_isWhole_2.f
    rw [← any_not_all2]
    exact idxO_any (fun x _ => by unfold impl_Net_isWhole_2.f; simp)
  unfold impl_Net_isWhole.f
  rw [h1, h2]
  cases bs.all (fun b => b.f1) <;> simp

theorem impl_PictureOf.l2v (bs : List S92) (ws : List S95) (hl : ws.length ≤ 1048576) (i : Nat) (pl : List Int) (hp : pl.length ≤ 1048576) (r : Int × Bool × Bool) : ∀ (m j : Nat) (s : Int), j + m = pl.length →
    Ev (fun k => impl_PictureOf.l1 k (sumW (pl.drop j) s) ws (ws.length : Int) (wrap64 ((i : Int) + 1)) bs ws) r → Ev (fun k => impl_PictureOf.l2 k s ws (ws.length : Int) (i : Int) pl (pl.length : Int) (j : Int) bs ws) r := by
  intro m
  induction m with
  | zero =>
    intro j s h hn
    rw [List.drop_of_length_le (by omega)] at hn
    refine Ev.step (fun k => by rw [impl_PictureOf.l2]) ?_
    exact Ev.neg (by omega) hn
  | succ m ih =>
    intro j s h hn
    have hlt : j < pl.length := by omega
    refine Ev.step (fun k => by rw [impl_PictureOf.l2]) (Ev.pos (by omega) (Ev.pos (by omega) (Ev.pos (by omega) ?_)))
    rw [rd_get hlt, w64_succ hlt (by omega)]
    refine ih (j + 1) _ (by omega) ?_
    rw [List.drop_eq_getElem_cons hlt] at hn
    exact hn
theorem impl_PictureOf.l1v (bs : List S92) (ws : List S95) (hw : okL95 ws) : ∀ (m i : Nat) (s : Int), i + m = ws.length →
    Ev (fun k => impl_PictureOf.l1 k s ws (ws.length : Int) (i : Int) bs ws) (seenSum (ws.drop i) s, bs.all (fun b => b.f1) && ws.all (fun w => !w.f3), true) := by
  have hl : ws.length ≤ 1048576 := hw.1
  intro m
  induction m with
  | zero =>
    intro i s h
    rw [List.drop_of_length_le (by omega)]
    refine Ev.step (fun k => by rw [impl_PictureOf.l1]) ?_
    exact Ev.neg (by omega) (Ev.bindS (impl_Net_isWhole.ev bs ws) (Ev.some (by simp [seenSum])))
  | succ m ih =>
    intro i s h
    have hlt : i < ws.length := by omega
    have e1 : rd_T95 ws (i : Int) = ws[i] := by simp [rd_T95, hlt]
    have hwi : okE95 ws[i] := hw.2 _ (List.getElem_mem hlt)
    refine Ev.step (fun k => by rw [impl_PictureOf.l1]) (Ev.pos (by omega) (Ev.pos (by omega) (Ev.pos (by omega) ?_)))
    rw [e1, List.drop_eq_getElem_cons hlt]
    have h4 : ws[i].f4.length ≤ 1048576 := hwi.2
    refine impl_PictureOf.l2v bs ws hl i _ h4 _ ws[i].f4.length 0 s (by omega) ?_
    rw [w64_succ hlt (by omega)]
    exact ih (i + 1) _ (by omega)
theorem impl_PictureOf.l0v (bs : List S92) (ws : List S95) (hb : okL92 bs) (hw : okL95 ws) : ∀ (m i : Nat) (s : Int), i + m = bs.length →
    Ev (fun k => impl_PictureOf.l0 k s bs (bs.length : Int) (i : Int) bs ws) (seenSum ws (sumW ((bs.drop i).map (fun b => b.f2)) s), bs.all (fun b => b.f1) && ws.all (fun w => !w.f3), true) := by
  have hl : bs.length ≤ 1048576 := hb.1
  intro m
  induction m with
  | zero =>
    intro i s h
    rw [List.drop_of_length_le (by omega)]
    refine Ev.step (fun k => by rw [impl_PictureOf.l0]) ?_
    exact Ev.neg (by omega) (impl_PictureOf.l1v bs ws hw ws.length 0 s (by omega))
  | succ m ih =>
    intro i s h
    have hlt : i < bs.length := by omega
    have e1 : rd_T92 bs (i : Int) = bs[i] := by simp [rd_T92, hlt]
    refine Ev.step (fun k => by rw [impl_PictureOf.l0]) (Ev.pos (by omega) (Ev.pos (by omega) (Ev.pos (by omega) ?_)))
    rw [e1, w64_succ hlt (by omega), List.drop_eq_getElem_cons hlt]
    exact ih (i + 1) _ (by omega)
theorem impl_PictureOf.ev (bs : List S92) (ws : List S95) (hb : okL92 bs) (hw : okL95 ws) : Ev (fun k => impl_PictureOf.f k bs ws) (if goodNet bs ws = true then ((picP bs ws).1, (picP bs ws).2, true) else (0, false, false)) := by
  unfold impl_PictureOf.f
  refine Ev.bind (impl_isNet.ev bs ws hb hw) ?_
  by_cases h : goodNet bs ws = true
  · rw [if_pos h]; exact Ev.pos h (impl_PictureOf.l0v bs ws hb hw bs.length 0 0 (by omega))
  · rw [if_neg h]; exact Ev.neg h (Ev.now _)

theorem holds_ev (x0 : List S127) (x1 : List S125) (h0 : bigL127 x0) (h1 : bigL125 x1) : Ev (fun k => laws_FnExactPictureOf.f k x0 x1) true := by
  obtain ⟨r, hr, _, hsz⟩ := laws_szNet.ev x0 x1 1048576 (by omega) (by omega) h0 h1
  unfold laws_FnExactPictureOf.f
  refine Ev.bind hr (Ev.cases (fun _ => Ev.now _) (fun hn => ?_))
  obtain ⟨o1, o2⟩ := hsz (by omega)
  have o3 := okL127_map o1
  have o4 := okL125_map o2
  have tt := laws_toNet.ev x0 x1 o1 o2
  refine Ev.bind tt (Ev.bind (spec_PictureOf.ev _ _ o3 o4) (Ev.bind tt (Ev.bind (impl_PictureOf.ev _ _ o3 o4) ?_)))
  refine Ev.pos rfl (Ev.neg (by simp) (Ev.step (fun k => by rw [laws_FnExactPictureOf.j0]) ?_))
  refine Ev.neg (by simp) (Ev.bind tt (Ev.bind (laws_eqNet.refl _ _ o3 o4) (Ev.pos rfl (Ev.now _))))

end Go.Proofs.Ytipfikmbldgliaa.PNX
namespace Go.Proofs.Ytipfikmbldgliaa.PureFnExactPictureOf
open Go.RowKit Go.Proofs.Ytipfikmbldgliaa.PNX Go.Proofs.Ytipfikmbldgliaa.Base Go.Proofs.Ytipfikmbldgliaa.Open Go.Proofs.YtipfikmbldgliaaW.PrintWords Go.Proofs.YtipfikmbldgliaaW.PrintLast
theorem holds (l0_0 : List S127) (l0_1 : List S125) (w0 : ((l0_0.length ≤ 9223372036854775807 ∧ ∀ z ∈ l0_0, W127 z) ∧ (l0_1.length ≤ 9223372036854775807 ∧ ∀ z ∈ l0_1, W125 z))) : ∃ k, Go.Proofs.Ytipfikmbldgliaa.PNX.laws_FnExactPictureOf.f k l0_0 l0_1 = some true := by
  exact (holds_ev _ _ ⟨w0.1.1, fun _ _ => trivial⟩ ⟨w0.2.1, fun z hz => ⟨⟨(w0.2.2 z hz).2.2.1.1, fun _ _ => trivial⟩, (w0.2.2 z hz).2.2.2.2.1⟩⟩).rounds
end Go.Proofs.Ytipfikmbldgliaa.PureFnExactPictureOf
