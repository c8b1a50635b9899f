/- What this text proves: laws.FnExactAddTo, told as plain functions of numbers and lists, answers true for all arguments.
   Conditions: the bounds that the typed reading gives. -/
import Derived.Test.YtdnapgnnliibfaaPATx23
import Derived.Test.YtdnapgnnliibfaaOpen
import Derived.Test.YtdnapgnnliibfaaBase
namespace Go.Proofs.Ytdnapgnnliibfaa.PAT
open Go.RowKit Go.Proofs.Ytdnapgnnliibfaa.Base Go.Proofs.Ytdnapgnnliibfaa.Open Go.Proofs.YtdnapgnnliibfaaW.PrintWords Go.Proofs.YtdnapgnnliibfaaW.PrintLast Go.Proofs.YtdnapgnnliibfaaW.PrintMore
set_option linter.unusedVariables false
set_option linter.unusedSimpArgs false
theorem op9 : Opens Try.prog 9 Kd.string (fun x => x.size ≤ 9223372036854775807) := Opens.string Try.underlying9 (by kernel_rfl)
theorem op3 : Opens Try.prog 3 (Kd.int .i64) (fun x => (Lit.int .i64 x).wf = true) := Opens.int Try.underlying3 (by kernel_rfl)
def W72 (x : S72) : Prop := x.f0.size ≤ 9223372036854775807 ∧ (Lit.int .i64 x.f1).wf = true ∧ (Lit.int .i64 x.f2).wf = true
theorem o72 : Opens Try.prog 72 k72 W72 := by
  have h := Opens.struct Try.underlying72 (by kernel_rfl) (Fits.cons (P := Try.prog) rfl op9 (Fits.cons (P := Try.prog) rfl op3 (Fits.one (P := Try.prog) rfl op3)))
  exact Opens.iso (fun x : S72 => (x.f0, x.f1, x.f2)) (fun p => ⟨p.1, p.2.1, p.2.2⟩) (fun _ => rfl) h
theorem op22 : Opens Try.prog 22 (Kd.slice 72 k72) (fun x => (x.length ≤ 9223372036854775807 ∧ ∀ z ∈ x, W72 z)) := Opens.slice Try.underlying22 (by kernel_rfl) o72
/-- The place of the first element at which p says yes, counted from i; -1 for none. -/
def idxN {α : Type} (p : α → Bool) : List α → Nat → Int
  | [], _ => -1
  | x :: r, i => if p x = true then (i : Int) else idxN p r (i + 1)
theorem idxO_val {α : Type} {F : α → Option Bool} {p : α → Bool} : ∀ (l : List α) (i : Nat), (∀ x ∈ l, F x = some (p x)) → idxO F l i = some (idxN p l i)
  | [], _, _ => rfl
  | x :: r, i, h => by
    simp only [idxO, idxN, h x (List.mem_cons_self ..), Option.bind_some]
    rw [idxO_val r (i + 1) (fun y hy => h y (List.mem_cons_of_mem _ hy))]
    split <;> rfl
theorem idxN_cons {α : Type} (p : α → Bool) (x : α) (r : List α) (i : Nat) : idxN p (x :: r) i = if p x = true then (i : Int) else idxN p r (i + 1) := rfl
theorem idxN_anyP {α : Type} (p : α → Bool) : ∀ (l : List α) (i : Nat), (idxN p l i ≥ 0) ↔ l.any p = true
  | [], _ => by simp [idxN]
  | x :: r, i => by
    rw [idxN_cons]
    by_cases h : p x = true
    · rw [if_pos h, List.any_cons, h]; simp
    · rw [if_neg h, List.any_cons, Bool.eq_false_iff.2 h, Bool.false_or]; exact idxN_anyP p r (i + 1)
theorem idxN_any {α : Type} (p : α → Bool) (l : List α) (i : Nat) : decide (idxN p l i ≥ 0) = l.any p := by
  rw [Bool.eq_iff_iff, decide_eq_true_iff]; exact idxN_anyP p l i
theorem idxN_ge {α : Type} (p : α → Bool) : ∀ (l : List α) (i : Nat), idxN p l i = -1 ∨ (i : Int) ≤ idxN p l i
  | [], _ => .inl rfl
  | x :: r, i => by
    simp only [idxN]
    split
    · exact .inr (Int.le_refl _)
    · rcases idxN_ge p r (i + 1) with h | h
      · exact .inl h
      · exact .inr (by omega)
theorem idxO_any {α : Type} {F : α → Option Bool} {p : α → Bool} {l : List α} (h : ∀ x ∈ l, F x = some (p x)) : ((idxO F l 0).bind fun i => some (decide (i ≥ 0))) = some (l.any p) := by
  rw [idxO_val l 0 h]; simp only [Option.bind_some]; rw [idxN_any]
theorem idxO_Ev {α : Type} {F : Nat → α → Option Bool} {p : α → Bool} : ∀ (l : List α) (i : Nat), (∀ x ∈ l, Ev (fun k => F k x) (p x)) → Ev (fun k => idxO (F k) l i) (idxN p l i)
  | [], _, _ => Ev.now _
  | x :: r, i, h => by
    show Ev (fun k => (F k x).bind fun b => if b = true then some (i : Int) else idxO (F k) r (i + 1)) _
    refine Ev.bind (h x (List.mem_cons_self ..)) ?_
    simp only [idxN]
    refine Ev.cases (fun hp => Ev.some (by rw [if_pos hp])) (fun hp => ?_)
    rw [if_neg hp]
    exact idxO_Ev r (i + 1) (fun y hy => h y (List.mem_cons_of_mem _ hy))
theorem idxAny_Ev {α : Type} {F : Nat → α → Option Bool} {p : α → Bool} {l : List α} (h : ∀ x ∈ l, Ev (fun k => F k x) (p x)) : Ev (fun k => (idxO (F k) l 0).bind fun i => some (decide (i ≥ 0))) (l.any p) := by
  refine Ev.bind (idxO_Ev l 0 h) (Ev.some ?_)
  exact idxN_any p l 0

def okLS (s : ByteArray) : Prop := s.size ≤ 1048576
def okE48 (z : S48) : Prop := okLS z.f0
def okL48 (l : List S48) : Prop := l.length ≤ 1048576 ∧ ∀ z ∈ l, okE48 z
def bigLS (s : ByteArray) : Prop := s.size ≤ 9223372036854775807
theorem laws_szAdd.ev (x0 : ByteArray) (x1 : Int) (x2 : Int) (a : Int) (g0 : 0 ≤ a) (g1 : a ≤ 1048576) (h0 : bigLS x0) : ∃ r, laws_szAdd.f x0 x1 x2 a = some r ∧ r ≤ a ∧ (0 ≤ r → okLS x0) := by
  have hs0 : x0.size ≤ 9223372036854775807 := h0
  by_cases c0 : a - (x0.size : Int) < 0
  · exact ⟨-1, by unfold laws_szAdd.f; rw [w64 (x := a - (x0.size : Int)) (by omega) (by omega)]; rw [if_pos c0], by omega, fun h => by omega⟩
  exact ⟨(a - (x0.size : Int)), by unfold laws_szAdd.f; rw [w64 (x := a - (x0.size : Int)) (by omega) (by omega)]; rw [if_neg c0], by omega, fun h => (by unfold okLS; omega)⟩

def okE72 (z : S72) : Prop := okLS z.f0
def okL72 (l : List S72) : Prop := l.length ≤ 1048576 ∧ ∀ z ∈ l, okE72 z
def bigE72 (z : S72) : Prop := bigLS z.f0
def bigL72 (l : List S72) : Prop := l.length ≤ 9223372036854775807 ∧ ∀ z ∈ l, bigE72 z
theorem laws_szAddS.ev (l : List S72) (a : Int) (h0 : 0 ≤ a) (h1 : a ≤ 1048576) (hb : bigL72 l) : ∃ r, Ev (fun k => laws_szAddS.f k l a) r ∧ r ≤ a ∧ (0 ≤ r → okL72 l) := by
  obtain ⟨hl, hx⟩ := hb
  unfold laws_szAddS.f
  rw [w64 (by omega) (by omega)]
  by_cases h : a - l.length < 0
  · exact ⟨-1, Ev.pos h (Ev.now _), by omega, fun h => by omega⟩
  · have key : ∀ d i : Nat, i + d = l.length → ∀ b : Int, 0 ≤ b → b ≤ 1048576 → ∃ r, Ev (fun k => laws_szAddS.l0 k l b i) r ∧ r ≤ b ∧ (0 ≤ r → ∀ x ∈ l.drop i, okE72 x) := by
      intro d
      induction d with
      | zero =>
        intro i hi b hb0 hb1
        have : i = l.length := by omega
        subst this
        exact ⟨b, Ev.step (fun k => by rw [laws_szAddS.l0]) (Ev.neg (by omega) (Ev.now _)), by omega, fun _ x hx => by simp at hx⟩
      | succ d ih =>
        intro i hi b hb0 hb1
        have hlt : i < l.length := by omega
        have hz := hx _ (List.getElem_mem hlt)
        obtain ⟨r, hr, h2, h3⟩ := laws_szAdd.ev (l[i].f0) (l[i].f1) (l[i].f2) b hb0 hb1 (hz)
        have e : rd_T72 l (i : Int) = l[i] := getD_nat l _ hlt
        by_cases hr0 : r < 0
        · refine ⟨-1, Ev.step (fun k => by rw [laws_szAddS.l0]) (Ev.pos (by omega) (Ev.pos (by omega) ?_)), by omega, fun h => by omega⟩
          rw [e]
          exact Ev.bindS hr (Ev.pos hr0 (Ev.now _))
        · obtain ⟨q, hq, h5, h4⟩ := ih (i + 1) (by omega) r (by omega) (by omega)
          refine ⟨q, Ev.step (fun k => by rw [laws_szAddS.l0]) (Ev.pos (by omega) (Ev.pos (by omega) ?_)), by omega, fun h x hx => ?_⟩
          · rw [e, w64_succ hlt hl]
            exact Ev.bindS hr (Ev.neg hr0 hq)
          · rw [List.drop_eq_getElem_cons hlt] at hx
            rcases List.mem_cons.1 hx with rfl | hx
            · exact h3 (by omega)
            · exact h4 h x hx
    obtain ⟨r, hr, h5, h2⟩ := key l.length 0 (by omega) (a - l.length) (by omega) (by omega)
    exact ⟨r, Ev.neg h hr, by omega, fun h => ⟨by omega, fun x hx => h2 h x (by simpa using hx)⟩⟩

theorem laws_szBag.ev (x0 : List (S72)) (x1 : List (S72)) (a : Int) (g0 : 0 ≤ a) (g1 : a ≤ 1048576) (h0 : bigL72 x0) (h1 : bigL72 x1) : ∃ r, Ev (fun k => laws_szBag.f k x0 x1 a) r ∧ r ≤ a ∧ (0 ≤ r → okL72 x0 ∧ okL72 x1) := by
  obtain ⟨r0, e0, b0, o0⟩ := laws_szAddS.ev x0 a g0 g1 h0
  by_cases c0 : r0 < 0
  · exact ⟨-1, by unfold laws_szBag.f; refine Ev.bind e0 ?_; refine Ev.pos c0 ?_; exact Ev.now _, by omega, fun h => by omega⟩
  obtain ⟨r1, e1, b1, o1⟩ := laws_szAddS.ev x1 r0 (by omega) (by omega) h1
  by_cases c1 : r1 < 0
  · exact ⟨-1, by unfold laws_szBag.f; refine Ev.bind e0 ?_; refine Ev.neg c0 ?_; refine Ev.bind e1 ?_; refine Ev.pos c1 ?_; exact Ev.now _, by omega, fun h => by omega⟩
  exact ⟨r1, by unfold laws_szBag.f; refine Ev.bind e0 ?_; refine Ev.neg c0 ?_; refine Ev.bind e1 ?_; refine Ev.neg c1 ?_; exact Ev.now _, by omega, fun h => ⟨o0 (by omega), o1 (by omega)⟩⟩

theorem laws_toAdd.ev (x0 : ByteArray) (x1 : Int) (x2 : Int) : laws_toAdd.f x0 x1 x2 = some (x0, x1, x2) := rfl

def c72 (x : S72) : S48 := ⟨x.f0, x.f1, x.f2⟩
theorem okE72_map {x : S72} (h : okE72 x) : okE48 (c72 x) := h
theorem okL72_map {l : List S72} (h : okL72 l) : okL48 (l.map c72) := ⟨by simpa using h.1, fun x hx => by obtain ⟨y, hy, rfl⟩ := List.mem_map.1 hx; exact okE72_map (h.2 y hy)⟩
theorem laws_toAddS.ev (l : List S72) (hb : okL72 l) : Ev (fun k => laws_toAddS.f k l) (l.map c72) := by
  obtain ⟨hl, hx⟩ := hb
  unfold laws_toAddS.f
  refine Ev.pos (by omega) (Ev.pos (by omega) ?_)
  refine Ev.eq (Ev.up (g := fun k i => laws_toAddS.l0 k l ((l.take i.toNat).map c72 ++ List.replicate (l.length - i.toNat) z48) i) l.length (fun _ => l.map c72) ?_) rfl
  intro i hi ih
  refine Ev.step (fun k => by rw [laws_toAddS.l0]) ?_
  by_cases hlt : i < l.length
  · have h2 := ih hlt
    have h3 := hx _ (List.getElem_mem hlt)
    simp only [Int.toNat_natCast] at h2 ⊢
    have e : rd_T72 l (i : Int) = l[i] := getD_nat l _ hlt
    rw [e, w64_succ hlt (by omega)]
    refine Ev.pos (by omega) (Ev.pos (by omega) (Ev.bindS (laws_toAdd.ev (l[i].f0) (l[i].f1) (l[i].f2)) (Ev.pos (by rw [fill_len _ _ _ _ hi]; omega) ?_)))
    refine Ev.congr (fun k => ?_) h2
    rw [← set_fillM c72 l z48 hlt]; rfl
  · have : i = l.length := by omega
    subst this
    refine Ev.neg (by omega) (Ev.some ?_)
    simp only [Int.toNat_natCast]
    exact fill_end _ _ _

theorem laws_toBag.ev (x0 : List (S72)) (x1 : List (S72)) (h0 : okL72 x0) (h1 : okL72 x1) : Ev (fun k => laws_toBag.f k x0 x1) (x0.map c72, x1.map c72) := by
  unfold laws_toBag.f
  exact Ev.bind (laws_toAddS.ev _ h0) (Ev.bind (laws_toAddS.ev _ h1) (Ev.now _))

theorem laws_eqAdd.refl (x0 : ByteArray) (x1 : Int) (x2 : Int) : laws_eqAdd.f x0 x1 x2 x0 x1 x2 = some true := by
  unfold laws_eqAdd.f; simp

theorem laws_eqAddS.refl (x : List S48) (hx : okL48 x) : Ev (fun k => laws_eqAddS.f k x x) true := by
  unfold laws_eqAddS.f
  refine Ev.pos rfl (Ev.eq (Ev.up (g := fun k i => laws_eqAddS.l0 k x x i) x.length (fun _ => true) ?_) rfl)
  intro i hi ih
  refine Ev.step (fun k => by rw [laws_eqAddS.l0]) ?_
  by_cases hlt : i < x.length
  · have e : rd_T48 x (i : Int) = x[i] := getD_nat x _ hlt
    have h3 := hx.2 _ (List.getElem_mem hlt)
    have h1 := hx.1
    rw [e, w64_succ hlt (by omega)]
    exact Ev.pos (by omega) (Ev.pos (by omega) (Ev.pos (by omega) (Ev.bindS (laws_eqAdd.refl (x[i].f0) (x[i].f1) (x[i].f2)) (Ev.pos rfl (ih hlt)))))
  · exact Ev.neg (by omega) (Ev.now _)

theorem laws_eqBag.refl (x0 : List (S48)) (x1 : List (S48)) (h0 : okL48 x0) (h1 : okL48 x1) : Ev (fun k => laws_eqBag.f k x0 x1 x0 x1) true := by
  unfold laws_eqBag.f
  exact (Ev.bind (laws_eqAddS.refl _ h0) (Ev.pos rfl (Ev.bind (laws_eqAddS.refl _ h1) (Ev.pos rfl (Ev.now _)))))

theorem laws_markText.go : ∀ (n : Nat) (x : Int) (s : ByteArray), 0 ≤ x → x ≤ n → (s.size : Int) + x ≤ 9223372036854775806 → ∃ t, Ev (fun k => laws_markText.l0 k x s) t := by
  intro n
  induction n with
  | zero =>
    intro x s h0 h1 h2
    exact ⟨_, Ev.step (fun k => by rw [laws_markText.l0]) (Ev.neg (by omega) (Ev.pos (by omega) (Ev.now _)))⟩
  | succ n ih =>
    intro x s h0 h1 h2
    by_cases hx : x > 0
    · have hd : Int.tdiv x 10 = x / 10 := Int.tdiv_eq_ediv_of_nonneg h0
      have hw : wrap64 (Int.tdiv x 10) = x / 10 := by rw [hd]; unfold wrap64; omega
      have hs : ∀ y : Int, (strOfNums [y]).size = 1 := fun y => by simp [strOfNums]; rfl
      obtain ⟨t, ht⟩ := ih (x / 10) ((strOfNums [(wrap64 (48 + (Int.tmod x 10))) % 256]) ++ s) (by omega) (by omega) (by rw [ByteArray.size_append, hs]; omega)
      refine ⟨t, Ev.step (fun k => by rw [laws_markText.l0]) (Ev.pos hx ?_)⟩
      simp only [Option.bind_some]
      refine Ev.pos (by rw [hs]; omega) ?_
      rw [hw]
      exact ht
    · exact ⟨_, Ev.step (fun k => by rw [laws_markText.l0]) (Ev.neg hx (Ev.pos (by omega) (Ev.now _)))⟩
theorem laws_markText.all (x : Int) (h0 : 0 ≤ x) (h1 : x ≤ 9223372036854775806) : ∃ t, Ev (fun k => laws_markText.f k x) t := by
  by_cases hx : x ≤ 0
  · exact ⟨_, by unfold laws_markText.f; exact Ev.pos hx (Ev.now _)⟩
  · obtain ⟨t, ht⟩ := laws_markText.go x.toNat x ⟨#[]⟩ h0 (by omega) (by show ((0 : Nat) : Int) + x ≤ _; omega)
    exact ⟨t, by unfold laws_markText.f; exact Ev.neg hx ht⟩

def bigE48 (z : S48) : Prop := bigLS z.f0
def bigL48 (l : List S48) : Prop := l.length ≤ 9223372036854775807 ∧ ∀ z ∈ l, bigE48 z
/-- The texts of adds are no longer than a text may be. -/
def txt48 (l : List S48) : Prop := ∀ z ∈ l, z.f0.size ≤ 9223372036854775807
theorem txt_of {l : List S48} (h : okL48 l) : txt48 l := fun z hz => Nat.le_trans (h.2 z hz) (by decide)
def sameA (a b : S48) : Bool := decide (a.f1 = b.f1) && decide (a.f2 = b.f2)
def lessA (a b : S48) : Bool := decide (a.f1 < b.f1) || (decide (a.f1 = b.f1) && decide (a.f2 < b.f2))
theorem spec_l14Same.ev (a b : S48) : spec_l14Same.f a.f0 a.f1 a.f2 b.f0 b.f1 b.f2 = some (sameA a b) := by
  unfold spec_l14Same.f sameA
  by_cases h : a.f1 = b.f1
  · rw [if_pos h, decide_eq_true h, Bool.true_and]; rfl
  · rw [if_neg h, decide_eq_false h, Bool.false_and]

theorem spec_l1In.ev (n a b : Int) : spec_l1In.f n a b = some (inB n a b) := by
  unfold spec_l1In.f inB
  by_cases h : a ≤ n
  · rw [if_pos h]; simp [h]
  · rw [if_neg h]; simp [h]

/-- Byte i of a text may stand in a value. -/
def okByte (s : ByteArray) (i : Nat) : Bool := decide (32 ≤ bt s i) && decide (bt s i ≤ 126) && !decide (bt s i = 59)
/-- A value. -/
def okVal (s : ByteArray) : Bool := allFrom (okByte s) s.size 0 && decide (s.size ≤ 20)
theorem spec_l1Value.ev (s : ByteArray) (hs : s.size ≤ 9223372036854775807) : Ev (fun k => spec_l1Value.f k s) (okVal s) := by
  unfold spec_l1Value.f okVal
  refine Ev.eq (Ev.up (g := fun k i => spec_l1Value.l0 k s i) s.size (fun i => allFrom (okByte s) s.size i && decide (s.size ≤ 20)) ?_) rfl
  intro i hi ih
  refine Ev.step (fun k => by rw [spec_l1Value.l0]) ?_
  by_cases hlt : i < s.size
  · refine Ev.pos (by omega) (Ev.pos (by omega) ?_)
    rw [allFrom_step hlt, w64_succ hlt hs]
    have ih := ih hlt
    generalize allFrom (okByte s) s.size (i + 1) = q at ih ⊢
    unfold okByte
    refine Ev.cases (fun h => Ev.some (by rw [decide_eq_false (by omega : ¬ 32 ≤ bt s i)]; rfl)) (fun h1 => ?_)
    refine Ev.cases (fun h => Ev.some (by rw [decide_eq_false (by omega : ¬ bt s i ≤ 126)]; simp)) (fun h2 => ?_)
    refine Ev.cases (fun h => Ev.some (by rw [decide_eq_true h]; simp)) (fun h3 => Ev.eq ih ?_)
    rw [decide_eq_true (by omega : 32 ≤ bt s i), decide_eq_true (by omega : bt s i ≤ 126), decide_eq_false h3]; simp
  · have : i = s.size := by omega
    subst this
    refine Ev.neg (by omega) (Ev.some ?_)
    rw [allFrom_end, Bool.true_and]
    exact decide_eq_decide.2 (by omega)

theorem spec_l14Less.ev (a b : S48) : spec_l14Less.f a.f0 a.f1 a.f2 b.f0 b.f1 b.f2 = some (lessA a b) := by
  unfold spec_l14Less.f lessA
  by_cases h : a.f1 < b.f1
  · rw [if_pos h, decide_eq_true h, Bool.true_or]
  · rw [if_neg h, decide_eq_false h, Bool.false_or]
    by_cases h2 : a.f1 = b.f1
    · rw [if_pos h2, decide_eq_true h2, Bool.true_and]
    · rw [if_neg h2, decide_eq_false h2, Bool.false_and]

def okAdd (z : S48) : Bool := okVal z.f0 && (inB z.f1 0 5 && inB z.f2 1 1000)
def okAt (l : List S48) (i : Nat) : Bool := okAdd (rd_T48 l (i : Int)) && (decide (i = 0) || lessA (rd_T48 l ((i : Int) - 1)) (rd_T48 l (i : Int)))
def goodA (l : List S48) : Bool := allFrom (okAt l) l.length 0 && decide (l.length ≤ 40)
theorem spec_l14Adds.ev (l : List S48) (hl : okL48 l) (ht : txt48 l) : Ev (fun k => spec_l14Adds.f k l) (goodA l) := by
  have h1 := hl.1
  unfold spec_l14Adds.f goodA
  refine Ev.eq (Ev.up (g := fun k i => spec_l14Adds.l0 k l l (l.length : Int) i) l.length (fun i => allFrom (okAt l) l.length i && decide (l.length ≤ 40)) ?_) rfl
  intro i hi ih
  refine Ev.step (fun k => by rw [spec_l14Adds.l0]) ?_
  by_cases hlt : i < l.length
  · have ih := ih hlt
    have e : rd_T48 l (i : Int) = l[i] := getD_nat l _ hlt
    have hz : (rd_T48 l (i : Int)).f0.size ≤ 9223372036854775807 := by rw [e]; exact ht _ (List.getElem_mem hlt)
    rw [allFrom_step hlt, w64_succ hlt (by omega)]
    generalize allFrom (okAt l) l.length (i + 1) = q at ih ⊢
    unfold okAt okAdd
    refine Ev.pos (by omega) (Ev.pos (by omega) (Ev.pos (by omega) ?_))
    refine Ev.bind (spec_l1Value.ev _ hz) (Ev.cases (fun g1 => ?_) (fun g1 => Ev.some (by rw [Bool.eq_false_iff.2 g1]; simp)))
    refine Ev.bindS (spec_l1In.ev _ _ _) (Ev.cases (fun g2 => ?_) (fun g2 => Ev.some (by rw [Bool.eq_false_iff.2 g2]; simp)))
    refine Ev.bindS (spec_l1In.ev _ _ _) (Ev.cases (fun g3 => ?_) (fun g3 => Ev.some (by rw [Bool.eq_false_iff.2 g3]; simp)))
    rw [g1, g2, g3]
    refine Ev.cases (fun g4 => ?_) (fun g4 => Ev.eq ih (by rw [decide_eq_true (by omega : i = 0)]; simp))
    rw [w64 (by omega) (by omega), decide_eq_false (by omega : ¬ i = 0)]
    refine Ev.pos (by omega) (Ev.pos (by omega) (Ev.bindS (spec_l14Less.ev _ _) (Ev.cases (fun g5 => Ev.eq ih (by rw [g5]; simp)) (fun g5 => Ev.some (by rw [Bool.eq_false_iff.2 g5]; simp)))))
  · have : i = l.length := by omega
    subst this
    refine Ev.neg (by omega) (Ev.some ?_)
    rw [allFrom_end, Bool.true_and]
    exact decide_eq_decide.2 (by omega)

def goodB (a g : List S48) : Bool := a.all (fun x => !(g.any (fun y => sameA x y))) && (goodA a && goodA g)
theorem spec_GoodBag.ev (a g : List S48) (ha : okL48 a) (hg : okL48 g) (ta : txt48 a) (tg : txt48 g) : Ev (fun k => spec_GoodBag.f k a g) (goodB a g) := by
  have h1 := ha.1
  have h2 := hg.1
  unfold spec_GoodBag.f goodB
  refine Ev.eq (Ev.up (g := fun k i => spec_GoodBag.l0 k a (a.length : Int) i a g) a.length (fun i => (a.drop i).all (fun x => !(g.any (fun y => sameA x y))) && (goodA a && goodA g)) ?_) rfl
  intro i hi ih
  refine Ev.step (fun k => by rw [spec_GoodBag.l0]) ?_
  by_cases hlt : i < a.length
  · have ih := ih hlt
    have e : rd_T48 a (i : Int) = a[i] := getD_nat a _ hlt
    rw [all_take_succ a _ hlt, e]
    generalize a[i] = z
    generalize (a.drop (i + 1)).all (fun x => !(g.any (fun y => sameA x y))) = q at ih ⊢
    refine Ev.pos (by omega) (Ev.pos (by omega) (Ev.pos (by omega) ?_))
    refine Ev.eq (Ev.up (g := fun k j => spec_GoodBag.l1 k a (a.length : Int) (i : Int) g (g.length : Int) j a g z.f0 z.f1 z.f2) g.length (fun j => !((g.drop j).any (fun y => sameA z y)) && q && (goodA a && goodA g)) ?_) (by simp)
    intro j hj jh
    refine Ev.step (fun k => by rw [spec_GoodBag.l1]) ?_
    by_cases hjl : j < g.length
    · have jh := jh hjl
      have e2 : rd_T48 g (j : Int) = g[j] := getD_nat g _ hjl
      rw [List.drop_eq_getElem_cons hjl, List.any_cons, e2, w64_succ hjl (by omega)]
      refine Ev.pos (by omega) (Ev.pos (by omega) (Ev.pos (by omega) (Ev.bindS (spec_l14Same.ev _ _) (Ev.cases (fun h => Ev.some (by rw [h]; simp)) (fun h => Ev.eq jh (by rw [Bool.eq_false_iff.2 h]; simp))))))
    · refine Ev.neg (by omega) ?_
      rw [w64_succ hlt (by omega), List.drop_of_length_le (by omega)]
      exact Ev.eq ih (by simp)
  · refine Ev.neg (by omega) ?_
    rw [List.drop_of_length_le (by omega)]
    refine Ev.bind (spec_l14Adds.ev a ha ta) (Ev.cases (fun h => ?_) (fun h => Ev.some (by rw [Bool.eq_false_iff.2 h]; simp)))
    rw [h]
    exact Ev.bind (spec_l14Adds.ev g hg tg) (Ev.some (by simp))

/-- The first number that is not 0. -/
def orI : List Int → Int
  | [] => 0
  | x :: r => if x = 0 then orI r else x
theorem cmp_Or_int.ev (l : List Int) (hl : l.length ≤ 9223372036854775807) : Ev (fun k => cmp_Or_int.f k l) (orI l) := by
  unfold cmp_Or_int.f
  refine Ev.eq (Ev.up (g := fun k i => cmp_Or_int.l0 k 0 l (l.length : Int) i) l.length (fun i => orI (l.drop i)) ?_) rfl
  intro i hi ih
  refine Ev.step (fun k => by rw [cmp_Or_int.l0]) ?_
  by_cases hlt : i < l.length
  · have e : orI (l.drop i) = if l[i] = 0 then orI (l.drop (i + 1)) else l[i] := by
      rw [List.drop_eq_getElem_cons hlt]; rfl
    refine Ev.pos (by omega) (Ev.pos (by omega) (Ev.pos (by omega) ?_))
    rw [rd_get hlt, w64_succ hlt hl, e]
    exact Ev.cases (fun h => Ev.eq (ih hlt) (by rw [if_pos h])) (fun h => Ev.some (by rw [if_neg h]))
  · have : i = l.length := by omega
    subst this
    exact Ev.neg (by omega) (Ev.some (by simp [orI]))

def cmpI (a b : Int) : Int := if a < b then -1 else if a > b then 1 else 0
theorem cmp_Compare_int.ev (a b : Int) : cmp_Compare_int.f a b = some (cmpI a b) := by
  unfold cmp_Compare_int.f cmp_isNaN_int.f cmpI
  simp only [Option.bind_some, bne_self_eq_false]
  rw [if_neg (by simp), if_neg (by simp)]
  split
  · rfl
  · split <;> rfl

def cmpA (a b : S48) : Int := orI [cmpI a.f1 b.f1, cmpI a.f2 b.f2]
theorem cmpA_ge (a b : S48) : cmpA a b ≥ 0 ↔ lessA a b = false := by
  unfold cmpA lessA cmpI
  simp only [orI]
  rcases Int.lt_trichotomy a.f1 b.f1 with h | h | h
  · simp [h]
  · rcases Int.lt_trichotomy a.f2 b.f2 with g | g | g
    · simp [h, g]
    · simp [h, g]
    · simp [h, g, Int.not_lt.2 (Int.le_of_lt g)]
  · have n1 : ¬ a.f1 < b.f1 := by omega
    have n2 : ¬ a.f1 = b.f1 := by omega
    simp [h, n1, n2]
theorem cmpA_eq (a b : S48) : (cmpA a b == 0) = sameA a b := by
  unfold cmpA sameA cmpI
  simp only [orI]
  rcases Int.lt_trichotomy a.f1 b.f1 with h | h | h
  · have n2 : ¬ a.f1 = b.f1 := by omega
    simp [h, n2]
  · rcases Int.lt_trichotomy a.f2 b.f2 with g | g | g
    · have n2 : ¬ a.f2 = b.f2 := by omega
      simp [h, g, n2]
    · simp [h, g]
    · have n2 : ¬ a.f2 = b.f2 := by omega
      simp [h, g, n2, Int.not_lt.2 (Int.le_of_lt g)]
  · have n1 : ¬ a.f1 < b.f1 := by omega
    have n2 : ¬ a.f1 = b.f1 := by omega
    simp [h, n1, n2]
theorem sameA_symm (a b : S48) : sameA a b = sameA b a := by
  unfold sameA
  rw [Bool.eq_iff_iff]; simp only [Bool.and_eq_true, decide_eq_true_eq]; omega
theorem impl_compareAdds.ev (a b : S48) : Ev (fun k => impl_compareAdds.f k a.f0 a.f1 a.f2 b.f0 b.f1 b.f2) (cmpA a b) := by
  unfold impl_compareAdds.f
  exact Ev.bindS (cmp_Compare_int.ev _ _) (Ev.bindS (cmp_Compare_int.ev _ _) (Ev.bind (cmp_Or_int.ev _ (by simp)) (Ev.now _)))

theorem impl_in.ev (n a b : Int) : impl_in.f n a b = some (inB n a b) := by
  unfold impl_in.f inB
  by_cases h : a ≤ n
  · rw [if_pos h]; simp [h]
  · rw [if_neg h]; simp [h]

theorem impl_isValue.ev (s : ByteArray) (hs : s.size ≤ 9223372036854775807) : Ev (fun k => impl_isValue.f k s) (okVal s) := by
  unfold impl_isValue.f okVal
  refine Ev.eq (Ev.up (g := fun k i => impl_isValue.l0 k s (s.size : Int) i) s.size (fun i => allFrom (okByte s) s.size i && decide (s.size ≤ 20)) ?_) rfl
  intro i hi ih
  refine Ev.step (fun k => by rw [impl_isValue.l0]) ?_
  by_cases hlt : i < s.size
  · refine Ev.pos (by omega) (Ev.pos (by omega) (Ev.pos (by omega) ?_))
    rw [allFrom_step hlt, w64_succ hlt hs]
    have ih := ih hlt
    generalize allFrom (okByte s) s.size (i + 1) = q at ih ⊢
    unfold okByte
    refine Ev.cases (fun h => Ev.some (by rw [decide_eq_false (by omega : ¬ 32 ≤ bt s i)]; rfl)) (fun h1 => ?_)
    refine Ev.cases (fun h => Ev.some (by rw [decide_eq_false (by omega : ¬ bt s i ≤ 126)]; simp)) (fun h2 => ?_)
    refine Ev.cases (fun h => Ev.some (by rw [decide_eq_true h]; simp)) (fun h3 => Ev.eq ih ?_)
    rw [decide_eq_true (by omega : 32 ≤ bt s i), decide_eq_true (by omega : bt s i ≤ 126), decide_eq_false h3]; simp
  · have : i = s.size := by omega
    subst this
    refine Ev.neg (by omega) (Ev.some ?_)
    rw [allFrom_end, Bool.true_and]
    exact decide_eq_decide.2 (by omega)

theorem impl_areAdds.ev (l : List S48) (hl : okL48 l) (ht : txt48 l) : Ev (fun k => impl_areAdds.f k l) (goodA l) := by
  have h1 := hl.1
  unfold impl_areAdds.f goodA
  refine Ev.eq (Ev.up (g := fun k i => impl_areAdds.l0 k l l (l.length : Int) i) l.length (fun i => allFrom (okAt l) l.length i && decide (l.length ≤ 40)) ?_) rfl
  intro i hi ih
  refine Ev.step (fun k => by rw [impl_areAdds.l0]) ?_
  by_cases hlt : i < l.length
  · have ih := ih hlt
    have e : rd_T48 l (i : Int) = l[i] := getD_nat l _ hlt
    have hz : (rd_T48 l (i : Int)).f0.size ≤ 9223372036854775807 := by rw [e]; exact ht _ (List.getElem_mem hlt)
    rw [allFrom_step hlt, w64_succ hlt (by omega)]
    generalize allFrom (okAt l) l.length (i + 1) = q at ih ⊢
    unfold okAt okAdd
    refine Ev.pos (by omega) (Ev.pos (by omega) (Ev.pos (by omega) ?_))
    refine Ev.bind (impl_isValue.ev _ hz) (Ev.cases (fun g1 => ?_) (fun g1 => Ev.some (by rw [Bool.eq_false_iff.2 g1]; simp)))
    refine Ev.bindS (impl_in.ev _ _ _) (Ev.cases (fun g2 => ?_) (fun g2 => Ev.some (by rw [Bool.eq_false_iff.2 g2]; simp)))
    refine Ev.bindS (impl_in.ev _ _ _) (Ev.cases (fun g3 => ?_) (fun g3 => Ev.some (by rw [Bool.eq_false_iff.2 g3]; simp)))
    rw [g1, g2, g3]
    refine Ev.cases (fun g4 => ?_) (fun g4 => Ev.eq ih (by rw [decide_eq_true (by omega : i = 0)]; simp))
    rw [w64 (by omega) (by omega), decide_eq_false (by omega : ¬ i = 0)]
    refine Ev.pos (by omega) (Ev.pos (by omega) (Ev.bind (impl_compareAdds.ev _ _) (Ev.cases (fun g5 => Ev.some (by rw [(cmpA_ge _ _).1 g5]; simp)) (fun g5 => Ev.eq ih ?_))))
    have : lessA (rd_T48 l ((i : Int) - 1)) (rd_T48 l (i : Int)) = true := by
      cases h : lessA (rd_T48 l ((i : Int) - 1)) (rd_T48 l (i : Int)) with
      | true => rfl
      | false => exact absurd ((cmpA_ge _ _).2 h) g5
    rw [this]; simp
  · have : i = l.length := by omega
    subst this
    refine Ev.neg (by omega) (Ev.some ?_)
    rw [allFrom_end, Bool.true_and]
    exact decide_eq_decide.2 (by omega)

theorem impl_isBag_1_1.ev (o x : S48) : Ev (fun k => impl_isBag_1_1.f k o.f0 o.f1 o.f2 x.f0 x.f1 x.f2) (sameA x o) := by
  unfold impl_isBag_1_1.f
  refine Ev.bind (impl_compareAdds.ev o x) (Ev.some ?_)
  rw [cmpA_eq, sameA_symm]

theorem has_impl_isBag_1_1.ev (g : List S48) (x : S48) : Ev (fun k => has_impl_isBag_1_1.f k g x.f0 x.f1 x.f2) (g.any (fun o => sameA x o)) := by
  unfold has_impl_isBag_1_1.f
  exact idxAny_Ev (fun o _ => impl_isBag_1_1.ev o x)

theorem impl_isBag_1.ev (x : S48) (a g : List S48) : Ev (fun k => impl_isBag_1.f k x.f0 x.f1 x.f2 a g) (g.any (fun o => sameA x o)) := by
  unfold impl_isBag_1.f
  exact Ev.bind (has_impl_isBag_1_1.ev g x) (Ev.now _)

theorem has_impl_isBag_1.ev (l a g : List S48) : Ev (fun k => has_impl_isBag_1.f k l a g) (l.any (fun x => g.any (fun o => sameA x o))) := by
  unfold has_impl_isBag_1.f
  exact idxAny_Ev (fun x _ => impl_isBag_1.ev x a g)

theorem any_all (p : S48 → Bool) : ∀ l : List S48, (!(l.any p)) = l.all (fun z => !(p z))
  | [] => rfl
  | a :: l => by rw [List.any_cons, List.all_cons, ← any_all p l]; cases p a <;> simp
theorem impl_isBag.ev (a g : List S48) (ha : okL48 a) (hg : okL48 g) (ta : txt48 a) (tg : txt48 g) : Ev (fun k => impl_isBag.f k a g) (goodB a g) := by
  unfold impl_isBag.f goodB
  refine Ev.bind (impl_areAdds.ev a ha ta) (Ev.cases (fun h1 => ?_) (fun h1 => Ev.some (by rw [Bool.eq_false_iff.2 h1]; simp)))
  refine Ev.bind (impl_areAdds.ev g hg tg) (Ev.cases (fun h2 => ?_) (fun h2 => Ev.some (by rw [Bool.eq_false_iff.2 h2]; simp)))
  refine Ev.bind (has_impl_isBag_1.ev a a g) (Ev.some ?_)
  rw [any_all, h1, h2]; simp

theorem rd48_at (p r : List S48) (v : S48) : rd_T48 (p ++ v :: r) (p.length : Int) = v := by simp [rd_T48]
theorem set48_at (p r : List S48) (x v : S48) : (p ++ x :: r).set (p.length : Int).toNat v = p ++ v :: r := by simp
theorem laws_markAddS.go (r : List S48) : ∀ (p q : List S48) (k0 : Int), q.length = p.length → 0 ≤ k0 → k0 + 3 * (r.length : Int) ≤ 9223372036854775806 → p.length + r.length ≤ 9223372036854775806 →
    ∃ r' : List S48, Ev (fun k => laws_markAddS.l0 k (p ++ r) k0 (p.length : Int)) (k0 + 3 * (r.length : Int), p ++ r') ∧ Ev (fun k => laws_heldAddS.l0 k (q ++ r') k0 (q.length : Int)) (k0 + 3 * (r.length : Int)) := by
  induction r with
  | nil =>
    intro p q k0 hq h0 h1 h2
    exact ⟨[], Ev.step (fun k => by rw [laws_markAddS.l0]) (Ev.neg (by simp) (Ev.some (by simp))), Ev.step (fun k => by rw [laws_heldAddS.l0]) (Ev.neg (by simp) (Ev.some (by simp)))⟩
  | cons x r ih =>
    intro p q k0 hq h0 h1 h2
    simp only [List.length_cons] at h1 h2
    obtain ⟨t, ht⟩ := laws_markText.all k0 h0 (by omega)
    have e1 : wrap64 (k0 + 1) = k0 + 1 := w64 (by omega) (by omega)
    have e2 : wrap64 (k0 + 1 + 1) = k0 + 1 + 1 := w64 (by omega) (by omega)
    have e3 : wrap64 (k0 + 1 + 1 + 1) = k0 + 1 + 1 + 1 := w64 (by omega) (by omega)
    have el : ∀ p : List S48, (p ++ [(⟨t, k0 + 1, k0 + 1 + 1⟩ : S48)]).length = p.length + 1 := fun p => by simp
    obtain ⟨r', hm, hh⟩ := ih (p ++ [(⟨t, k0 + 1, k0 + 1 + 1⟩ : S48)]) (q ++ [(⟨t, k0 + 1, k0 + 1 + 1⟩ : S48)]) (k0 + 1 + 1 + 1) (by rw [el, el, hq]) (by omega) (by omega) (by rw [el]; omega)
    have ep : ∀ p : List S48, p.length ≤ 9223372036854775805 → wrap64 ((p.length : Int) + 1) = (((p ++ [(⟨t, k0 + 1, k0 + 1 + 1⟩ : S48)]).length : Nat) : Int) := fun p h => by rw [w64 (by omega) (by omega), el]; omega
    refine ⟨⟨t, k0 + 1, k0 + 1 + 1⟩ :: r', ?_, ?_⟩
    · refine Ev.step (fun k => by rw [laws_markAddS.l0]) (Ev.pos (by simp; omega) (Ev.bind ht ?_))
      refine Ev.pos (by omega) ?_
      refine Ev.bindS rfl ?_
      rw [set48_at, rd48_at, rd48_at]
      refine Ev.bindS rfl ?_
      rw [set48_at, rd48_at, set48_at, e1, e2, e3, ep p (by omega)]
      refine Ev.eq (Ev.congr (fun k => ?_) hm) ?_
      · rw [List.append_assoc]; rfl
      · rw [Prod.mk.injEq]; exact ⟨by simp only [List.length_cons]; omega, by simp⟩
    · refine Ev.step (fun k => by rw [laws_heldAddS.l0]) (Ev.pos (by simp; omega) ?_)
      refine Ev.pos (by omega) (Ev.bind ht ?_)
      rw [rd48_at, e1, e2, e3, ep q (by omega)]
      refine Ev.pos rfl (Ev.pos rfl (Ev.pos rfl (Ev.eq (Ev.congr (fun k => ?_) hh) (by simp only [List.length_cons]; omega))))
      rw [List.append_assoc]; rfl
theorem laws_markAddS.two (l : List S48) (k0 : Int) (h0 : 0 ≤ k0) (h1 : k0 + 3 * (l.length : Int) ≤ 9223372036854775806) : ∃ l' : List S48, Ev (fun k => laws_markAddS.f k l k0) (k0 + 3 * (l.length : Int), l') ∧ Ev (fun k => laws_heldAddS.f k l' k0) (k0 + 3 * (l.length : Int)) := by
  obtain ⟨l', h, h2⟩ := laws_markAddS.go l [] [] k0 rfl h0 h1 (by simp; omega)
  exact ⟨l', by simpa [laws_markAddS.f] using h, by simpa [laws_heldAddS.f] using h2⟩

theorem laws_markBag.two (a g : List S48) (ha : a.length ≤ 1048576) (hg : g.length ≤ 1048576) : ∃ (n : Int) (a' g' : List S48), Ev (fun k => laws_markBag.f k a g 1) (n, a', g') ∧ Ev (fun k => laws_heldBag.f k a' g' 1) n ∧ ¬ n < 0 := by
  obtain ⟨a', h1, j1⟩ := laws_markAddS.two a 1 (by omega) (by omega)
  obtain ⟨g', h2, j2⟩ := laws_markAddS.two g (1 + 3 * (a.length : Int)) (by omega) (by omega)
  refine ⟨1 + 3 * (a.length : Int) + 3 * (g.length : Int), a', g', ?_, ?_, by omega⟩
  · unfold laws_markBag.f; exact Ev.bind h1 (Ev.bind h2 (Ev.now _))
  · unfold laws_heldBag.f
    refine Ev.bind j1 ?_
    refine Ev.neg (by omega) (Ev.bind j2 ?_)
    exact Ev.neg (by omega) (Ev.now _)

def Rk (x y : S48) : Prop := x.f1 < y.f1 ∨ (x.f1 = y.f1 ∧ x.f2 < y.f2)
def Sk (x y : S48) : Prop := x.f1 = y.f1 ∧ x.f2 = y.f2
theorem lessA_iff (x y : S48) : lessA x y = true ↔ Rk x y := by simp [lessA, Rk]
theorem sameA_iff (x y : S48) : sameA x y = true ↔ Sk x y := by simp [sameA, Sk]
def sortedP (l : List S48) : Prop := l.Pairwise Rk
theorem Rk.irrefl (x : S48) : ¬ Rk x x := by unfold Rk; omega
theorem Rk.asymm {x y : S48} (h : Rk x y) : ¬ Rk y x := by unfold Rk at *; omega
theorem Rk.trans {x y z : S48} (h : Rk x y) (k : Rk y z) : Rk x z := by unfold Rk at *; omega
theorem uniqP : ∀ (l m : List S48), sortedP l → sortedP m → (∀ x, x ∈ l ↔ x ∈ m) → l = m
  | [], [], _, _, _ => rfl
  | [], b :: m, _, _, h => absurd ((h b).2 (List.mem_cons_self ..)) (by simp)
  | a :: l, [], _, _, h => absurd ((h a).1 (List.mem_cons_self ..)) (by simp)
  | a :: l, b :: m, hl, hm, h => by
    obtain ⟨hl1, hl2⟩ := List.pairwise_cons.1 hl
    obtain ⟨hm1, hm2⟩ := List.pairwise_cons.1 hm
    have hab : a = b := by
      rcases List.mem_cons.1 ((h a).1 (List.mem_cons_self ..)) with e | e
      · exact e
      · rcases List.mem_cons.1 ((h b).2 (List.mem_cons_self ..)) with e' | e'
        · exact e'.symm
        · exact absurd (hl1 b e') (hm1 a e).asymm
    subst hab
    rw [uniqP l m hl2 hm2 fun x => ⟨fun hx => ?_, fun hx => ?_⟩]
    · rcases List.mem_cons.1 ((h x).1 (List.mem_cons_of_mem _ hx)) with e | e
      · subst e; exact absurd (hl1 x hx) (Rk.irrefl x)
      · exact e
    · rcases List.mem_cons.1 ((h x).2 (List.mem_cons_of_mem _ hx)) with e | e
      · subst e; exact absurd (hm1 x hx) (Rk.irrefl x)
      · exact e
def putA : List S48 → S48 → List S48
  | [], x => [x]
  | y :: ys, x => if lessA y x = true then y :: putA ys x else if sameA y x = true then x :: ys else x :: y :: ys
theorem putA_sub (l : List S48) (x z : S48) : z ∈ putA l x → z = x ∨ z ∈ l := by
  induction l with
  | nil => intro h; simpa [putA] using h
  | cons y ys ih =>
    unfold putA
    split
    · intro h
      rcases List.mem_cons.1 h with e | e
      · exact .inr (by rw [e]; exact List.mem_cons_self ..)
      · rcases ih e with e | e
        · exact .inl e
        · exact .inr (List.mem_cons_of_mem _ e)
    · split
      · intro h
        rcases List.mem_cons.1 h with e | e
        · exact .inl e
        · exact .inr (List.mem_cons_of_mem _ e)
      · intro h
        rcases List.mem_cons.1 h with e | e
        · exact .inl e
        · exact .inr e
theorem putA_mem (l : List S48) (x : S48) (hn : ∀ y, y ∈ l → ¬ Sk y x) (z : S48) : z ∈ putA l x ↔ z = x ∨ z ∈ l := by
  refine ⟨putA_sub l x z, ?_⟩
  induction l with
  | nil => intro h; simpa [putA] using h
  | cons y ys ih =>
    have ih := ih (fun w hw => hn w (List.mem_cons_of_mem _ hw))
    unfold putA
    split
    · rintro (e | e)
      · exact List.mem_cons_of_mem _ (ih (.inl e))
      · rcases List.mem_cons.1 e with e | e
        · rw [e]; exact List.mem_cons_self ..
        · exact List.mem_cons_of_mem _ (ih (.inr e))
    · split
      · rename_i h
        exact absurd ((sameA_iff y x).1 h) (hn y (List.mem_cons_self ..))
      · rintro (e | e)
        · rw [e]; exact List.mem_cons_self ..
        · exact List.mem_cons_of_mem _ e
theorem putA_sorted (l : List S48) (x : S48) (h : sortedP l) : sortedP (putA l x) := by
  induction l with
  | nil => simp [putA, sortedP]
  | cons y ys ih =>
    obtain ⟨h1, h2⟩ := List.pairwise_cons.1 h
    unfold putA
    split
    · rename_i hlt
      refine List.pairwise_cons.2 ⟨fun z hz => ?_, ih h2⟩
      rcases putA_sub ys x z hz with e | e
      · rw [e]; exact (lessA_iff y x).1 hlt
      · exact h1 z e
    · rename_i hge
      split
      · rename_i hs
        have hs := (sameA_iff y x).1 hs
        refine List.pairwise_cons.2 ⟨fun z hz => ?_, h2⟩
        have := h1 z hz
        unfold Rk Sk at *; omega
      · rename_i hs
        have hxy : Rk x y := by
          have h3 : ¬ Rk y x := fun h => hge ((lessA_iff y x).2 h)
          have h4 : ¬ Sk y x := fun h => hs ((sameA_iff y x).2 h)
          unfold Rk Sk at *; omega
        refine List.pairwise_cons.2 ⟨fun z hz => ?_, h⟩
        rcases List.mem_cons.1 hz with e | e
        · rw [e]; exact hxy
        · exact hxy.trans (h1 z e)
theorem putA_length (l : List S48) (x : S48) : (putA l x).length ≤ l.length + 1 := by
  induction l with
  | nil => simp [putA]
  | cons y ys ih =>
    unfold putA
    split
    · simp only [List.length_cons]; omega
    · split <;> simp only [List.length_cons] <;> omega
theorem spec_l14Put.ev (L : List S48) (x : S48) (hl : L.length ≤ 2000000) : Ev (fun k => spec_l14Put.f k L x.f0 x.f1 x.f2) (putA L x) := by
  unfold spec_l14Put.f
  refine Ev.eq (Ev.up (g := fun k i => spec_l14Put.l0 k L i x.f0 x.f1 x.f2) L.length (fun i => L.take i ++ putA (L.drop i) x) ?_) (by simp)
  intro i hi ih
  refine Ev.step (fun k => by rw [spec_l14Put.l0]) ?_
  by_cases hlt : i < L.length
  · have h2 := ih hlt
    have e : rd_T48 L (i : Int) = L[i] := getD_nat L _ hlt
    have hd : L.drop i = L[i] :: L.drop (i + 1) := List.drop_eq_getElem_cons hlt
    refine Ev.pos (by omega) (Ev.pos (by omega) ?_)
    rw [e]
    refine Ev.bindS (spec_l14Less.ev L[i] x) ?_
    refine Ev.cases (fun hc => ?_) (fun hc => ?_)
    · rw [w64_succ hlt (by omega)]
      refine Ev.eq h2 ?_
      rw [hd]
      simp only [putA, if_pos hc]
      rw [take_snoc L hlt, List.append_assoc]; rfl
    · refine Ev.pos (by omega) (Ev.bindS rfl (Ev.pos (by simp; omega) (Ev.bindS rfl (Ev.pos (by simp; omega) (Ev.bindS rfl ?_)))))
      refine Ev.bindS (spec_l14Same.ev L[i] x) ?_
      refine Ev.cases (fun he => ?_) (fun he => ?_)
      · refine Ev.pos (by rw [w64_succ hlt (by omega)]; omega) (Ev.pos (by rw [w64_succ hlt (by omega)]; omega) (Ev.bindS rfl (Ev.pos (by rw [w64_succ hlt (by omega)]; simp; omega) (Ev.some ?_))))
        rw [w64_succ hlt (by omega), hd]
        simp only [putA, if_neg hc, if_pos he]
        simp
      · refine Ev.bindS rfl (Ev.pos (by simp; omega) (Ev.some ?_))
        rw [hd]
        simp only [putA, if_neg hc, if_neg he]
        rw [← hd]
        simp
  · have : i = L.length := by omega
    subst this
    refine Ev.neg (by omega) (Ev.pos (by omega) (Ev.pos (by omega) (Ev.bindS rfl (Ev.pos (by simp; omega) (Ev.bindS rfl (Ev.pos (by simp; omega) (Ev.bindS rfl (Ev.bindS rfl (Ev.pos (by simp; omega) (Ev.some ?_))))))))))
    simp [putA]

theorem goodA_facts (l : List S48) (h : goodA l = true) : l.length ≤ 40 ∧ sortedP l := by
  unfold goodA at h
  obtain ⟨h1, h2⟩ := Bool.and_eq_true_iff.1 h
  refine ⟨of_decide_eq_true h2, List.pairwise_iff_getElem.2 ?_⟩
  have h3 := allFrom_iff.1 h1
  have step : ∀ i, (hi : i + 1 < l.length) → Rk l[i] l[i + 1] := by
    intro i hi
    have h4 := h3 (i + 1) (by omega) hi
    unfold okAt at h4
    have h5 := (Bool.and_eq_true_iff.1 h4).2
    rw [decide_eq_false (by omega : ¬ (i + 1 = 0)), Bool.false_or] at h5
    have e1 : rd_T48 l (((i + 1 : Nat) : Int) - 1) = l[i] := by
      rw [show ((i + 1 : Nat) : Int) - 1 = (i : Int) by omega]; exact getD_nat l _ (by omega)
    have e2 : rd_T48 l ((i + 1 : Nat) : Int) = l[i + 1] := getD_nat l _ hi
    rw [e1, e2] at h5
    exact (lessA_iff _ _).1 h5
  intro i j hi hj hij
  obtain ⟨d, rfl⟩ : ∃ d, j = i + 1 + d := ⟨j - (i + 1), by omega⟩
  clear hij
  induction d with
  | zero => exact step i hj
  | succ d ih => exact (ih (by omega)).trans (step (i + 1 + d) hj)
theorem goodB_facts (a g : List S48) (h : goodB a g = true) : a.length ≤ 40 ∧ g.length ≤ 40 ∧ sortedP a ∧ sortedP g ∧ ∀ x, x ∈ a → ∀ y, y ∈ g → ¬ Sk x y := by
  unfold goodB at h
  obtain ⟨h1, h2⟩ := Bool.and_eq_true_iff.1 h
  obtain ⟨h3, h4⟩ := Bool.and_eq_true_iff.1 h2
  obtain ⟨a1, a2⟩ := goodA_facts a h3
  obtain ⟨g1, g2⟩ := goodA_facts g h4
  refine ⟨a1, g1, a2, g2, fun x hx y hy hs => ?_⟩
  have h5 := List.all_eq_true.1 h1 x hx
  have h6 : g.any (fun y => sameA x y) = true := List.any_eq_true.2 ⟨y, hy, (sameA_iff x y).2 hs⟩
  rw [h6] at h5
  cases h5
theorem goodA_each (l : List S48) (h : goodA l = true) : ∀ z, z ∈ l → okVal z.f0 = true ∧ z.f2 ≤ 1000 ∧ 1 ≤ z.f2 := by
  intro z hz
  unfold goodA at h
  have h3 := allFrom_iff.1 (Bool.and_eq_true_iff.1 h).1
  obtain ⟨i, hi, rfl⟩ := List.getElem_of_mem hz
  have h4 := h3 i (by omega) hi
  unfold okAt okAdd at h4
  have e : rd_T48 l (i : Int) = l[i] := getD_nat l _ hi
  rw [e] at h4
  obtain ⟨h5, _⟩ := Bool.and_eq_true_iff.1 h4
  obtain ⟨h6, h7⟩ := Bool.and_eq_true_iff.1 h5
  obtain ⟨_, h8⟩ := Bool.and_eq_true_iff.1 h7
  have h9 := inB_iff.1 h8
  exact ⟨h6, h9.2, h9.1⟩
def nxt (c : Int) (n : Int) (z : S48) : Int := if z.f1 = c then (if z.f2 ≥ n then z.f2 + 1 else n) else n
def nextN (c : Int) (l : List S48) (n : Int) : Int := l.foldl (nxt c) n
theorem nextN_facts (c : Int) (l : List S48) : ∀ n : Int, n ≤ nextN c l n ∧ (∀ z, z ∈ l → z.f1 = c → z.f2 < nextN c l n) ∧ (n ≤ 1001 → (∀ z, z ∈ l → z.f2 ≤ 1000) → nextN c l n ≤ 1001) := by
  induction l with
  | nil => intro n; exact ⟨Int.le_refl _, fun z hz => by simp at hz, fun h _ => h⟩
  | cons x l ih =>
    intro n
    obtain ⟨h1, h2, h3⟩ := ih (nxt c n x)
    have e : nextN c (x :: l) n = nextN c l (nxt c n x) := rfl
    have q : n ≤ nxt c n x ∧ (x.f1 = c → x.f2 < nxt c n x) ∧ (n ≤ 1001 → x.f2 ≤ 1000 → nxt c n x ≤ 1001) := by
      unfold nxt
      split
      · split
        · exact ⟨by omega, fun _ => by omega, fun _ _ => by omega⟩
        · exact ⟨by omega, fun _ => by omega, fun _ _ => by omega⟩
      · rename_i hne; exact ⟨by omega, fun h => absurd h hne, fun _ _ => by omega⟩
    rw [e]
    refine ⟨by omega, fun z hz hc => ?_, fun hn hz => h3 (q.2.2 hn (hz x (List.mem_cons_self ..))) (fun z hz' => hz z (List.mem_cons_of_mem _ hz'))⟩
    rcases List.mem_cons.1 hz with e2 | e2
    · subst e2; have := q.2.1 hc; omega
    · exact h2 z e2 hc
theorem spec_AddTo.inner (c : Int) (v : ByteArray) (x27 : List (List S48)) (x28 x29 : Int) (R a g : List S48) (hl : R.length ≤ 1048576) (hb : ∀ z, z ∈ R → 1 ≤ z.f2 ∧ z.f2 ≤ 1000) {r : List S48 × List S48 × Bool} :
    ∀ d i : Nat, i + d = R.length → ∀ n : Int, Ev (fun k => spec_AddTo.l0 k c v (nextN c (R.drop i) n) x27 x28 (wrap64 (x29 + 1)) a g) r → Ev (fun k => spec_AddTo.l1 k c v n x27 x28 x29 R (R.length : Int) (i : Int) a g) r := by
  intro d
  induction d with
  | zero =>
    intro i hi n h
    rw [List.drop_of_length_le (by omega)] at h
    refine Ev.step (fun k => by rw [spec_AddTo.l1]) ?_
    exact Ev.neg (by omega) h
  | succ d ih =>
    intro i hi n h
    have hlt : i < R.length := by omega
    have e : rd_T48 R (i : Int) = R[i] := getD_nat R _ hlt
    have hz := hb _ (List.getElem_mem hlt)
    rw [List.drop_eq_getElem_cons hlt] at h
    have h' : Ev (fun k => spec_AddTo.l0 k c v (nextN c (R.drop (i + 1)) (nxt c n R[i])) x27 x28 (wrap64 (x29 + 1)) a g) r := h
    have h2 := ih (i + 1) (by omega) (nxt c n R[i]) h'
    refine Ev.step (fun k => by rw [spec_AddTo.l1]) (Ev.pos (by omega) (Ev.pos (by omega) (Ev.pos (by omega) ?_)))
    rw [e, w64_succ hlt (by omega), w64 (x := R[i].f2 + 1) (by omega) (by omega)]
    unfold nxt at h2
    refine Ev.cases (fun h3 => ?_) (fun h3 => ?_)
    · rw [if_pos h3] at h2
      refine Ev.cases (fun h4 => ?_) (fun h4 => ?_)
      · rw [if_pos h4] at h2; exact h2
      · rw [if_neg h4] at h2; exact h2
    · rw [if_neg h3] at h2; exact h2
/-- the bag with one more -/
def addR (a g : List S48) (c : Int) (v : ByteArray) : List S48 × List S48 × Bool :=
  if goodB a g = true ∧ inB c 0 5 = true then (if goodB (putA a ⟨v, c, nextN c (a ++ g) 1⟩) g = true then (putA a ⟨v, c, nextN c (a ++ g) 1⟩, g, true) else ([], [], false)) else ([], [], false)
theorem ok_put {a : List S48} {x : S48} (h : okL48 a) (hx : okE48 x) (hl : a.length ≤ 1000) : okL48 (putA a x) := by
  refine ⟨by have := putA_length a x; omega, fun z hz => ?_⟩
  rcases putA_sub a x z hz with e | e
  · rw [e]; exact hx
  · exact h.2 z e
theorem spec_AddTo.ev (a g : List S48) (c : Int) (v : ByteArray) (ha : okL48 a) (hg : okL48 g) (hv : v.size ≤ 1048576) : Ev (fun k => spec_AddTo.f k a g c v) (addR a g c v) := by
  unfold spec_AddTo.f addR
  refine Ev.bind (spec_GoodBag.ev a g ha hg (txt_of ha) (txt_of hg)) ?_
  refine Ev.cases (fun h => ?_) (fun h => ?_)
  · refine Ev.bindS (spec_l1In.ev _ _ _) ?_
    by_cases hc : inB c 0 5 = true
    · rw [if_pos ⟨h, hc⟩]
      rw [hc]
      obtain ⟨b1, b2, _⟩ := goodB_facts a g h
      have hgd := (Bool.and_eq_true_iff.1 ((Bool.and_eq_true_iff.1 (show (a.all (fun x => !(g.any (fun y => sameA x y))) && (goodA a && goodA g)) = true from h)).2))
      have ea := goodA_each a hgd.1
      have eg := goodA_each g hgd.2
      have hbig : nextN c (a ++ g) 1 ≤ 1001 := (nextN_facts c (a ++ g) 1).2.2 (by omega) (fun z hz => by
        rcases List.mem_append.1 hz with e | e
        · exact (ea z e).2.1
        · exact (eg z e).2.1)
      refine Ev.step (fun k => by rw [spec_AddTo.j0]) (Ev.neg (by simp) (Ev.bindS rfl ?_))
      have hfin : Ev (fun k => spec_AddTo.l0 k c v (nextN c g (nextN c a 1)) [a, g] (([a, g] : List (List S48)).length : Int) 2 a g) (if goodB (putA a ⟨v, c, nextN c (a ++ g) 1⟩) g = true then (putA a ⟨v, c, nextN c (a ++ g) 1⟩, g, true) else ([], [], false)) := by
        have en : nextN c g (nextN c a 1) = nextN c (a ++ g) 1 := by unfold nextN; rw [List.foldl_append]
        rw [en]
        have o1 := ok_put (x := ⟨v, c, nextN c (a ++ g) 1⟩) ha hv (by omega)
        refine Ev.step (fun k => by rw [spec_AddTo.l0]) (Ev.neg (by simp) ?_)
        refine Ev.bind (spec_l14Put.ev a ⟨v, c, nextN c (a ++ g) 1⟩ (by omega)) (Ev.bindS rfl (Ev.pos (by simp; omega) (Ev.bindS rfl ?_)))
        rw [List.nil_append]
        refine Ev.bind (spec_GoodBag.ev _ _ o1 hg (txt_of o1) (txt_of hg)) ?_
        exact Ev.cases (fun h => Ev.some (by rw [if_pos h])) (fun h => Ev.some (by rw [if_neg h]))
      refine Ev.step (fun k => by rw [spec_AddTo.l0]) (Ev.pos (by simp) (Ev.pos (by omega) (Ev.pos (by simp) ?_)))
      have r0 : rd_L6 [a, g] 0 = a := rfl
      have r1 : rd_L6 [a, g] 1 = g := rfl
      rw [r0]
      refine spec_AddTo.inner c v [a, g] _ 0 a a g ha.1 (fun z hz => ⟨(ea z hz).2.2, (ea z hz).2.1⟩) a.length 0 (by omega) 1 ?_
      rw [show wrap64 (0 + 1) = 1 by unfold wrap64; omega]
      refine Ev.step (fun k => by rw [spec_AddTo.l0]) (Ev.pos (by simp) (Ev.pos (by omega) (Ev.pos (by simp) ?_)))
      rw [r1]
      refine spec_AddTo.inner c v [a, g] _ 1 g a g hg.1 (fun z hz => ⟨(eg z hz).2.2, (eg z hz).2.1⟩) g.length 0 (by omega) _ ?_
      rw [show wrap64 (1 + 1) = 2 by unfold wrap64; omega]
      exact hfin
    · rw [if_neg (fun h => hc h.2)]
      have hc := Bool.eq_false_iff.2 hc
      rw [hc]
      exact Ev.step (fun k => by rw [spec_AddTo.j0]) (Ev.pos (by simp) (Ev.now _))
  · rw [if_neg (fun h2 => h h2.1)]
    exact Ev.step (fun k => by rw [spec_AddTo.j0]) (Ev.pos rfl (Ev.now _))

theorem impl_Add_60.ev (l : List S48) (hs : sortedP l) (hl : l.length ≤ 1048576) : Ev (fun k => impl_Add_60.f k l) l := by
  unfold impl_Add_60.f
  refine Ev.cases (fun _ => Ev.now _) (fun h => ?_)
  have key : ∀ d i : Nat, i + d = l.length → 1 ≤ i → Ev (fun k => impl_Add_60.l0 k l (i : Int)) l := by
    intro d
    induction d with
    | zero =>
      intro i hi h1
      exact Ev.step (fun k => by rw [impl_Add_60.l0]) (Ev.neg (by omega) (Ev.now _))
    | succ d ih =>
      intro i hi h1
      have h2 := ih (i + 1) (by omega) (by omega)
      have ew : wrap64 ((i : Int) - 1) = ((i - 1 : Nat) : Int) := by rw [w64 (by omega) (by omega)]; omega
      have e1 : rd_T48 l (i : Int) = l[i] := getD_nat l _ (by omega)
      have e2 : rd_T48 l ((i - 1 : Nat) : Int) = l[i - 1] := getD_nat l _ (by omega)
      have hr : Rk l[i - 1] l[i] := (List.pairwise_iff_getElem.1 hs) (i - 1) i (by omega) (by omega) (by omega)
      refine Ev.step (fun k => by rw [impl_Add_60.l0]) ?_
      rw [ew, e1, e2, w64_succ (n := l.length) (by omega) (by omega)]
      refine Ev.pos (by omega) (Ev.pos (by omega) (Ev.pos (by omega) (Ev.pos (by omega) (Ev.neg ?_ h2))))
      intro hc
      simp only [Bool.and_eq_true, beq_iff_eq] at hc
      unfold Rk at hr
      omega
  exact key (l.length - 1) 1 (by omega) (by omega)

theorem sorted_of_keys (l : List S48) (h1 : l.Pairwise (fun x y => ltA y x = false)) (h2 : l.Pairwise (fun x y => ¬ Sk x y)) : sortedP l := by
  refine (h1.and h2).imp ?_
  rintro x y ⟨a, b⟩
  rw [ltA_iff] at a
  have a := of_decide_eq_false a
  unfold Sk at b; unfold Rk
  omega
/-- what is sorted has no two of one key, if no two before had -/
theorem srtA_sortedP (l : List S48) (h : l.Pairwise (fun x y => ¬ Sk x y)) : sortedP (srtA l) := by
  refine sorted_of_keys _ (srtA_sorted l) ?_
  refine ((srtA_perm l).1.pairwise_iff (fun {x y} hxy hyx => hxy ?_)).2 h
  unfold Sk at *; omega
theorem apart_of_sorted (l : List S48) (h : sortedP l) : l.Pairwise (fun x y => ¬ Sk x y) := h.imp (fun {x y} hr => by unfold Rk Sk at *; omega)
theorem srtA_same (l : List S48) (h : sortedP l) : srtA l = l :=
  uniqP _ _ (srtA_sortedP l (apart_of_sorted l h)) h (fun x => (srtA_perm l).1.mem_iff)
theorem impl_goodBag.ev (A X A' X' : List S48) (hA : srtA A = A') (hX : srtA X = X') (sA : sortedP A') (sX : sortedP X') (lA : A.length ≤ 1048576) (lX : X.length ≤ 1048576) (oA : okL48 A') (oX : okL48 X') : Ev (fun k => impl_goodBag.f k A X) (if goodB A' X' = true then (A', X', true) else ([], [], false)) := by
  unfold impl_goodBag.f
  refine Ev.bindS rfl (Ev.pos (by simp; omega) (Ev.bindS rfl (Ev.pos (by simp; omega) ?_)))
  refine Ev.bind (show Ev (fun k => sortA.f k ([] ++ A) 1) (0, A') from by unfold sortA.f; rw [List.nil_append, if_pos lA, hA]; exact Ev.now _) ?_
  refine Ev.bind (show Ev (fun k => sortA.f k ([] ++ X) 1) (0, X') from by unfold sortA.f; rw [List.nil_append, if_pos lX, hX]; exact Ev.now _) ?_
  dsimp only
  refine Ev.bind (impl_Add_60.ev A' sA oA.1) (Ev.bind (impl_Add_60.ev X' sX oX.1) (Ev.bind (impl_isBag.ev A' X' oA oX (txt_of oA) (txt_of oX)) ?_))
  exact Ev.cases (fun h => Ev.some (by rw [if_pos h])) (fun h => Ev.some (by rw [if_neg h]))

theorem mx_nxt (c n : Int) (z : S48) (h : z.f1 = c) : mx n (z.f2 + 1) = nxt c n z := by
  unfold mx nxt
  rw [if_pos h]
  by_cases h1 : n < z.f2 + 1
  · rw [if_pos h1, if_pos (by omega)]
  · rw [if_neg h1, if_neg (by omega)]
theorem impl_AddTo.loop (c : Int) (v : ByteArray) (y a g : List S48) (hl : y.length ≤ 1048576) (hb : ∀ z, z ∈ y → 1 ≤ z.f2 ∧ z.f2 ≤ 1000) {r : List S48 × List S48 × Bool} :
    ∀ d i : Nat, i + d = y.length → ∀ n : Int, Ev (fun k => impl_AddTo.l0 k c y (y.length : Int) (y.length : Int) a g v c (nextN c (y.drop i) n)) r → Ev (fun k => impl_AddTo.l0 k c y (y.length : Int) (i : Int) a g v c n) r := by
  intro d
  induction d with
  | zero =>
    intro i hi n h
    rw [List.drop_of_length_le (by omega)] at h
    have : i = y.length := by omega
    subst this
    exact h
  | succ d ih =>
    intro i hi n h
    have hlt : i < y.length := by omega
    have e : rd_T48 y (i : Int) = y[i] := getD_nat y _ hlt
    have hz := hb _ (List.getElem_mem hlt)
    rw [List.drop_eq_getElem_cons hlt] at h
    have h' : Ev (fun k => impl_AddTo.l0 k c y (y.length : Int) (y.length : Int) a g v c (nextN c (y.drop (i + 1)) (nxt c n y[i]))) r := h
    have h2 := ih (i + 1) (by omega) (nxt c n y[i]) h'
    refine Ev.step (fun k => by rw [impl_AddTo.l0]) (Ev.pos (by omega) (Ev.pos (by omega) (Ev.pos (by omega) ?_)))
    rw [e, w64_succ hlt (by omega), w64 (x := y[i].f2 + 1) (by omega) (by omega)]
    refine Ev.cases (fun h3 => ?_) (fun h3 => ?_)
    · rw [mx_nxt c n y[i] h3]; exact h2
    · have e2 : nxt c n y[i] = n := by unfold nxt; rw [if_neg h3]
      rw [e2] at h2; exact h2
theorem impl_AddTo.ev (a g : List S48) (c : Int) (v : ByteArray) (ha : okL48 a) (hg : okL48 g) (hv : v.size ≤ 1048576) : Ev (fun k => impl_AddTo.f k a g c v) (addR a g c v) := by
  have no : ∀ a1 a2 : List S48, Ev (fun k => impl_AddTo.j0 k c v true a1 a2) ([], [], false) := fun a1 a2 => Ev.step (fun k => by rw [impl_AddTo.j0]) (Ev.pos rfl (Ev.now _))
  unfold impl_AddTo.f addR
  refine Ev.bind (impl_isBag.ev a g ha hg (txt_of ha) (txt_of hg)) ?_
  refine Ev.cases (fun h => ?_) (fun h => by rw [if_neg (fun h2 => h h2.1)]; exact no _ _)
  refine Ev.bindS (impl_in.ev _ _ _) ?_
  refine Ev.cases (fun hc => ?_) (fun hc => by rw [if_neg (fun h2 => hc h2.2)]; exact no _ _)
  rw [if_pos ⟨h, hc⟩]
  refine Ev.bind (impl_isValue.ev v (by omega)) ?_
  obtain ⟨b1, b2, sa, sg, hd⟩ := goodB_facts a g h
  have hgd := (Bool.and_eq_true_iff.1 ((Bool.and_eq_true_iff.1 (show (a.all (fun x => !(g.any (fun y => sameA x y))) && (goodA a && goodA g)) = true from h)).2))
  have ea := goodA_each a hgd.1
  have eg := goodA_each g hgd.2
  have nf := nextN_facts c (a ++ g) 1
  generalize hN : nextN c (a ++ g) 1 = N at nf ⊢
  by_cases hval : okVal v = true
  · rw [hval]
    refine Ev.step (fun k => by rw [impl_AddTo.j0]) ?_
    refine Ev.neg (by simp) ?_
    refine Ev.bindS rfl ?_
    refine Ev.pos (by simp; omega) ?_
    refine Ev.bindS rfl ?_
    refine Ev.pos (by simp; omega) ?_
    refine Ev.bindS rfl ?_
    rw [List.nil_append]
    refine impl_AddTo.loop c v (a ++ g) a g (by rw [List.length_append]; omega) (fun z hz => by
        rcases List.mem_append.1 hz with e | e
        · exact ⟨(ea z e).2.2, (ea z e).2.1⟩
        · exact ⟨(eg z e).2.2, (eg z e).2.1⟩) (a ++ g).length 0 (by omega) 1 ?_
    rw [List.drop_zero, hN]
    have o1 := ok_put (x := ⟨v, c, N⟩) ha hv (by omega)
    have hne : ∀ y, y ∈ a → ¬ Sk y ⟨v, c, N⟩ := fun y hy hs => by
      have hs : y.f1 = c ∧ y.f2 = N := hs
      have := nf.2.1 y (List.mem_append_left _ hy) hs.1
      omega
    have hX : srtA (a ++ [⟨v, c, N⟩]) = putA a ⟨v, c, N⟩ := by
      refine uniqP _ _ (srtA_sortedP _ (List.pairwise_append.2 ⟨apart_of_sorted _ sa, List.pairwise_singleton _ _, fun x hx y hy => by rw [List.mem_singleton.1 hy]; exact hne x hx⟩)) (putA_sorted a _ sa) (fun z => ?_)
      rw [(srtA_perm _).1.mem_iff, putA_mem a _ hne, List.mem_append, List.mem_singleton]
      exact Or.comm
    refine Ev.step (fun k => by rw [impl_AddTo.l0]) ?_
    refine Ev.neg (by omega) ?_
    refine Ev.bindS rfl ?_
    refine Ev.pos (by simp; omega) ?_
    refine Ev.bindS rfl ?_
    refine Ev.bindS rfl ?_
    refine Ev.pos (by simp; omega) ?_
    rw [List.nil_append]
    refine Ev.bind (impl_goodBag.ev (a ++ [⟨v, c, N⟩]) g _ _ hX (srtA_same g sg) (putA_sorted a _ sa) sg (by simp; omega) hg.1 o1 hg) ?_
    exact Ev.some rfl
  · have hb : goodB (putA a ⟨v, c, N⟩) g ≠ true := fun hgood => by
      have hgd2 := (Bool.and_eq_true_iff.1 ((Bool.and_eq_true_iff.1 (show ((putA a ⟨v, c, N⟩).all (fun x => !(g.any (fun y => sameA x y))) && (goodA (putA a ⟨v, c, N⟩) && goodA g)) = true from hgood)).2)).1
      have hne : ∀ y, y ∈ a → ¬ Sk y ⟨v, c, N⟩ := fun y hy hs => by
        have hs : y.f1 = c ∧ y.f2 = N := hs
        have := nf.2.1 y (List.mem_append_left _ hy) hs.1
        omega
      exact hval (goodA_each _ hgd2 ⟨v, c, N⟩ ((putA_mem a _ hne _).2 (.inl rfl))).1
    rw [if_neg hb, Bool.eq_false_iff.2 hval]
    exact no _ _

theorem holds_ev (a g : List S72) (c : Int) (v : ByteArray) (h1 : bigL72 a) (h2 : bigL72 g) : Ev (fun k => laws_FnExactAddTo.f k a g c v) true := by
  obtain ⟨r, hr, _, hsz⟩ := laws_szBag.ev a g 1048576 (by omega) (by omega) h1 h2
  unfold laws_FnExactAddTo.f
  refine Ev.cases (fun _ => Ev.now _) (fun hv => ?_)
  refine Ev.bind hr (Ev.cases (fun _ => Ev.now _) (fun hn => ?_))
  obtain ⟨o1, o2⟩ := hsz (by omega)
  have o3 := okL72_map o1
  have o4 := okL72_map o2
  have tt := laws_toBag.ev a g o1 o2
  have hs := spec_AddTo.ev _ _ c v o3 o4 (by omega)
  have hi := impl_AddTo.ev _ _ c v o3 o4 (by omega)
  obtain ⟨A, G, B, oA, oG, hR⟩ : ∃ A G B, okL48 A ∧ okL48 G ∧ addR (a.map c72) (g.map c72) c v = (A, G, B) := by
    have z : okL48 [] := ⟨by simp, fun z hz => by simp at hz⟩
    unfold addR
    split
    · rename_i h
      obtain ⟨b1, b2, _⟩ := goodB_facts _ _ h.1
      split
      · exact ⟨_, _, _, ok_put (x := ⟨v, c, nextN c (a.map c72 ++ g.map c72) 1⟩) o3 (show v.size ≤ 1048576 by omega) (by omega), o4, rfl⟩
      · exact ⟨_, _, _, z, z, rfl⟩
    · exact ⟨_, _, _, z, z, rfl⟩
  rw [hR] at hs hi
  have he := laws_eqBag.refl A G oA oG
  obtain ⟨n, A', G', hm, hh, hn0⟩ := laws_markBag.two A G oA.1 oG.1
  obtain ⟨n2, A2, G2, hm2, _, hn2⟩ := laws_markBag.two (a.map c72) (g.map c72) o3.1 o4.1
  refine Ev.bind tt (Ev.bind hs (Ev.bind tt (Ev.bind hi (Ev.bind he (Ev.pos rfl ?_)))))
  dsimp only
  refine Ev.step (fun k => by rw [laws_FnExactAddTo.j0]) (Ev.neg (by simp) (Ev.bind tt (Ev.bind (laws_eqBag.refl _ _ o3 o4) (Ev.pos rfl (Ev.bind hm2 ?_)))))
  refine Ev.neg hn2 (Ev.bind he (Ev.pos rfl ?_))
  refine Ev.step (fun k => by rw [laws_FnExactAddTo.j1]) (Ev.neg (by simp) (Ev.bind hm (Ev.bind hh ?_)))
  refine Ev.neg hn0 (Ev.pos rfl (Ev.bind tt (Ev.bind hi (Ev.bind he (Ev.pos rfl ?_)))))
  dsimp only
  refine Ev.step (fun k => by rw [laws_FnExactAddTo.j2]) (Ev.neg (by simp) (Ev.bind hh ?_))
  exact Ev.neg hn0 (Ev.pos rfl (Ev.now _))

end Go.Proofs.Ytdnapgnnliibfaa.PAT
namespace Go.Proofs.Ytdnapgnnliibfaa.PureFnExactAddTo
open Go.RowKit Go.Proofs.Ytdnapgnnliibfaa.PAT Go.Proofs.Ytdnapgnnliibfaa.Base Go.Proofs.Ytdnapgnnliibfaa.Open Go.Proofs.YtdnapgnnliibfaaW.PrintWords Go.Proofs.YtdnapgnnliibfaaW.PrintLast
theorem holds (l0_0 : List S72) (l0_1 : List S72) (a1 : Int) (a2 : ByteArray) (w0 : ((l0_0.length ≤ 9223372036854775807 ∧ ∀ z ∈ l0_0, W72 z) ∧ (l0_1.length ≤ 9223372036854775807 ∧ ∀ z ∈ l0_1, W72 z))) (w1 : (Lit.int .i64 a1).wf = true) (w2 : a2.size ≤ 9223372036854775807) : ∃ k, Go.Proofs.Ytdnapgnnliibfaa.PAT.laws_FnExactAddTo.f k l0_0 l0_1 a1 a2 = some true := by
  have _h := w1
  have _h2 := w2
  exact (holds_ev _ _ _ _ ⟨w0.1.1, fun z hz => (w0.1.2 z hz).1⟩ ⟨w0.2.1, fun z hz => (w0.2.2 z hz).1⟩).rounds
end Go.Proofs.Ytdnapgnnliibfaa.PureFnExactAddTo
