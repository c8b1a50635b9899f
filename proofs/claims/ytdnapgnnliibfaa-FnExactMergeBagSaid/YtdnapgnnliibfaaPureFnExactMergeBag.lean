/- What this text proves: laws.FnExactMergeBag, told as plain functions of numbers and lists, answers true for all arguments.
   Conditions: the bounds that the typed reading gives. -/
import Derived.Test.YtdnapgnnliibfaaPMBx47
import Derived.Test.YtdnapgnnliibfaaOpen
import Derived.Test.YtdnapgnnliibfaaBase
namespace Go.Proofs.Ytdnapgnnliibfaa.PMB
open Go.RowKit Go.Proofs.Ytdnapgnnliibfaa.Base Go.Proofs.Ytdnapgnnliibfaa.Open Go.Proofs.YtdnapgnnliibfaaW.PrintWords Go.Proofs.YtdnapgnnliibfaaW.PrintLast Go.Proofs.YtdnapgnnliibfaaW.PrintMore
set_option linter.unusedVariables false
set_option linter.unusedSimpArgs false
theorem op9 : Opens Try.prog 9 Kd.string (fun x => x.size ≤ 9223372036854775807) := Opens.string Try.underlying9 (by kernel_rfl)
theorem op3 : Opens Try.prog 3 (Kd.int .i64) (fun x => (Lit.int .i64 x).wf = true) := Opens.int Try.underlying3 (by kernel_rfl)
def W72 (x : S72) : Prop := x.f0.size ≤ 9223372036854775807 ∧ (Lit.int .i64 x.f1).wf = true ∧ (Lit.int .i64 x.f2).wf = true
theorem o72 : Opens Try.prog 72 k72 W72 := by
  have h := Opens.struct Try.underlying72 (by kernel_rfl) (Fits.cons (P := Try.prog) rfl op9 (Fits.cons (P := Try.prog) rfl op3 (Fits.one (P := Try.prog) rfl op3)))
  exact Opens.iso (fun x : S72 => (x.f0, x.f1, x.f2)) (fun p => ⟨p.1, p.2.1, p.2.2⟩) (fun _ => rfl) h
theorem op22 : Opens Try.prog 22 (Kd.slice 72 k72) (fun x => (x.length ≤ 9223372036854775807 ∧ ∀ z ∈ x, W72 z)) := Opens.slice Try.underlying22 (by kernel_rfl) o72
/-- The place of the first element at which p says yes, counted from i; -1 for none. -/
def idxN {α : Type} (p : α → Bool) : List α → Nat → Int
  | [], _ => -1
  | x :: r, i => if p x = true then (i : Int) else idxN p r (i + 1)
theorem idxO_val {α : Type} {F : α → Option Bool} {p : α → Bool} : ∀ (l : List α) (i : Nat), (∀ x ∈ l, F x = some (p x)) → idxO F l i = some (idxN p l i)
  | [], _, _ => rfl
  | x :: r, i, h => by
    simp only [idxO, idxN, h x (List.mem_cons_self ..), Option.bind_some]
    rw [idxO_val r (i + 1) (fun y hy => h y (List.mem_cons_of_mem _ hy))]
    split <;> rfl
theorem idxN_cons {α : Type} (p : α → Bool) (x : α) (r : List α) (i : Nat) : idxN p (x :: r) i = if p x = true then (i : Int) else idxN p r (i + 1) := rfl
theorem idxN_anyP {α : Type} (p : α → Bool) : ∀ (l : List α) (i : Nat), (idxN p l i ≥ 0) ↔ l.any p = true
  | [], _ => by simp [idxN]
  | x :: r, i => by
    rw [idxN_cons]
    by_cases h : p x = true
    · rw [if_pos h, List.any_cons, h]; simp
    · rw [if_neg h, List.any_cons, Bool.eq_false_iff.2 h, Bool.false_or]; exact idxN_anyP p r (i + 1)
theorem idxN_any {α : Type} (p : α → Bool) (l : List α) (i : Nat) : decide (idxN p l i ≥ 0) = l.any p := by
  rw [Bool.eq_iff_iff, decide_eq_true_iff]; exact idxN_anyP p l i
theorem idxN_ge {α : Type} (p : α → Bool) : ∀ (l : List α) (i : Nat), idxN p l i = -1 ∨ (i : Int) ≤ idxN p l i
  | [], _ => .inl rfl
  | x :: r, i => by
    simp only [idxN]
    split
    · exact .inr (Int.le_refl _)
    · rcases idxN_ge p r (i + 1) with h | h
      · exact .inl h
      · exact .inr (by omega)
theorem idxO_Ev {α : Type} {F : Nat → α → Option Bool} {p : α → Bool} : ∀ (l : List α) (i : Nat), (∀ x ∈ l, Ev (fun k => F k x) (p x)) → Ev (fun k => idxO (F k) l i) (idxN p l i)
  | [], _, _ => Ev.now _
  | x :: r, i, h => by
    show Ev (fun k => (F k x).bind fun b => if b = true then some (i : Int) else idxO (F k) r (i + 1)) _
    refine Ev.bind (h x (List.mem_cons_self ..)) ?_
    simp only [idxN]
    refine Ev.cases (fun hp => Ev.some (by rw [if_pos hp])) (fun hp => ?_)
    rw [if_neg hp]
    exact idxO_Ev r (i + 1) (fun y hy => h y (List.mem_cons_of_mem _ hy))
theorem idxAny_Ev {α : Type} {F : Nat → α → Option Bool} {p : α → Bool} {l : List α} (h : ∀ x ∈ l, Ev (fun k => F k x) (p x)) : Ev (fun k => (idxO (F k) l 0).bind fun i => some (decide (i ≥ 0))) (l.any p) := by
  refine Ev.bind (idxO_Ev l 0 h) (Ev.some ?_)
  exact idxN_any p l 0

def okLS (s : ByteArray) : Prop := s.size ≤ 1048576
def okE48 (z : S48) : Prop := okLS z.f0
def okL48 (l : List S48) : Prop := l.length ≤ 1048576 ∧ ∀ z ∈ l, okE48 z
def bigLS (s : ByteArray) : Prop := s.size ≤ 9223372036854775807
theorem laws_szAdd.ev (x0 : ByteArray) (x1 : Int) (x2 : Int) (a : Int) (g0 : 0 ≤ a) (g1 : a ≤ 1048576) (h0 : bigLS x0) : ∃ r, laws_szAdd.f x0 x1 x2 a = some r ∧ r ≤ a ∧ (0 ≤ r → okLS x0) := by
  have hs0 : x0.size ≤ 9223372036854775807 := h0
  by_cases c0 : a - (x0.size : Int) < 0
  · exact ⟨-1, by unfold laws_szAdd.f; rw [w64 (x := a - (x0.size : Int)) (by omega) (by omega)]; rw [if_pos c0], by omega, fun h => by omega⟩
  exact ⟨(a - (x0.size : Int)), by unfold laws_szAdd.f; rw [w64 (x := a - (x0.size : Int)) (by omega) (by omega)]; rw [if_neg c0], by omega, fun h => (by unfold okLS; omega)⟩

def okE72 (z : S72) : Prop := okLS z.f0
def okL72 (l : List S72) : Prop := l.length ≤ 1048576 ∧ ∀ z ∈ l, okE72 z
def bigE72 (z : S72) : Prop := bigLS z.f0
def bigL72 (l : List S72) : Prop := l.length ≤ 9223372036854775807 ∧ ∀ z ∈ l, bigE72 z
theorem laws_szAddS.ev (l : List S72) (a : Int) (h0 : 0 ≤ a) (h1 : a ≤ 1048576) (hb : bigL72 l) : ∃ r, Ev (fun k => laws_szAddS.f k l a) r ∧ r ≤ a ∧ (0 ≤ r → okL72 l) := by
  obtain ⟨hl, hx⟩ := hb
  unfold laws_szAddS.f
  rw [w64 (by omega) (by omega)]
  by_cases h : a - l.length < 0
  · exact ⟨-1, Ev.pos h (Ev.now _), by omega, fun h => by omega⟩
  · have key : ∀ d i : Nat, i + d = l.length → ∀ b : Int, 0 ≤ b → b ≤ 1048576 → ∃ r, Ev (fun k => laws_szAddS.l0 k l b i) r ∧ r ≤ b ∧ (0 ≤ r → ∀ x ∈ l.drop i, okE72 x) := by
      intro d
      induction d with
      | zero =>
        intro i hi b hb0 hb1
        have : i = l.length := by omega
        subst this
        exact ⟨b, Ev.step (fun k => by rw [laws_szAddS.l0]) (Ev.neg (by omega) (Ev.now _)), by omega, fun _ x hx => by simp at hx⟩
      | succ d ih =>
        intro i hi b hb0 hb1
        have hlt : i < l.length := by omega
        have hz := hx _ (List.getElem_mem hlt)
        obtain ⟨r, hr, h2, h3⟩ := laws_szAdd.ev (l[i].f0) (l[i].f1) (l[i].f2) b hb0 hb1 (hz)
        have e : rd_T72 l (i : Int) = l[i] := getD_nat l _ hlt
        by_cases hr0 : r < 0
        · refine ⟨-1, Ev.step (fun k => by rw [laws_szAddS.l0]) (Ev.pos (by omega) (Ev.pos (by omega) ?_)), by omega, fun h => by omega⟩
          rw [e]
          exact Ev.bindS hr (Ev.pos hr0 (Ev.now _))
        · obtain ⟨q, hq, h5, h4⟩ := ih (i + 1) (by omega) r (by omega) (by omega)
          refine ⟨q, Ev.step (fun k => by rw [laws_szAddS.l0]) (Ev.pos (by omega) (Ev.pos (by omega) ?_)), by omega, fun h x hx => ?_⟩
          · rw [e, w64_succ hlt hl]
            exact Ev.bindS hr (Ev.neg hr0 hq)
          · rw [List.drop_eq_getElem_cons hlt] at hx
            rcases List.mem_cons.1 hx with rfl | hx
            · exact h3 (by omega)
            · exact h4 h x hx
    obtain ⟨r, hr, h5, h2⟩ := key l.length 0 (by omega) (a - l.length) (by omega) (by omega)
    exact ⟨r, Ev.neg h hr, by omega, fun h => ⟨by omega, fun x hx => h2 h x (by simpa using hx)⟩⟩

theorem laws_szBag.ev (x0 : List (S72)) (x1 : List (S72)) (a : Int) (g0 : 0 ≤ a) (g1 : a ≤ 1048576) (h0 : bigL72 x0) (h1 : bigL72 x1) : ∃ r, Ev (fun k => laws_szBag.f k x0 x1 a) r ∧ r ≤ a ∧ (0 ≤ r → okL72 x0 ∧ okL72 x1) := by
  obtain ⟨r0, e0, b0, o0⟩ := laws_szAddS.ev x0 a g0 g1 h0
  by_cases c0 : r0 < 0
  · exact ⟨-1, by unfold laws_szBag.f; refine Ev.bind e0 ?_; refine Ev.pos c0 ?_; exact Ev.now _, by omega, fun h => by omega⟩
  obtain ⟨r1, e1, b1, o1⟩ := laws_szAddS.ev x1 r0 (by omega) (by omega) h1
  by_cases c1 : r1 < 0
  · exact ⟨-1, by unfold laws_szBag.f; refine Ev.bind e0 ?_; refine Ev.neg c0 ?_; refine Ev.bind e1 ?_; refine Ev.pos c1 ?_; exact Ev.now _, by omega, fun h => by omega⟩
  exact ⟨r1, by unfold laws_szBag.f; refine Ev.bind e0 ?_; refine Ev.neg c0 ?_; refine Ev.bind e1 ?_; refine Ev.neg c1 ?_; exact Ev.now _, by omega, fun h => ⟨o0 (by omega), o1 (by omega)⟩⟩

theorem laws_toAdd.ev (x0 : ByteArray) (x1 : Int) (x2 : Int) : laws_toAdd.f x0 x1 x2 = some (x0, x1, x2) := rfl

def c72 (x : S72) : S48 := ⟨x.f0, x.f1, x.f2⟩
theorem okE72_map {x : S72} (h : okE72 x) : okE48 (c72 x) := h
theorem okL72_map {l : List S72} (h : okL72 l) : okL48 (l.map c72) := ⟨by simpa using h.1, fun x hx => by obtain ⟨y, hy, rfl⟩ := List.mem_map.1 hx; exact okE72_map (h.2 y hy)⟩
theorem laws_toAddS.ev (l : List S72) (hb : okL72 l) : Ev (fun k => laws_toAddS.f k l) (l.map c72) := by
  obtain ⟨hl, hx⟩ := hb
  unfold laws_toAddS.f
  refine Ev.pos (by omega) (Ev.pos (by omega) ?_)
  refine Ev.eq (Ev.up (g := fun k i => laws_toAddS.l0 k l ((l.take i.toNat).map c72 ++ List.replicate (l.length - i.toNat) z48) i) l.length (fun _ => l.map c72) ?_) rfl
  intro i hi ih
  refine Ev.step (fun k => by rw [laws_toAddS.l0]) ?_
  by_cases hlt : i < l.length
  · have h2 := ih hlt
    have h3 := hx _ (List.getElem_mem hlt)
    simp only [Int.toNat_natCast] at h2 ⊢
    have e : rd_T72 l (i : Int) = l[i] := getD_nat l _ hlt
    rw [e, w64_succ hlt (by omega)]
    refine Ev.pos (by omega) (Ev.pos (by omega) (Ev.bindS (laws_toAdd.ev (l[i].f0) (l[i].f1) (l[i].f2)) (Ev.pos (by rw [fill_len _ _ _ _ hi]; omega) ?_)))
    refine Ev.congr (fun k => ?_) h2
    rw [← set_fillM c72 l z48 hlt]; rfl
  · have : i = l.length := by omega
    subst this
    refine Ev.neg (by omega) (Ev.some ?_)
    simp only [Int.toNat_natCast]
    exact fill_end _ _ _

theorem laws_toBag.ev (x0 : List (S72)) (x1 : List (S72)) (h0 : okL72 x0) (h1 : okL72 x1) : Ev (fun k => laws_toBag.f k x0 x1) (x0.map c72, x1.map c72) := by
  unfold laws_toBag.f
  exact Ev.bind (laws_toAddS.ev _ h0) (Ev.bind (laws_toAddS.ev _ h1) (Ev.now _))

theorem laws_eqAdd.refl (x0 : ByteArray) (x1 : Int) (x2 : Int) : laws_eqAdd.f x0 x1 x2 x0 x1 x2 = some true := by
  unfold laws_eqAdd.f; simp

theorem laws_eqAddS.refl (x : List S48) (hx : okL48 x) : Ev (fun k => laws_eqAddS.f k x x) true := by
  unfold laws_eqAddS.f
  refine Ev.pos rfl (Ev.eq (Ev.up (g := fun k i => laws_eqAddS.l0 k x x i) x.length (fun _ => true) ?_) rfl)
  intro i hi ih
  refine Ev.step (fun k => by rw [laws_eqAddS.l0]) ?_
  by_cases hlt : i < x.length
  · have e : rd_T48 x (i : Int) = x[i] := getD_nat x _ hlt
    have h3 := hx.2 _ (List.getElem_mem hlt)
    have h1 := hx.1
    rw [e, w64_succ hlt (by omega)]
    exact Ev.pos (by omega) (Ev.pos (by omega) (Ev.pos (by omega) (Ev.bindS (laws_eqAdd.refl (x[i].f0) (x[i].f1) (x[i].f2)) (Ev.pos rfl (ih hlt)))))
  · exact Ev.neg (by omega) (Ev.now _)

theorem laws_eqBag.refl (x0 : List (S48)) (x1 : List (S48)) (h0 : okL48 x0) (h1 : okL48 x1) : Ev (fun k => laws_eqBag.f k x0 x1 x0 x1) true := by
  unfold laws_eqBag.f
  exact (Ev.bind (laws_eqAddS.refl _ h0) (Ev.pos rfl (Ev.bind (laws_eqAddS.refl _ h1) (Ev.pos rfl (Ev.now _)))))

theorem laws_markText.go : ∀ (n : Nat) (x : Int) (s : ByteArray), 0 ≤ x → x ≤ n → (s.size : Int) + x ≤ 9223372036854775806 → ∃ t, Ev (fun k => laws_markText.l0 k x s) t := by
  intro n
  induction n with
  | zero =>
    intro x s h0 h1 h2
    exact ⟨_, Ev.step (fun k => by rw [laws_markText.l0]) (Ev.neg (by omega) (Ev.pos (by omega) (Ev.now _)))⟩
  | succ n ih =>
    intro x s h0 h1 h2
    by_cases hx : x > 0
    · have hd : Int.tdiv x 10 = x / 10 := Int.tdiv_eq_ediv_of_nonneg h0
      have hw : wrap64 (Int.tdiv x 10) = x / 10 := by rw [hd]; unfold wrap64; omega
      have hs : ∀ y : Int, (strOfNums [y]).size = 1 := fun y => by simp [strOfNums]; rfl
      obtain ⟨t, ht⟩ := ih (x / 10) ((strOfNums [(wrap64 (48 + (Int.tmod x 10))) % 256]) ++ s) (by omega) (by omega) (by rw [ByteArray.size_append, hs]; omega)
      refine ⟨t, Ev.step (fun k => by rw [laws_markText.l0]) (Ev.pos hx ?_)⟩
      simp only [Option.bind_some]
      refine Ev.pos (by rw [hs]; omega) ?_
      rw [hw]
      exact ht
    · exact ⟨_, Ev.step (fun k => by rw [laws_markText.l0]) (Ev.neg hx (Ev.pos (by omega) (Ev.now _)))⟩
theorem laws_markText.all (x : Int) (h0 : 0 ≤ x) (h1 : x ≤ 9223372036854775806) : ∃ t, Ev (fun k => laws_markText.f k x) t := by
  by_cases hx : x ≤ 0
  · exact ⟨_, by unfold laws_markText.f; exact Ev.pos hx (Ev.now _)⟩
  · obtain ⟨t, ht⟩ := laws_markText.go x.toNat x ⟨#[]⟩ h0 (by omega) (by show ((0 : Nat) : Int) + x ≤ _; omega)
    exact ⟨t, by unfold laws_markText.f; exact Ev.neg hx ht⟩

def bigE48 (z : S48) : Prop := bigLS z.f0
/-- The texts of adds are no longer than a text may be. -/
def txt48 (l : List S48) : Prop := ∀ z ∈ l, z.f0.size ≤ 9223372036854775807
theorem txt_of {l : List S48} (h : okL48 l) : txt48 l := fun z hz => Nat.le_trans (h.2 z hz) (by decide)
def sameA (a b : S48) : Bool := decide (a.f1 = b.f1) && decide (a.f2 = b.f2)
def lessA (a b : S48) : Bool := decide (a.f1 < b.f1) || (decide (a.f1 = b.f1) && decide (a.f2 < b.f2))
theorem spec_l14Same.ev (a b : S48) : spec_l14Same.f a.f0 a.f1 a.f2 b.f0 b.f1 b.f2 = some (sameA a b) := by
  unfold spec_l14Same.f sameA
  by_cases h : a.f1 = b.f1
  · rw [if_pos h, decide_eq_true h, Bool.true_and]; rfl
  · rw [if_neg h, decide_eq_false h, Bool.false_and]

theorem spec_l1In.ev (n a b : Int) : spec_l1In.f n a b = some (inB n a b) := by
  unfold spec_l1In.f inB
  by_cases h : a ≤ n
  · rw [if_pos h]; simp [h]
  · rw [if_neg h]; simp [h]

/-- Byte i of a text may stand in a value. -/
def okByte (s : ByteArray) (i : Nat) : Bool := decide (32 ≤ bt s i) && decide (bt s i ≤ 126) && !decide (bt s i = 59)
/-- A value. -/
def okVal (s : ByteArray) : Bool := allFrom (okByte s) s.size 0 && decide (s.size ≤ 20)
theorem spec_l1Value.ev (s : ByteArray) (hs : s.size ≤ 9223372036854775807) : Ev (fun k => spec_l1Value.f k s) (okVal s) := by
  unfold spec_l1Value.f okVal
  refine Ev.eq (Ev.up (g := fun k i => spec_l1Value.l0 k s i) s.size (fun i => allFrom (okByte s) s.size i && decide (s.size ≤ 20)) ?_) rfl
  intro i hi ih
  refine Ev.step (fun k => by rw [spec_l1Value.l0]) ?_
  by_cases hlt : i < s.size
  · refine Ev.pos (by omega) (Ev.pos (by omega) ?_)
    rw [allFrom_step hlt, w64_succ hlt hs]
    have ih := ih hlt
    generalize allFrom (okByte s) s.size (i + 1) = q at ih ⊢
    unfold okByte
    refine Ev.cases (fun h => Ev.some (by rw [decide_eq_false (by omega : ¬ 32 ≤ bt s i)]; rfl)) (fun h1 => ?_)
    refine Ev.cases (fun h => Ev.some (by rw [decide_eq_false (by omega : ¬ bt s i ≤ 126)]; simp)) (fun h2 => ?_)
    refine Ev.cases (fun h => Ev.some (by rw [decide_eq_true h]; simp)) (fun h3 => Ev.eq ih ?_)
    rw [decide_eq_true (by omega : 32 ≤ bt s i), decide_eq_true (by omega : bt s i ≤ 126), decide_eq_false h3]; simp
  · have : i = s.size := by omega
    subst this
    refine Ev.neg (by omega) (Ev.some ?_)
    rw [allFrom_end, Bool.true_and]
    exact decide_eq_decide.2 (by omega)

theorem spec_l14Less.ev (a b : S48) : spec_l14Less.f a.f0 a.f1 a.f2 b.f0 b.f1 b.f2 = some (lessA a b) := by
  unfold spec_l14Less.f lessA
  by_cases h : a.f1 < b.f1
  · rw [if_pos h, decide_eq_true h, Bool.true_or]
  · rw [if_neg h, decide_eq_false h, Bool.false_or]
    by_cases h2 : a.f1 = b.f1
    · rw [if_pos h2, decide_eq_true h2, Bool.true_and]
    · rw [if_neg h2, decide_eq_false h2, Bool.false_and]

def okAdd (z : S48) : Bool := okVal z.f0 && (inB z.f1 0 5 && inB z.f2 1 1000)
def okAt (l : List S48) (i : Nat) : Bool := okAdd (rd_T48 l (i : Int)) && (decide (i = 0) || lessA (rd_T48 l ((i : Int) - 1)) (rd_T48 l (i : Int)))
def goodA (l : List S48) : Bool := allFrom (okAt l) l.length 0 && decide (l.length ≤ 40)
theorem spec_l14Adds.ev (l : List S48) (hl : okL48 l) (ht : txt48 l) : Ev (fun k => spec_l14Adds.f k l) (goodA l) := by
  have h1 := hl.1
  unfold spec_l14Adds.f goodA
  refine Ev.eq (Ev.up (g := fun k i => spec_l14Adds.l0 k l l (l.length : Int) i) l.length (fun i => allFrom (okAt l) l.length i && decide (l.length ≤ 40)) ?_) rfl
  intro i hi ih
  refine Ev.step (fun k => by rw [spec_l14Adds.l0]) ?_
  by_cases hlt : i < l.length
  · have ih := ih hlt
    have e : rd_T48 l (i : Int) = l[i] := getD_nat l _ hlt
    have hz : (rd_T48 l (i : Int)).f0.size ≤ 9223372036854775807 := by rw [e]; exact ht _ (List.getElem_mem hlt)
    rw [allFrom_step hlt, w64_succ hlt (by omega)]
    generalize allFrom (okAt l) l.length (i + 1) = q at ih ⊢
    unfold okAt okAdd
    refine Ev.pos (by omega) (Ev.pos (by omega) (Ev.pos (by omega) ?_))
    refine Ev.bind (spec_l1Value.ev _ hz) (Ev.cases (fun g1 => ?_) (fun g1 => Ev.some (by rw [Bool.eq_false_iff.2 g1]; simp)))
    refine Ev.bindS (spec_l1In.ev _ _ _) (Ev.cases (fun g2 => ?_) (fun g2 => Ev.some (by rw [Bool.eq_false_iff.2 g2]; simp)))
    refine Ev.bindS (spec_l1In.ev _ _ _) (Ev.cases (fun g3 => ?_) (fun g3 => Ev.some (by rw [Bool.eq_false_iff.2 g3]; simp)))
    rw [g1, g2, g3]
    refine Ev.cases (fun g4 => ?_) (fun g4 => Ev.eq ih (by rw [decide_eq_true (by omega : i = 0)]; simp))
    rw [w64 (by omega) (by omega), decide_eq_false (by omega : ¬ i = 0)]
    refine Ev.pos (by omega) (Ev.pos (by omega) (Ev.bindS (spec_l14Less.ev _ _) (Ev.cases (fun g5 => Ev.eq ih (by rw [g5]; simp)) (fun g5 => Ev.some (by rw [Bool.eq_false_iff.2 g5]; simp)))))
  · have : i = l.length := by omega
    subst this
    refine Ev.neg (by omega) (Ev.some ?_)
    rw [allFrom_end, Bool.true_and]
    exact decide_eq_decide.2 (by omega)

def goodB (a g : List S48) : Bool := a.all (fun x => !(g.any (fun y => sameA x y))) && (goodA a && goodA g)
theorem spec_GoodBag.ev (a g : List S48) (ha : okL48 a) (hg : okL48 g) (ta : txt48 a) (tg : txt48 g) : Ev (fun k => spec_GoodBag.f k a g) (goodB a g) := by
  have h1 := ha.1
  have h2 := hg.1
  unfold spec_GoodBag.f goodB
  refine Ev.eq (Ev.up (g := fun k i => spec_GoodBag.l0 k a (a.length : Int) i a g) a.length (fun i => (a.drop i).all (fun x => !(g.any (fun y => sameA x y))) && (goodA a && goodA g)) ?_) rfl
  intro i hi ih
  refine Ev.step (fun k => by rw [spec_GoodBag.l0]) ?_
  by_cases hlt : i < a.length
  · have ih := ih hlt
    have e : rd_T48 a (i : Int) = a[i] := getD_nat a _ hlt
    rw [all_take_succ a _ hlt, e]
    generalize a[i] = z
    generalize (a.drop (i + 1)).all (fun x => !(g.any (fun y => sameA x y))) = q at ih ⊢
    refine Ev.pos (by omega) (Ev.pos (by omega) (Ev.pos (by omega) ?_))
    refine Ev.eq (Ev.up (g := fun k j => spec_GoodBag.l1 k a (a.length : Int) (i : Int) g (g.length : Int) j a g z.f0 z.f1 z.f2) g.length (fun j => !((g.drop j).any (fun y => sameA z y)) && q && (goodA a && goodA g)) ?_) (by simp)
    intro j hj jh
    refine Ev.step (fun k => by rw [spec_GoodBag.l1]) ?_
    by_cases hjl : j < g.length
    · have jh := jh hjl
      have e2 : rd_T48 g (j : Int) = g[j] := getD_nat g _ hjl
      rw [List.drop_eq_getElem_cons hjl, List.any_cons, e2, w64_succ hjl (by omega)]
      refine Ev.pos (by omega) (Ev.pos (by omega) (Ev.pos (by omega) (Ev.bindS (spec_l14Same.ev _ _) (Ev.cases (fun h => Ev.some (by rw [h]; simp)) (fun h => Ev.eq jh (by rw [Bool.eq_false_iff.2 h]; simp))))))
    · refine Ev.neg (by omega) ?_
      rw [w64_succ hlt (by omega), List.drop_of_length_le (by omega)]
      exact Ev.eq ih (by simp)
  · refine Ev.neg (by omega) ?_
    rw [List.drop_of_length_le (by omega)]
    refine Ev.bind (spec_l14Adds.ev a ha ta) (Ev.cases (fun h => ?_) (fun h => Ev.some (by rw [Bool.eq_false_iff.2 h]; simp)))
    rw [h]
    exact Ev.bind (spec_l14Adds.ev g hg tg) (Ev.some (by simp))

/-- The first number that is not 0. -/
def orI : List Int → Int
  | [] => 0
  | x :: r => if x = 0 then orI r else x
theorem cmp_Or_int.ev (l : List Int) (hl : l.length ≤ 9223372036854775807) : Ev (fun k => cmp_Or_int.f k l) (orI l) := by
  unfold cmp_Or_int.f
  refine Ev.eq (Ev.up (g := fun k i => cmp_Or_int.l0 k 0 l (l.length : Int) i) l.length (fun i => orI (l.drop i)) ?_) rfl
  intro i hi ih
  refine Ev.step (fun k => by rw [cmp_Or_int.l0]) ?_
  by_cases hlt : i < l.length
  · have e : orI (l.drop i) = if l[i] = 0 then orI (l.drop (i + 1)) else l[i] := by
      rw [List.drop_eq_getElem_cons hlt]; rfl
    refine Ev.pos (by omega) (Ev.pos (by omega) (Ev.pos (by omega) ?_))
    rw [rd_get hlt, w64_succ hlt hl, e]
    exact Ev.cases (fun h => Ev.eq (ih hlt) (by rw [if_pos h])) (fun h => Ev.some (by rw [if_neg h]))
  · have : i = l.length := by omega
    subst this
    exact Ev.neg (by omega) (Ev.some (by simp [orI]))

def cmpI (a b : Int) : Int := if a < b then -1 else if a > b then 1 else 0
theorem cmp_Compare_int.ev (a b : Int) : cmp_Compare_int.f a b = some (cmpI a b) := by
  unfold cmp_Compare_int.f cmp_isNaN_int.f cmpI
  simp only [Option.bind_some, bne_self_eq_false]
  rw [if_neg (by simp), if_neg (by simp)]
  split
  · rfl
  · split <;> rfl

def cmpA (a b : S48) : Int := orI [cmpI a.f1 b.f1, cmpI a.f2 b.f2]
theorem cmpA_ge (a b : S48) : cmpA a b ≥ 0 ↔ lessA a b = false := by
  unfold cmpA lessA cmpI
  simp only [orI]
  rcases Int.lt_trichotomy a.f1 b.f1 with h | h | h
  · simp [h]
  · rcases Int.lt_trichotomy a.f2 b.f2 with g | g | g
    · simp [h, g]
    · simp [h, g]
    · simp [h, g, Int.not_lt.2 (Int.le_of_lt g)]
  · have n1 : ¬ a.f1 < b.f1 := by omega
    have n2 : ¬ a.f1 = b.f1 := by omega
    simp [h, n1, n2]
theorem cmpA_eq (a b : S48) : (cmpA a b == 0) = sameA a b := by
  unfold cmpA sameA cmpI
  simp only [orI]
  rcases Int.lt_trichotomy a.f1 b.f1 with h | h | h
  · have n2 : ¬ a.f1 = b.f1 := by omega
    simp [h, n2]
  · rcases Int.lt_trichotomy a.f2 b.f2 with g | g | g
    · have n2 : ¬ a.f2 = b.f2 := by omega
      simp [h, g, n2]
    · simp [h, g]
    · have n2 : ¬ a.f2 = b.f2 := by omega
      simp [h, g, n2, Int.not_lt.2 (Int.le_of_lt g)]
  · have n1 : ¬ a.f1 < b.f1 := by omega
    have n2 : ¬ a.f1 = b.f1 := by omega
    simp [h, n1, n2]
theorem sameA_symm (a b : S48) : sameA a b = sameA b a := by
  unfold sameA
  rw [Bool.eq_iff_iff]; simp only [Bool.and_eq_true, decide_eq_true_eq]; omega
theorem impl_compareAdds.ev (a b : S48) : Ev (fun k => impl_compareAdds.f k a.f0 a.f1 a.f2 b.f0 b.f1 b.f2) (cmpA a b) := by
  unfold impl_compareAdds.f
  exact Ev.bindS (cmp_Compare_int.ev _ _) (Ev.bindS (cmp_Compare_int.ev _ _) (Ev.bind (cmp_Or_int.ev _ (by simp)) (Ev.now _)))

theorem impl_in.ev (n a b : Int) : impl_in.f n a b = some (inB n a b) := by
  unfold impl_in.f inB
  by_cases h : a ≤ n
  · rw [if_pos h]; simp [h]
  · rw [if_neg h]; simp [h]

theorem impl_isValue.ev (s : ByteArray) (hs : s.size ≤ 9223372036854775807) : Ev (fun k => impl_isValue.f k s) (okVal s) := by
  unfold impl_isValue.f okVal
  refine Ev.eq (Ev.up (g := fun k i => impl_isValue.l0 k s (s.size : Int) i) s.size (fun i => allFrom (okByte s) s.size i && decide (s.size ≤ 20)) ?_) rfl
  intro i hi ih
  refine Ev.step (fun k => by rw [impl_isValue.l0]) ?_
  by_cases hlt : i < s.size
  · refine Ev.pos (by omega) (Ev.pos (by omega) (Ev.pos (by omega) ?_))
    rw [allFrom_step hlt, w64_succ hlt hs]
    have ih := ih hlt
    generalize allFrom (okByte s) s.size (i + 1) = q at ih ⊢
    unfold okByte
    refine Ev.cases (fun h => Ev.some (by rw [decide_eq_false (by omega : ¬ 32 ≤ bt s i)]; rfl)) (fun h1 => ?_)
    refine Ev.cases (fun h => Ev.some (by rw [decide_eq_false (by omega : ¬ bt s i ≤ 126)]; simp)) (fun h2 => ?_)
    refine Ev.cases (fun h => Ev.some (by rw [decide_eq_true h]; simp)) (fun h3 => Ev.eq ih ?_)
    rw [decide_eq_true (by omega : 32 ≤ bt s i), decide_eq_true (by omega : bt s i ≤ 126), decide_eq_false h3]; simp
  · have : i = s.size := by omega
    subst this
    refine Ev.neg (by omega) (Ev.some ?_)
    rw [allFrom_end, Bool.true_and]
    exact decide_eq_decide.2 (by omega)

theorem impl_areAdds.ev (l : List S48) (hl : okL48 l) (ht : txt48 l) : Ev (fun k => impl_areAdds.f k l) (goodA l) := by
  have h1 := hl.1
  unfold impl_areAdds.f goodA
  refine Ev.eq (Ev.up (g := fun k i => impl_areAdds.l0 k l l (l.length : Int) i) l.length (fun i => allFrom (okAt l) l.length i && decide (l.length ≤ 40)) ?_) rfl
  intro i hi ih
  refine Ev.step (fun k => by rw [impl_areAdds.l0]) ?_
  by_cases hlt : i < l.length
  · have ih := ih hlt
    have e : rd_T48 l (i : Int) = l[i] := getD_nat l _ hlt
    have hz : (rd_T48 l (i : Int)).f0.size ≤ 9223372036854775807 := by rw [e]; exact ht _ (List.getElem_mem hlt)
    rw [allFrom_step hlt, w64_succ hlt (by omega)]
    generalize allFrom (okAt l) l.length (i + 1) = q at ih ⊢
    unfold okAt okAdd
    refine Ev.pos (by omega) (Ev.pos (by omega) (Ev.pos (by omega) ?_))
    refine Ev.bind (impl_isValue.ev _ hz) (Ev.cases (fun g1 => ?_) (fun g1 => Ev.some (by rw [Bool.eq_false_iff.2 g1]; simp)))
    refine Ev.bindS (impl_in.ev _ _ _) (Ev.cases (fun g2 => ?_) (fun g2 => Ev.some (by rw [Bool.eq_false_iff.2 g2]; simp)))
    refine Ev.bindS (impl_in.ev _ _ _) (Ev.cases (fun g3 => ?_) (fun g3 => Ev.some (by rw [Bool.eq_false_iff.2 g3]; simp)))
    rw [g1, g2, g3]
    refine Ev.cases (fun g4 => ?_) (fun g4 => Ev.eq ih (by rw [decide_eq_true (by omega : i = 0)]; simp))
    rw [w64 (by omega) (by omega), decide_eq_false (by omega : ¬ i = 0)]
    refine Ev.pos (by omega) (Ev.pos (by omega) (Ev.bind (impl_compareAdds.ev _ _) (Ev.cases (fun g5 => Ev.some (by rw [(cmpA_ge _ _).1 g5]; simp)) (fun g5 => Ev.eq ih ?_))))
    have : lessA (rd_T48 l ((i : Int) - 1)) (rd_T48 l (i : Int)) = true := by
      cases h : lessA (rd_T48 l ((i : Int) - 1)) (rd_T48 l (i : Int)) with
      | true => rfl
      | false => exact absurd ((cmpA_ge _ _).2 h) g5
    rw [this]; simp
  · have : i = l.length := by omega
    subst this
    refine Ev.neg (by omega) (Ev.some ?_)
    rw [allFrom_end, Bool.true_and]
    exact decide_eq_decide.2 (by omega)

theorem impl_isBag_1_1.ev (o x : S48) : Ev (fun k => impl_isBag_1_1.f k o.f0 o.f1 o.f2 x.f0 x.f1 x.f2) (sameA x o) := by
  unfold impl_isBag_1_1.f
  refine Ev.bind (impl_compareAdds.ev o x) (Ev.some ?_)
  rw [cmpA_eq, sameA_symm]

theorem has_impl_isBag_1_1.ev (g : List S48) (x : S48) : Ev (fun k => has_impl_isBag_1_1.f k g x.f0 x.f1 x.f2) (g.any (fun o => sameA x o)) := by
  unfold has_impl_isBag_1_1.f
  exact idxAny_Ev (fun o _ => impl_isBag_1_1.ev o x)

theorem impl_isBag_1.ev (x : S48) (a g : List S48) : Ev (fun k => impl_isBag_1.f k x.f0 x.f1 x.f2 a g) (g.any (fun o => sameA x o)) := by
  unfold impl_isBag_1.f
  exact Ev.bind (has_impl_isBag_1_1.ev g x) (Ev.now _)

theorem has_impl_isBag_1.ev (l a g : List S48) : Ev (fun k => has_impl_isBag_1.f k l a g) (l.any (fun x => g.any (fun o => sameA x o))) := by
  unfold has_impl_isBag_1.f
  exact idxAny_Ev (fun x _ => impl_isBag_1.ev x a g)

theorem any_all (p : S48 → Bool) : ∀ l : List S48, (!(l.any p)) = l.all (fun z => !(p z))
  | [] => rfl
  | a :: l => by rw [List.any_cons, List.all_cons, ← any_all p l]; cases p a <;> simp
theorem impl_isBag.ev (a g : List S48) (ha : okL48 a) (hg : okL48 g) (ta : txt48 a) (tg : txt48 g) : Ev (fun k => impl_isBag.f k a g) (goodB a g) := by
  unfold impl_isBag.f goodB
  refine Ev.bind (impl_areAdds.ev a ha ta) (Ev.cases (fun h1 => ?_) (fun h1 => Ev.some (by rw [Bool.eq_false_iff.2 h1]; simp)))
  refine Ev.bind (impl_areAdds.ev g hg tg) (Ev.cases (fun h2 => ?_) (fun h2 => Ev.some (by rw [Bool.eq_false_iff.2 h2]; simp)))
  refine Ev.bind (has_impl_isBag_1.ev a a g) (Ev.some ?_)
  rw [any_all, h1, h2]; simp

theorem rd48_at (p r : List S48) (v : S48) : rd_T48 (p ++ v :: r) (p.length : Int) = v := by simp [rd_T48]
theorem set48_at (p r : List S48) (x v : S48) : (p ++ x :: r).set (p.length : Int).toNat v = p ++ v :: r := by simp
theorem laws_markAddS.go (r : List S48) : ∀ (p q : List S48) (k0 : Int), q.length = p.length → 0 ≤ k0 → k0 + 3 * (r.length : Int) ≤ 9223372036854775806 → p.length + r.length ≤ 9223372036854775806 →
    ∃ r' : List S48, Ev (fun k => laws_markAddS.l0 k (p ++ r) k0 (p.length : Int)) (k0 + 3 * (r.length : Int), p ++ r') ∧ Ev (fun k => laws_heldAddS.l0 k (q ++ r') k0 (q.length : Int)) (k0 + 3 * (r.length : Int)) := by
  induction r with
  | nil =>
    intro p q k0 hq h0 h1 h2
    exact ⟨[], Ev.step (fun k => by rw [laws_markAddS.l0]) (Ev.neg (by simp) (Ev.some (by simp))), Ev.step (fun k => by rw [laws_heldAddS.l0]) (Ev.neg (by simp) (Ev.some (by simp)))⟩
  | cons x r ih =>
    intro p q k0 hq h0 h1 h2
    simp only [List.length_cons] at h1 h2
    obtain ⟨t, ht⟩ := laws_markText.all k0 h0 (by omega)
    have e1 : wrap64 (k0 + 1) = k0 + 1 := w64 (by omega) (by omega)
    have e2 : wrap64 (k0 + 1 + 1) = k0 + 1 + 1 := w64 (by omega) (by omega)
    have e3 : wrap64 (k0 + 1 + 1 + 1) = k0 + 1 + 1 + 1 := w64 (by omega) (by omega)
    have el : ∀ p : List S48, (p ++ [(⟨t, k0 + 1, k0 + 1 + 1⟩ : S48)]).length = p.length + 1 := fun p => by simp
    obtain ⟨r', hm, hh⟩ := ih (p ++ [(⟨t, k0 + 1, k0 + 1 + 1⟩ : S48)]) (q ++ [(⟨t, k0 + 1, k0 + 1 + 1⟩ : S48)]) (k0 + 1 + 1 + 1) (by rw [el, el, hq]) (by omega) (by omega) (by rw [el]; omega)
    have ep : ∀ p : List S48, p.length ≤ 9223372036854775805 → wrap64 ((p.length : Int) + 1) = (((p ++ [(⟨t, k0 + 1, k0 + 1 + 1⟩ : S48)]).length : Nat) : Int) := fun p h => by rw [w64 (by omega) (by omega), el]; omega
    refine ⟨⟨t, k0 + 1, k0 + 1 + 1⟩ :: r', ?_, ?_⟩
    · refine Ev.step (fun k => by rw [laws_markAddS.l0]) (Ev.pos (by simp; omega) (Ev.bind ht ?_))
      refine Ev.pos (by omega) ?_
      refine Ev.bindS rfl ?_
      rw [set48_at, rd48_at, rd48_at]
      refine Ev.bindS rfl ?_
      rw [set48_at, rd48_at, set48_at, e1, e2, e3, ep p (by omega)]
      refine Ev.eq (Ev.congr (fun k => ?_) hm) ?_
      · rw [List.append_assoc]; rfl
      · rw [Prod.mk.injEq]; exact ⟨by simp only [List.length_cons]; omega, by simp⟩
    · refine Ev.step (fun k => by rw [laws_heldAddS.l0]) (Ev.pos (by simp; omega) ?_)
      refine Ev.pos (by omega) (Ev.bind ht ?_)
      rw [rd48_at, e1, e2, e3, ep q (by omega)]
      refine Ev.pos rfl (Ev.pos rfl (Ev.pos rfl (Ev.eq (Ev.congr (fun k => ?_) hh) (by simp only [List.length_cons]; omega))))
      rw [List.append_assoc]; rfl
theorem laws_markAddS.two (l : List S48) (k0 : Int) (h0 : 0 ≤ k0) (h1 : k0 + 3 * (l.length : Int) ≤ 9223372036854775806) : ∃ l' : List S48, Ev (fun k => laws_markAddS.f k l k0) (k0 + 3 * (l.length : Int), l') ∧ Ev (fun k => laws_heldAddS.f k l' k0) (k0 + 3 * (l.length : Int)) := by
  obtain ⟨l', h, h2⟩ := laws_markAddS.go l [] [] k0 rfl h0 h1 (by simp; omega)
  exact ⟨l', by simpa [laws_markAddS.f] using h, by simpa [laws_heldAddS.f] using h2⟩

theorem laws_markBag.two (a g : List S48) (ha : a.length ≤ 1048576) (hg : g.length ≤ 1048576) : ∃ (n : Int) (a' g' : List S48), Ev (fun k => laws_markBag.f k a g 1) (n, a', g') ∧ Ev (fun k => laws_heldBag.f k a' g' 1) n ∧ ¬ n < 0 := by
  obtain ⟨a', h1, j1⟩ := laws_markAddS.two a 1 (by omega) (by omega)
  obtain ⟨g', h2, j2⟩ := laws_markAddS.two g (1 + 3 * (a.length : Int)) (by omega) (by omega)
  refine ⟨1 + 3 * (a.length : Int) + 3 * (g.length : Int), a', g', ?_, ?_, by omega⟩
  · unfold laws_markBag.f; exact Ev.bind h1 (Ev.bind h2 (Ev.now _))
  · unfold laws_heldBag.f
    refine Ev.bind j1 ?_
    refine Ev.neg (by omega) (Ev.bind j2 ?_)
    exact Ev.neg (by omega) (Ev.now _)

def Rk (x y : S48) : Prop := x.f1 < y.f1 ∨ (x.f1 = y.f1 ∧ x.f2 < y.f2)
theorem Rk.trans {x y z : S48} (h : Rk x y) (k : Rk y z) : Rk x z := by unfold Rk at *; omega
theorem Rk.asymm {x y : S48} (h : Rk x y) : ¬ Rk y x := by unfold Rk at *; omega

def Sk (x y : S48) : Prop := x.f1 = y.f1 ∧ x.f2 = y.f2
theorem lessA_iff (x y : S48) : lessA x y = true ↔ Rk x y := by simp [lessA, Rk]
theorem sameA_iff (x y : S48) : sameA x y = true ↔ Sk x y := by simp [sameA, Sk]
def sortedP (l : List S48) : Prop := l.Pairwise Rk
theorem Rk.irrefl (x : S48) : ¬ Rk x x := by unfold Rk; omega
theorem uniqP : ∀ (l m : List S48), sortedP l → sortedP m → (∀ x, x ∈ l ↔ x ∈ m) → l = m
  | [], [], _, _, _ => rfl
  | [], b :: m, _, _, h => absurd ((h b).2 (List.mem_cons_self ..)) (by simp)
  | a :: l, [], _, _, h => absurd ((h a).1 (List.mem_cons_self ..)) (by simp)
  | a :: l, b :: m, hl, hm, h => by
    obtain ⟨hl1, hl2⟩ := List.pairwise_cons.1 hl
    obtain ⟨hm1, hm2⟩ := List.pairwise_cons.1 hm
    have hab : a = b := by
      rcases List.mem_cons.1 ((h a).1 (List.mem_cons_self ..)) with e | e
      · exact e
      · rcases List.mem_cons.1 ((h b).2 (List.mem_cons_self ..)) with e' | e'
        · exact e'.symm
        · exact absurd (hl1 b e') (hm1 a e).asymm
    subst hab
    rw [uniqP l m hl2 hm2 fun x => ⟨fun hx => ?_, fun hx => ?_⟩]
    · rcases List.mem_cons.1 ((h x).1 (List.mem_cons_of_mem _ hx)) with e | e
      · subst e; exact absurd (hl1 x hx) (Rk.irrefl x)
      · exact e
    · rcases List.mem_cons.1 ((h x).2 (List.mem_cons_of_mem _ hx)) with e | e
      · subst e; exact absurd (hm1 x hx) (Rk.irrefl x)
      · exact e
def putA : List S48 → S48 → List S48
  | [], x => [x]
  | y :: ys, x => if lessA y x = true then y :: putA ys x else if sameA y x = true then x :: ys else x :: y :: ys
theorem putA_sub (l : List S48) (x z : S48) : z ∈ putA l x → z = x ∨ z ∈ l := by
  induction l with
  | nil => intro h; simpa [putA] using h
  | cons y ys ih =>
    unfold putA
    split
    · intro h
      rcases List.mem_cons.1 h with e | e
      · exact .inr (by rw [e]; exact List.mem_cons_self ..)
      · rcases ih e with e | e
        · exact .inl e
        · exact .inr (List.mem_cons_of_mem _ e)
    · split
      · intro h
        rcases List.mem_cons.1 h with e | e
        · exact .inl e
        · exact .inr (List.mem_cons_of_mem _ e)
      · intro h
        rcases List.mem_cons.1 h with e | e
        · exact .inl e
        · exact .inr e
theorem putA_sorted (l : List S48) (x : S48) (h : sortedP l) : sortedP (putA l x) := by
  induction l with
  | nil => simp [putA, sortedP]
  | cons y ys ih =>
    obtain ⟨h1, h2⟩ := List.pairwise_cons.1 h
    unfold putA
    split
    · rename_i hlt
      refine List.pairwise_cons.2 ⟨fun z hz => ?_, ih h2⟩
      rcases putA_sub ys x z hz with e | e
      · rw [e]; exact (lessA_iff y x).1 hlt
      · exact h1 z e
    · rename_i hge
      split
      · rename_i hs
        have hs := (sameA_iff y x).1 hs
        refine List.pairwise_cons.2 ⟨fun z hz => ?_, h2⟩
        have := h1 z hz
        unfold Rk Sk at *; omega
      · rename_i hs
        have hxy : Rk x y := by
          have h3 : ¬ Rk y x := fun h => hge ((lessA_iff y x).2 h)
          have h4 : ¬ Sk y x := fun h => hs ((sameA_iff y x).2 h)
          unfold Rk Sk at *; omega
        refine List.pairwise_cons.2 ⟨fun z hz => ?_, h⟩
        rcases List.mem_cons.1 hz with e | e
        · rw [e]; exact hxy
        · exact hxy.trans (h1 z e)
theorem putA_length (l : List S48) (x : S48) : (putA l x).length ≤ l.length + 1 := by
  induction l with
  | nil => simp [putA]
  | cons y ys ih =>
    unfold putA
    split
    · simp only [List.length_cons]; omega
    · split <;> simp only [List.length_cons] <;> omega
theorem spec_l14Put.ev (L : List S48) (x : S48) (hl : L.length ≤ 2000000) : Ev (fun k => spec_l14Put.f k L x.f0 x.f1 x.f2) (putA L x) := by
  unfold spec_l14Put.f
  refine Ev.eq (Ev.up (g := fun k i => spec_l14Put.l0 k L i x.f0 x.f1 x.f2) L.length (fun i => L.take i ++ putA (L.drop i) x) ?_) (by simp)
  intro i hi ih
  refine Ev.step (fun k => by rw [spec_l14Put.l0]) ?_
  by_cases hlt : i < L.length
  · have h2 := ih hlt
    have e : rd_T48 L (i : Int) = L[i] := getD_nat L _ hlt
    have hd : L.drop i = L[i] :: L.drop (i + 1) := List.drop_eq_getElem_cons hlt
    refine Ev.pos (by omega) (Ev.pos (by omega) ?_)
    rw [e]
    refine Ev.bindS (spec_l14Less.ev L[i] x) ?_
    refine Ev.cases (fun hc => ?_) (fun hc => ?_)
    · rw [w64_succ hlt (by omega)]
      refine Ev.eq h2 ?_
      rw [hd]
      simp only [putA, if_pos hc]
      rw [take_snoc L hlt, List.append_assoc]; rfl
    · refine Ev.pos (by omega) (Ev.bindS rfl (Ev.pos (by simp; omega) (Ev.bindS rfl (Ev.pos (by simp; omega) (Ev.bindS rfl ?_)))))
      refine Ev.bindS (spec_l14Same.ev L[i] x) ?_
      refine Ev.cases (fun he => ?_) (fun he => ?_)
      · refine Ev.pos (by rw [w64_succ hlt (by omega)]; omega) (Ev.pos (by rw [w64_succ hlt (by omega)]; omega) (Ev.bindS rfl (Ev.pos (by rw [w64_succ hlt (by omega)]; simp; omega) (Ev.some ?_))))
        rw [w64_succ hlt (by omega), hd]
        simp only [putA, if_neg hc, if_pos he]
        simp
      · refine Ev.bindS rfl (Ev.pos (by simp; omega) (Ev.some ?_))
        rw [hd]
        simp only [putA, if_neg hc, if_neg he]
        rw [← hd]
        simp
  · have : i = L.length := by omega
    subst this
    refine Ev.neg (by omega) (Ev.pos (by omega) (Ev.pos (by omega) (Ev.bindS rfl (Ev.pos (by simp; omega) (Ev.bindS rfl (Ev.pos (by simp; omega) (Ev.bindS rfl (Ev.bindS rfl (Ev.pos (by simp; omega) (Ev.some ?_))))))))))
    simp [putA]

/-! two adds that are the same -/
theorem toList_same {x y : ByteArray} (h : x.toList = y.toList) : x = y := by
  rw [ByteArray.toList_eq, ByteArray.toList_eq] at h
  cases x; cases y
  congr 1
  exact Array.toList_inj.1 h
def eqA (x y : S48) : Bool := (x.f0.toList == y.f0.toList) && ((x.f1 == y.f1) && (x.f2 == y.f2))
theorem eqA_iff (x y : S48) : eqA x y = true ↔ x = y := by
  unfold eqA
  simp only [Bool.and_eq_true, beq_iff_eq]
  constructor
  · rintro ⟨h0, h1, h2⟩
    cases x; cases y
    simp only at h0 h1 h2
    rw [toList_same h0, h1, h2]
  · rintro rfl; exact ⟨rfl, rfl, rfl⟩
theorem rdA {l : List S48} {i : Nat} (h : i < l.length) : rd_T48 l (i : Int) = l[i] := getD_nat l _ h
/-- The elements of the first n that are not as the one ahead. -/
def kp (l : List S48) : Nat → List S48
  | 0 => []
  | n + 1 => if n = 0 ∨ eqA (rd_T48 l (n : Int)) (rd_T48 l ((n - 1 : Nat) : Int)) = false then kp l n ++ [rd_T48 l (n : Int)] else kp l n
theorem kp_step (l : List S48) {n : Nat} (hn : 0 < n) : kp l (n + 1) = if eqA (rd_T48 l (n : Int)) (rd_T48 l ((n - 1 : Nat) : Int)) = false then kp l n ++ [rd_T48 l (n : Int)] else kp l n := by
  show (if n = 0 ∨ eqA (rd_T48 l (n : Int)) (rd_T48 l ((n - 1 : Nat) : Int)) = false then kp l n ++ [rd_T48 l (n : Int)] else kp l n) = _
  by_cases h : eqA (rd_T48 l (n : Int)) (rd_T48 l ((n - 1 : Nat) : Int)) = false
  · rw [if_pos (.inr h), if_pos h]
  · rw [if_neg (fun q => q.elim (fun z => by omega) h), if_neg h]
theorem impl_Add_60.second {l : List S48} {m : Nat} (hm : 1 ≤ m) (hl : l.length ≤ 1048576) : ∀ (d j : Nat) (x0 : List S48) (w : Nat), m + j + d = l.length → 1 ≤ j → x0.length = l.length → x0.take w = kp l (m + j) → w + 1 ≤ m + j →
    (∀ i, m + j ≤ i + 1 → i < l.length → rd_T48 x0 (i : Int) = rd_T48 l (i : Int)) → Ev (fun k => impl_Add_60.l1 k x0 (w : Int) (m : Int) (j : Int)) (kp l l.length)
  | 0, j, x0, w, hd, hj, hx, ht, hw, hr => by
    have e : (x0.drop ((m : Int)).toNat).length = l.length - m := by simp [hx]
    refine Ev.step (fun k => by rw [impl_Add_60.l1]) ?_
    rw [e]
    refine Ev.neg (by omega) (Ev.pos (by omega) (Ev.pos (by omega) (Ev.some ?_)))
    rw [Int.toNat_natCast, ht, show m + j = l.length by omega]
  | d + 1, j, x0, w, hd, hj, hx, ht, hw, hr => by
    have a1 : rd_T48 x0 ((m + j : Nat) : Int) = rd_T48 l ((m + j : Nat) : Int) := hr (m + j) (by clear hr ht; omega) (by clear hr ht; omega)
    have a2 : rd_T48 x0 ((m + (j - 1) : Nat) : Int) = rd_T48 l ((m + (j - 1) : Nat) : Int) := hr (m + (j - 1)) (by clear hr ht; omega) (by clear hr ht; omega)
    have e : (x0.drop ((m : Int)).toNat).length = l.length - m := by simp [hx]
    have ew : wrap64 ((j : Int) - 1) = ((j - 1 : Nat) : Int) := by rw [w64 (by omega) (by omega)]; omega
    have ej : wrap64 ((j : Int) + 1) = ((j + 1 : Nat) : Int) := by rw [w64 (by omega) (by omega)]; omega
    have ei : wrap64 ((w : Int) + 1) = ((w + 1 : Nat) : Int) := by rw [w64 (by omega) (by omega)]; omega
    have rdr : ∀ q : Nat, rd_T48 (x0.drop ((m : Int)).toNat) (q : Int) = rd_T48 x0 ((m + q : Nat) : Int) := fun q => by simp only [rd_T48, Int.toNat_natCast, List.getD_eq_getElem?_getD, List.getElem?_drop]
    refine Ev.step (fun k => by rw [impl_Add_60.l1]) ?_
    simp only [e, ew, ej, ei, rdr, a1, a2]
    clear e ew ej ei rdr a1 a2
    refine Ev.pos (by omega) (Ev.pos (by omega) (Ev.pos (by omega) (Ev.pos (by omega) ?_)))
    have kk : kp l (m + j + 1) = if eqA (rd_T48 l ((m + j : Nat) : Int)) (rd_T48 l ((m + (j - 1) : Nat) : Int)) = false then kp l (m + j) ++ [rd_T48 l ((m + j : Nat) : Int)] else kp l (m + j) := by
      have e9 : m + j - 1 = m + (j - 1) := by omega
      have h9 := kp_step l (show 0 < m + j by omega)
      rw [e9] at h9
      exact h9
    generalize hu : rd_T48 l ((m + j : Nat) : Int) = u at kk ⊢
    generalize hv : rd_T48 l ((m + (j - 1) : Nat) : Int) = v at kk ⊢
    have et : (!(u.f0.toList == v.f0.toList) || (!(u.f1 == v.f1) || !(u.f2 == v.f2))) = !(eqA u v) := by unfold eqA; cases (u.f0.toList == v.f0.toList) <;> cases (u.f1 == v.f1) <;> cases (u.f2 == v.f2) <;> rfl
    rw [et]
    cases hq : eqA u v with
    | true =>
      rw [hq] at kk
      refine Ev.neg (by simp) ?_
      exact impl_Add_60.second hm hl d (j + 1) x0 w (by omega) (by omega) hx (by rw [ht, show m + (j + 1) = m + j + 1 by omega, kk]; rfl) (by omega) (fun i h1 h2 => hr i (by omega) h2)
    | false =>
      rw [hq, if_pos rfl] at kk
      refine Ev.pos (by simp) (Ev.pos (by omega) (Ev.pos (by omega) ?_))
      rw [Int.toNat_natCast]
      refine impl_Add_60.second hm hl d (j + 1) (x0.set w u) (w + 1) (by omega) (by omega) (by simpa using hx) ?_ (by omega) (fun i h1 h2 => ?_)
      · rw [show m + (j + 1) = m + j + 1 by omega, kk, ← ht, List.take_succ_eq_append_getElem (by simp; omega), List.getElem_set_self, List.take_set_of_le (Nat.le_refl _)]
      · have := hr i (by omega) h2
        rw [← this]
        simp only [rd_T48, Int.toNat_natCast, List.getD_eq_getElem?_getD, List.getElem?_set]
        rw [if_neg (by omega)]
theorem impl_Add_60.ev (l : List S48) (hl : l.length ≤ 1048576) : Ev (fun k => impl_Add_60.f k l) (kp l l.length) := by
  unfold impl_Add_60.f
  have k0 : kp l 0 = [] := rfl
  have k1 : 1 ≤ l.length → kp l 1 = l.take 1 := fun h => by
    show (if 0 = 0 ∨ _ then kp l 0 ++ [rd_T48 l ((0 : Nat) : Int)] else _) = _
    rw [if_pos (.inl rfl), k0, rdA (show 0 < l.length by omega), take_snoc l (show 0 < l.length by omega)]; simp
  have key : ∀ d i : Nat, i + d = l.length → 1 ≤ i → kp l i = l.take i → Ev (fun k => impl_Add_60.l0 k l (i : Int)) (kp l l.length) := by
    intro d
    induction d with
    | zero =>
      intro i hi h1 hk
      refine Ev.step (fun k => by rw [impl_Add_60.l0]) (Ev.neg (by omega) (Ev.some ?_))
      rw [show l.length = i by omega, hk, List.take_of_length_le (by omega)]
    | succ d ih =>
      intro i hi h1 hk
      have hlt : i < l.length := by omega
      have ew : wrap64 ((i : Int) - 1) = ((i - 1 : Nat) : Int) := by rw [w64 (by omega) (by omega)]; omega
      have kk : kp l (i + 1) = if eqA (rd_T48 l (i : Int)) (rd_T48 l ((i - 1 : Nat) : Int)) = false then kp l i ++ [rd_T48 l (i : Int)] else kp l i := by
        exact kp_step l (by omega)
      refine Ev.step (fun k => by rw [impl_Add_60.l0]) ?_
      rw [ew, w64_succ (n := l.length) (by omega) (by omega)]
      refine Ev.pos (by omega) (Ev.pos (by omega) (Ev.pos (by omega) (Ev.pos (by omega) ?_)))
      show Ev (fun k => if eqA (rd_T48 l (i : Int)) (rd_T48 l ((i - 1 : Nat) : Int)) = true then _ else _) _
      cases hq : eqA (rd_T48 l (i : Int)) (rd_T48 l ((i - 1 : Nat) : Int)) with
      | true =>
        rw [hq] at kk
        refine Ev.pos rfl (Ev.pos (by omega) ?_)
        exact impl_Add_60.second h1 hl d 1 l i (by omega) (Nat.le_refl _) rfl (by rw [← hk, kk]; rfl) (by omega) (fun _ _ _ => rfl)
      | false =>
        rw [hq, if_pos rfl] at kk
        refine Ev.neg (by simp) (ih (i + 1) (by omega) (by omega) ?_)
        rw [kk, hk, rdA hlt, take_snoc l hlt]
  refine Ev.cases (fun h => Ev.some ?_) (fun h => key (l.length - 1) 1 (by omega) (by omega) (k1 (by omega)))
  by_cases h0 : l.length = 0
  · rw [h0]; exact List.eq_nil_of_length_eq_zero h0
  · have : l.length = 1 := by omega
    rw [this, k1 (by omega), List.take_of_length_le (by omega)]
theorem kp_len (l : List S48) : ∀ n, (kp l n).length ≤ n
  | 0 => by simp [kp]
  | n + 1 => by
    have := kp_len l n
    unfold kp
    split
    · simp; omega
    · omega
theorem kp_sub (l : List S48) : ∀ n, n ≤ l.length → ∀ z, z ∈ kp l n → z ∈ l
  | 0, _, z, h => by simp [kp] at h
  | n + 1, hn, z, h => by
    have hr := rdA (l := l) (i := n) (by omega)
    unfold kp at h
    split at h
    · rcases List.mem_append.1 h with h | h
      · exact kp_sub l n (by omega) z h
      · rw [List.mem_singleton.1 h, hr]; exact List.getElem_mem _
    · exact kp_sub l n (by omega) z h
/-- A sorted row whose adds of one key are the same: what is kept is sorted without twins, and has all. -/
theorem kp_facts {l : List S48} (hs : l.Pairwise (fun x y => ltA y x = false)) (hK : ∀ x ∈ l, ∀ y ∈ l, Sk x y → x = y) : ∀ n, n ≤ l.length → sortedP (kp l n) ∧ (∀ i, (hi : i < n) → (h : i < l.length) → l[i] ∈ kp l n)
  | 0, _ => ⟨List.Pairwise.nil, fun i hi => by omega⟩
  | n + 1, hn => by
    obtain ⟨i1, i2⟩ := kp_facts hs hK n (by omega)
    have hlt : n < l.length := by omega
    have le : ∀ i j, (hi : i < l.length) → (hj : j < l.length) → i ≤ j → ¬ Rk l[j] l[i] := by
      intro i j hi hj hij
      by_cases e : i = j
      · subst e; exact Rk.irrefl _
      · have h := (List.pairwise_iff_getElem.1 hs) i j hi hj (by omega)
        rw [ltA_iff] at h
        have h := of_decide_eq_false h
        unfold Rk; exact h
    by_cases h0 : n = 0
    · subst h0
      have e : kp l 1 = [rd_T48 l ((0 : Nat) : Int)] := by
        show (if 0 = 0 ∨ _ then kp l 0 ++ [rd_T48 l ((0 : Nat) : Int)] else _) = _
        rw [if_pos (.inl rfl)]; rfl
      rw [e, rdA hlt]
      exact ⟨List.pairwise_singleton _ _, fun i hi h => by
        have : i = 0 := by omega
        subst this; simp⟩
    · rw [kp_step l (by omega), rdA hlt, rdA (show n - 1 < l.length by omega)]
      by_cases hq : eqA l[n] l[n - 1] = true
      · rw [if_neg (by rw [hq]; simp)]
        have he := (eqA_iff _ _).1 hq
        refine ⟨i1, fun i hi h => ?_⟩
        by_cases e : i = n
        · subst e; rw [he]; exact i2 (i - 1) (by omega) (by omega)
        · exact i2 i (by omega) h
      · have hq' := Bool.eq_false_iff.2 hq
        rw [if_pos hq']
        refine ⟨List.pairwise_append.2 ⟨i1, List.pairwise_singleton _ _, fun z hz y hy => ?_⟩, fun i hi h => ?_⟩
        · rw [List.mem_singleton.1 hy]
          have hzl : ∃ i, ∃ h : i < n, z = l[i]'(by omega) := by
            have : ∀ m, (hmn : m ≤ n) → z ∈ kp l m → ∃ i, ∃ h : i < m, z = l[i]'(by omega) := by
              intro m
              induction m with
              | zero => intro _ hz; simp [kp] at hz
              | succ m ih =>
                intro hm hz
                unfold kp at hz
                split at hz
                · rcases List.mem_append.1 hz with hz | hz
                  · obtain ⟨i, hi, e⟩ := ih (by omega) hz; exact ⟨i, by omega, e⟩
                  · exact ⟨m, by omega, by rw [List.mem_singleton.1 hz, rdA (show m < l.length by omega)]⟩
                · obtain ⟨i, hi, e⟩ := ih (by omega) hz; exact ⟨i, by omega, e⟩
            exact this n (Nat.le_refl _) hz
          obtain ⟨i, hi, rfl⟩ := hzl
          have q1 := le i (n - 1) (by omega) (by omega) (by omega)
          have q2 := le (n - 1) n (by omega) hlt (by omega)
          have q3 : ¬ Sk l[n] l[n - 1] := fun h => hq ((eqA_iff _ _).2 (hK _ (List.getElem_mem _) _ (List.getElem_mem _) h))
          generalize l[i]'(by omega) = u at q1 ⊢
          generalize l[n - 1]'(by omega) = v at q1 q2 q3
          generalize l[n] = t at q2 q3 ⊢
          unfold Rk Sk at *; omega
        · by_cases e : i = n
          · subst e; exact List.mem_append.2 (.inr (by simp))
          · exact List.mem_append.2 (.inl (i2 i (by omega) h))
/-- An add row, sorted, each once. -/
def csA (A : List S48) : List S48 := kp (srtA A) (srtA A).length
theorem csA_facts {A : List S48} (hK : ∀ x ∈ A, ∀ y ∈ A, Sk x y → x = y) : sortedP (csA A) ∧ (∀ z, z ∈ csA A ↔ z ∈ A) := by
  obtain ⟨p1, p2⟩ := srtA_perm A
  have hm : ∀ z, z ∈ srtA A ↔ z ∈ A := fun z => p1.mem_iff
  obtain ⟨h1, h2⟩ := kp_facts (srtA_sorted A) (fun x hx y hy => hK x ((hm x).1 hx) y ((hm y).1 hy)) (srtA A).length (Nat.le_refl _)
  refine ⟨h1, fun z => ⟨fun h => (hm z).1 (kp_sub _ _ (Nat.le_refl _) z h), fun h => ?_⟩⟩
  obtain ⟨i, hi, rfl⟩ := List.getElem_of_mem ((hm z).2 h)
  exact h2 i hi hi
theorem csA_len (A : List S48) : (csA A).length ≤ A.length := by
  have := kp_len (srtA A) (srtA A).length
  rw [(srtA_perm A).2] at this
  unfold csA; rw [(srtA_perm A).2]; exact this
theorem csA_sub (A : List S48) : ∀ z, z ∈ csA A → z ∈ A := fun z h => (srtA_perm A).1.mem_iff.1 (kp_sub _ _ (Nat.le_refl _) z h)
theorem ok_csA {A : List S48} (h : okL48 A) : okL48 (csA A) := ⟨Nat.le_trans (csA_len A) h.1, fun z hz => h.2 z (csA_sub A z hz)⟩
theorem impl_goodBag.ev (A X : List S48) (oA : okL48 A) (oX : okL48 X) : Ev (fun k => impl_goodBag.f k A X) (if goodB (csA A) (csA X) = true then (csA A, csA X, true) else ([], [], false)) := by
  have lA := oA.1
  have lX := oX.1
  unfold impl_goodBag.f
  refine Ev.bindS rfl (Ev.pos (by simp; omega) (Ev.bindS rfl (Ev.pos (by simp; omega) ?_)))
  refine Ev.bind (show Ev (fun k => sortA.f k ([] ++ A) 1) (0, srtA A) from by unfold sortA.f; rw [List.nil_append, if_pos lA]; exact Ev.now _) ?_
  refine Ev.bind (show Ev (fun k => sortA.f k ([] ++ X) 1) (0, srtA X) from by unfold sortA.f; rw [List.nil_append, if_pos lX]; exact Ev.now _) ?_
  dsimp only
  have cA := ok_csA oA
  have cX := ok_csA oX
  refine Ev.bind (impl_Add_60.ev (srtA A) (by rw [(srtA_perm A).2]; exact lA)) (Ev.bind (impl_Add_60.ev (srtA X) (by rw [(srtA_perm X).2]; exact lX)) (Ev.bind (impl_isBag.ev (csA A) (csA X) cA cX (txt_of cA) (txt_of cX)) ?_))
  exact Ev.cases (fun h => Ev.some (by rw [if_pos h]; rfl)) (fun h => Ev.some (by rw [if_neg h]))
/-! slices.Contains, slices.DeleteFunc -/
theorem impl_Add_64.ev (l : List S48) (x : S48) (hl : l.length ≤ 1048576) : Ev (fun k => impl_Add_64.f k l x.f0 x.f1 x.f2) (idxN (eqA x) l 0) := by
  unfold impl_Add_64.f
  refine Ev.eq (Ev.up (g := fun k i => impl_Add_64.l0 k l (l.length : Int) i x.f0 x.f1 x.f2) l.length (fun i => idxN (eqA x) (l.drop i) i) ?_) (by simp)
  intro i hi ih
  refine Ev.step (fun k => by rw [impl_Add_64.l0]) ?_
  by_cases hlt : i < l.length
  · have ih := ih hlt
    rw [List.drop_eq_getElem_cons hlt, idxN_cons, rdA hlt, w64_succ hlt (by omega)]
    refine Ev.pos (by omega) (Ev.pos (by omega) (Ev.pos (by omega) ?_))
    show Ev (fun k => if eqA x l[i] = true then _ else _) _
    exact Ev.cases (fun h => Ev.some (by rw [if_pos h])) (fun h => by rw [if_neg h]; exact ih)
  · refine Ev.neg (by omega) (Ev.some ?_)
    rw [List.drop_of_length_le (by omega)]; rfl
theorem impl_Add_43.ev (l : List S48) (x : S48) (hl : l.length ≤ 1048576) : Ev (fun k => impl_Add_43.f k l x.f0 x.f1 x.f2) (l.any (eqA x)) := by
  unfold impl_Add_43.f
  exact Ev.bind (impl_Add_64.ev l x hl) (Ev.some (idxN_any (eqA x) l 0))
theorem idxN_spec {α : Type} (p : α → Bool) : ∀ (l : List α) (o : Nat), (idxN p l o = -1 ∧ ∀ x ∈ l, p x = false) ∨ ∃ i, ∃ h : i < l.length, idxN p l o = ((o + i : Nat) : Int) ∧ p l[i] = true ∧ ∀ x ∈ l.take i, p x = false
  | [], o => .inl ⟨rfl, fun x hx => by simp at hx⟩
  | a :: l, o => by
    rw [idxN_cons]
    by_cases h : p a = true
    · rw [if_pos h]
      exact .inr ⟨0, by simp, by simp, h, fun x hx => by simp at hx⟩
    · rw [if_neg h]
      rcases idxN_spec p l (o + 1) with ⟨h1, h2⟩ | ⟨i, hi, h1, h2, h3⟩
      · refine .inl ⟨h1, fun x hx => ?_⟩
        rcases List.mem_cons.1 hx with e | e
        · rw [e]; exact Bool.eq_false_iff.2 h
        · exact h2 x e
      · refine .inr ⟨i + 1, by simp; omega, by rw [h1]; congr 1; omega, by simpa using h2, fun x hx => ?_⟩
        rw [List.take_succ_cons] at hx
        rcases List.mem_cons.1 hx with e | e
        · rw [e]; exact Bool.eq_false_iff.2 h
        · exact h3 x e
theorem impl_Add_41.loop {l m : List S48} (hl : l.length ≤ 1048576) (hm : m.length ≤ 1048576) : ∀ (d j : Nat) (x0 : List S48) (i : Nat), j + d = l.length → i + 1 ≤ j → x0.length = l.length → x0.take i = (l.take j).filter (fun x => !(m.any (eqA x))) →
    (∀ q, j ≤ q → q < l.length → rd_T48 x0 (q : Int) = rd_T48 l (q : Int)) → Ev (fun k => impl_Add_41.l0 k m x0 (i : Int) (j : Int)) (l.filter (fun x => !(m.any (eqA x))))
  | 0, j, x0, i, hd, hi, hx, ht, hr => by
    refine Ev.step (fun k => by rw [impl_Add_41.l0]) (Ev.neg (by omega) (Ev.pos (by omega) (Ev.pos (by omega) (Ev.some ?_))))
    rw [Int.toNat_natCast, ht, List.take_of_length_le (by omega)]
  | d + 1, j, x0, i, hd, hi, hx, ht, hr => by
    have hlt : j < l.length := by omega
    have a1 : rd_T48 x0 (j : Int) = l[j] := (hr j (by omega) (by omega)).trans (rdA hlt)
    have ej : wrap64 ((j : Int) + 1) = ((j + 1 : Nat) : Int) := by rw [w64 (by omega) (by omega)]; omega
    have ei : wrap64 ((i : Int) + 1) = ((i + 1 : Nat) : Int) := by rw [w64 (by omega) (by omega)]; omega
    have tk := take_snoc l hlt
    refine Ev.step (fun k => by rw [impl_Add_41.l0]) ?_
    simp only [a1, ej, ei]
    clear a1 ej ei
    refine Ev.pos (by omega) (Ev.pos (by omega) (Ev.bind (impl_Add_43.ev m l[j] hm) ?_))
    cases hq : m.any (eqA l[j]) with
    | true =>
      refine Ev.pos rfl (impl_Add_41.loop hl hm d (j + 1) x0 i (by omega) (by omega) hx ?_ (fun q h1 h2 => hr q (by omega) h2))
      rw [tk, List.filter_append, ht]
      simp [hq]
    | false =>
      refine Ev.neg (by simp) (Ev.pos (by omega) (Ev.pos (by omega) ?_))
      rw [Int.toNat_natCast]
      refine impl_Add_41.loop hl hm d (j + 1) (x0.set i l[j]) (i + 1) (by omega) (by omega) (by simpa using hx) ?_ (fun q h1 h2 => ?_)
      · rw [tk, List.filter_append, ← ht, List.take_succ_eq_append_getElem (by simp; omega), List.getElem_set_self, List.take_set_of_le (Nat.le_refl _)]
        simp [hq]
      · have := hr q (by omega) h2
        rw [← this]
        simp only [rd_T48, Int.toNat_natCast, List.getD_eq_getElem?_getD, List.getElem?_set]
        rw [if_neg (by omega)]
theorem filter_same {l : List S48} {p : S48 → Bool} (h : ∀ x ∈ l, p x = false) : l.filter (fun x => !(p x)) = l := List.filter_eq_self.2 (fun x hx => by rw [h x hx]; rfl)
theorem impl_Add_41.ev (l m : List S48) (hl : l.length ≤ 1048576) (hm : m.length ≤ 1048576) : Ev (fun k => impl_Add_41.f k l m) (l.filter (fun x => !(m.any (eqA x)))) := by
  unfold impl_Add_41.f
  refine Ev.bind (idxO_Ev (F := fun k x => impl_Add_43.f k m x.f0 x.f1 x.f2) (p := fun x => m.any (eqA x)) l 0 (fun x _ => impl_Add_43.ev m x hm)) ?_
  rcases idxN_spec (fun x => m.any (eqA x)) l 0 with ⟨h1, h2⟩ | ⟨i, hi, h1, h2, h3⟩
  · refine Ev.pos h1 (Ev.some ?_)
    exact (filter_same (p := fun x => m.any (eqA x)) h2).symm
  · rw [h1, Nat.zero_add]
    refine Ev.neg (by omega) ?_
    rw [w64 (by omega) (by omega), show (i : Int) + 1 = ((i + 1 : Nat) : Int) by omega]
    refine impl_Add_41.loop hl hm (l.length - (i + 1)) (i + 1) l i (by omega) (Nat.le_refl _) rfl ?_ (fun _ _ _ => rfl)
    rw [take_snoc l hi, List.filter_append, filter_same (p := fun x => m.any (eqA x)) h3]
    simp [h2]
/-! two bags put together -/
theorem putA_memK (l : List S48) (x : S48) (hn : ∀ y, y ∈ l → Sk y x → y = x) (z : S48) : z ∈ putA l x ↔ z = x ∨ z ∈ l := by
  refine ⟨putA_sub l x z, ?_⟩
  induction l with
  | nil => intro h; simpa [putA] using h
  | cons y ys ih =>
    have ih := ih (fun w hw => hn w (List.mem_cons_of_mem _ hw))
    unfold putA
    split
    · rintro (e | e)
      · exact List.mem_cons_of_mem _ (ih (.inl e))
      · rcases List.mem_cons.1 e with e | e
        · rw [e]; exact List.mem_cons_self ..
        · exact List.mem_cons_of_mem _ (ih (.inr e))
    · split
      · rename_i h
        have hy := hn y (List.mem_cons_self ..) ((sameA_iff y x).1 h)
        rintro (e | e)
        · rw [e]; exact List.mem_cons_self ..
        · rw [← hy]; exact e
      · rintro (e | e)
        · rw [e]; exact List.mem_cons_self ..
        · exact List.mem_cons_of_mem _ e
theorem foldK (xs : List S48) : ∀ l : List S48, sortedP l → (∀ x, x ∈ xs ++ l → ∀ y, y ∈ xs ++ l → Sk x y → x = y) → sortedP (xs.foldl putA l) ∧ ∀ z, z ∈ xs.foldl putA l ↔ z ∈ xs ∨ z ∈ l := by
  induction xs with
  | nil => intro l h _; exact ⟨h, by simp⟩
  | cons a xs ih =>
    intro l h hK
    have hm := putA_memK l a (fun y hy hs => hK y (List.mem_append.2 (.inr hy)) a (by simp) hs)
    have hsub : ∀ x, x ∈ xs ++ putA l a → x ∈ a :: xs ++ l := by
      intro x hx
      rcases List.mem_append.1 hx with e | e
      · exact List.mem_append.2 (.inl (List.mem_cons_of_mem _ e))
      · rcases (hm x).1 e with e | e
        · rw [e]; simp
        · exact List.mem_append.2 (.inr e)
    obtain ⟨h1, h2⟩ := ih (putA l a) (putA_sorted l a h) (fun x hx y hy => hK x (hsub x hx) y (hsub y hy))
    refine ⟨h1, fun z => ?_⟩
    show z ∈ xs.foldl putA (putA l a) ↔ _
    rw [h2, hm, List.mem_cons]
    constructor
    · rintro (h | h | h)
      · exact .inl (.inr h)
      · exact .inl (.inl h)
      · exact .inr h
    · rintro ((h | h) | h)
      · exact .inr (.inl h)
      · exact .inl h
      · exact .inr (.inr h)
theorem fold_length (xs : List S48) : ∀ l : List S48, (xs.foldl putA l).length ≤ l.length + xs.length := by
  induction xs with
  | nil => intro l; simp
  | cons a xs ih =>
    intro l
    have h1 := ih (putA l a)
    have h2 := putA_length l a
    simp only [List.foldl_cons, List.length_cons]
    omega
theorem fold_sub (xs : List S48) : ∀ (l : List S48) (z : S48), z ∈ xs.foldl putA l → z ∈ xs ∨ z ∈ l := by
  induction xs with
  | nil => intro l z h; exact .inr h
  | cons a xs ih =>
    intro l z h
    rcases ih (putA l a) z h with h | h
    · exact .inl (List.mem_cons_of_mem _ h)
    · rcases putA_sub l a z h with h | h
      · exact .inl (by rw [h]; exact List.mem_cons_self ..)
      · exact .inr h
theorem goodA_facts (l : List S48) (h : goodA l = true) : l.length ≤ 40 ∧ sortedP l := by
  unfold goodA at h
  obtain ⟨h1, h2⟩ := Bool.and_eq_true_iff.1 h
  refine ⟨of_decide_eq_true h2, List.pairwise_iff_getElem.2 ?_⟩
  have h3 := allFrom_iff.1 h1
  have step : ∀ i, (hi : i + 1 < l.length) → Rk l[i] l[i + 1] := by
    intro i hi
    have h4 := h3 (i + 1) (by omega) hi
    unfold okAt at h4
    have h5 := (Bool.and_eq_true_iff.1 h4).2
    rw [decide_eq_false (by omega : ¬ (i + 1 = 0)), Bool.false_or] at h5
    have e1 : rd_T48 l (((i + 1 : Nat) : Int) - 1) = l[i] := by
      rw [show ((i + 1 : Nat) : Int) - 1 = (i : Int) by omega]; exact getD_nat l _ (by omega)
    have e2 : rd_T48 l ((i + 1 : Nat) : Int) = l[i + 1] := getD_nat l _ hi
    rw [e1, e2] at h5
    exact (lessA_iff _ _).1 h5
  intro i j hi hj hij
  obtain ⟨d, rfl⟩ : ∃ d, j = i + 1 + d := ⟨j - (i + 1), by omega⟩
  clear hij
  induction d with
  | zero => exact step i hj
  | succ d ih => exact (ih (by omega)).trans (step (i + 1 + d) hj)
theorem goodB_facts (a g : List S48) (h : goodB a g = true) : a.length ≤ 40 ∧ g.length ≤ 40 ∧ sortedP a ∧ sortedP g ∧ ∀ x, x ∈ a → ∀ y, y ∈ g → ¬ Sk x y := by
  unfold goodB at h
  obtain ⟨h1, h2⟩ := Bool.and_eq_true_iff.1 h
  obtain ⟨h3, h4⟩ := Bool.and_eq_true_iff.1 h2
  obtain ⟨a1, a2⟩ := goodA_facts a h3
  obtain ⟨g1, g2⟩ := goodA_facts g h4
  refine ⟨a1, g1, a2, g2, fun x hx y hy hs => ?_⟩
  have h5 := List.all_eq_true.1 h1 x hx
  have h6 : g.any (fun y => sameA x y) = true := List.any_eq_true.2 ⟨y, hy, (sameA_iff x y).2 hs⟩
  rw [h6] at h5
  cases h5
/-- Two that clash: of one key, with unlike values. -/
def clA (o x : S48) : Bool := sameA o x && !(decide (o.f0.toList = x.f0.toList))
theorem clA_iff (o x : S48) : clA o x = true ↔ Sk o x ∧ o ≠ x := by
  unfold clA
  rw [Bool.and_eq_true, sameA_iff, Bool.not_eq_true', decide_eq_false_iff_not]
  constructor
  · rintro ⟨h1, h2⟩; exact ⟨h1, fun e => h2 (by rw [e])⟩
  · rintro ⟨h1, h2⟩
    refine ⟨h1, fun e => h2 ?_⟩
    have := toList_same e
    obtain ⟨k1, k2⟩ := h1
    cases o; cases x
    simp only at this k1 k2
    rw [this, k1, k2]
def clashB (l m : List S48) : Bool := l.any (fun x => m.any (fun y => clA x y))
theorem clashB_iff (l m : List S48) : clashB l m = true ↔ ∃ x, x ∈ l ∧ ∃ y, y ∈ m ∧ Sk x y ∧ x ≠ y := by
  unfold clashB
  rw [List.any_eq_true]
  constructor
  · rintro ⟨x, hx, h⟩
    obtain ⟨y, hy, h2⟩ := List.any_eq_true.1 h
    exact ⟨x, hx, y, hy, (clA_iff x y).1 h2⟩
  · rintro ⟨x, hx, y, hy, h2⟩
    exact ⟨x, hx, List.any_eq_true.2 ⟨y, hy, (clA_iff x y).2 h2⟩⟩
def goneS (g h : List S48) : List S48 := h.foldl putA g
def addsS (G a b : List S48) : List S48 := ((a ++ b).filter (fun x => !(G.any (fun y => sameA x y)))).foldl putA []
def clash4 (a g b h : List S48) : Bool := clashB a b || (clashB a h || (clashB g b || clashB g h))
/-- The bag of two. -/
def mergeR (a g b h : List S48) : List S48 × List S48 × Bool :=
  if goodB a g = true ∧ goodB b h = true ∧ clash4 a g b h = false then (if goodB (addsS (goneS g h) a b) (goneS g h) = true then (addsS (goneS g h) a b, goneS g h, true) else ([], [], false)) else ([], [], false)
theorem ok_gone {g h : List S48} (hg : okL48 g) (hh : okL48 h) (l1 : g.length ≤ 40) (l2 : h.length ≤ 40) : okL48 (goneS g h) ∧ (goneS g h).length ≤ 80 := by
  have h3 := fold_length h g
  refine ⟨⟨by unfold goneS; omega, fun z hz => ?_⟩, by unfold goneS; omega⟩
  rcases fold_sub _ _ z hz with e | e
  · exact hh.2 z e
  · exact hg.2 z e
theorem ok_adds {a b G : List S48} (ha : okL48 a) (hb : okL48 b) (l1 : a.length ≤ 40) (l2 : b.length ≤ 40) : okL48 (addsS G a b) ∧ (addsS G a b).length ≤ 80 := by
  have h3 := fold_length ((a ++ b).filter (fun x => !(G.any (fun y => sameA x y)))) []
  have h4 : ((a ++ b).filter (fun x => !(G.any (fun y => sameA x y)))).length ≤ (a ++ b).length := List.length_filter_le _ _
  have h5 : (a ++ b).length = a.length + b.length := List.length_append
  have h6 : ([] : List S48).length = 0 := rfl
  refine ⟨⟨by unfold addsS; omega, fun z hz => ?_⟩, by unfold addsS; omega⟩
  rcases fold_sub _ _ z hz with e | e
  · rcases List.mem_append.1 (List.mem_filter.1 e).1 with e | e
    · exact ha.2 z e
    · exact hb.2 z e
  · simp at e
/-! the reference -/
theorem spec_l14Clash.ev (l m : List S48) (hl : l.length ≤ 1048576) (hm : m.length ≤ 1048576) : Ev (fun k => spec_l14Clash.f k l m) (clashB l m) := by
  unfold spec_l14Clash.f
  refine Ev.eq (Ev.up (g := fun k i => spec_l14Clash.l0 k m l (l.length : Int) i) l.length (fun i => clashB (l.drop i) m) ?_) (by simp)
  intro i hi ih
  refine Ev.step (fun k => by rw [spec_l14Clash.l0]) ?_
  by_cases hlt : i < l.length
  · have ih := ih hlt
    have e : clashB (l.drop i) m = (m.any (fun y => clA l[i] y) || clashB (l.drop (i + 1)) m) := by
      unfold clashB; rw [List.drop_eq_getElem_cons hlt, List.any_cons]
    rw [e, rdA hlt]
    generalize l[i] = z
    generalize clashB (l.drop (i + 1)) m = q at ih ⊢
    refine Ev.pos (by omega) (Ev.pos (by omega) (Ev.pos (by omega) ?_))
    refine Ev.eq (Ev.up (g := fun k j => spec_l14Clash.l1 k m l (l.length : Int) (i : Int) m (m.length : Int) j z.f0 z.f1 z.f2) m.length (fun j => (m.drop j).any (fun y => clA z y) || q) ?_) (by simp)
    intro j hj jh
    refine Ev.step (fun k => by rw [spec_l14Clash.l1]) ?_
    by_cases hjl : j < m.length
    · have jh := jh hjl
      rw [List.drop_eq_getElem_cons hjl, List.any_cons, rdA hjl, w64_succ hjl (by omega)]
      refine Ev.pos (by omega) (Ev.pos (by omega) (Ev.pos (by omega) (Ev.bindS (spec_l14Same.ev z m[j]) ?_)))
      unfold clA
      refine Ev.cases (fun h1 => ?_) (fun h1 => ?_)
      · rw [h1]
        refine Ev.cases (fun h2 => ?_) (fun h2 => Ev.some ?_)
        · rw [decide_eq_true h2]; simpa [clA] using jh
        · rw [decide_eq_false h2]; simp
      · rw [Bool.eq_false_iff.2 h1]; simpa [clA] using jh
    · refine Ev.neg (by omega) ?_
      rw [w64_succ hlt (by omega), List.drop_of_length_le (by omega)]
      simpa using ih
  · refine Ev.neg (by omega) (Ev.some ?_)
    rw [List.drop_of_length_le (by omega)]; rfl
theorem spec_l14Has.ev (l : List S48) (x : S48) (hl : l.length ≤ 1048576) : Ev (fun k => spec_l14Has.f k l x.f0 x.f1 x.f2) (l.any (fun y => sameA x y)) := by
  unfold spec_l14Has.f
  refine Ev.eq (Ev.up (g := fun k i => spec_l14Has.l0 k l (l.length : Int) i x.f0 x.f1 x.f2) l.length (fun i => (l.drop i).any (fun y => sameA x y)) ?_) (by simp)
  intro i hi ih
  refine Ev.step (fun k => by rw [spec_l14Has.l0]) ?_
  by_cases hlt : i < l.length
  · have ih := ih hlt
    rw [List.drop_eq_getElem_cons hlt, List.any_cons, rdA hlt, w64_succ hlt (by omega)]
    refine Ev.pos (by omega) (Ev.pos (by omega) (Ev.pos (by omega) (Ev.bindS (spec_l14Same.ev x l[i]) ?_)))
    exact Ev.cases (fun h => Ev.some (by rw [h]; rfl)) (fun h => Ev.eq ih (by rw [Bool.eq_false_iff.2 h]; rfl))
  · refine Ev.neg (by omega) (Ev.some ?_)
    rw [List.drop_of_length_le (by omega)]; rfl
/-- One row's adds put into what there is. -/
def stepS (G : List S48) (A : List S48) (x : S48) : List S48 := if G.any (fun y => sameA x y) = true then A else putA A x
theorem stepS_fold (G : List S48) : ∀ (xs A : List S48), xs.foldl (stepS G) A = (xs.filter (fun x => !(G.any (fun y => sameA x y)))).foldl putA A
  | [], A => rfl
  | x :: xs, A => by
    rw [List.foldl_cons, stepS_fold G xs, List.filter_cons]
    unfold stepS
    by_cases h : G.any (fun y => sameA x y) = true
    · rw [if_pos h, h]; rfl
    · rw [if_neg h, Bool.eq_false_iff.2 h]; rfl
theorem stepS_len (G : List S48) : ∀ (xs A : List S48), (xs.foldl (stepS G) A).length ≤ A.length + xs.length
  | [], A => by simp
  | x :: xs, A => by
    rw [List.foldl_cons]
    have h1 := stepS_len G xs (stepS G A x)
    have h2 := putA_length A x
    have h3 : (stepS G A x).length ≤ A.length + 1 := by unfold stepS; split <;> omega
    rw [List.length_cons]; omega
theorem spec_MergeBag.inner (rows : List (List S48)) (n i : Int) (R G : List S48) (hR : R.length ≤ 40) (hG : G.length ≤ 1000) {r : List S48 × List S48 × Bool} :
    ∀ (d j : Nat) (A : List S48), j + d = R.length → A.length + (R.length - j) ≤ 1000 → Ev (fun k => spec_MergeBag.l1 k rows n (wrap64 (i + 1)) ((R.drop j).foldl (stepS G) A) G) r → Ev (fun k => spec_MergeBag.l2 k rows n i R (R.length : Int) (j : Int) A G) r
  | 0, j, A, hj, hA, h => by
    rw [List.drop_of_length_le (by omega)] at h
    refine Ev.step (fun k => by rw [spec_MergeBag.l2]) ?_
    exact Ev.neg (by omega) h
  | d + 1, j, A, hj, hA, h => by
    have hlt : j < R.length := by omega
    rw [List.drop_eq_getElem_cons hlt, List.foldl_cons] at h
    have hp := putA_length A R[j]
    have ih := fun A' (hA' : A'.length + (R.length - (j + 1)) ≤ 1000) h' => spec_MergeBag.inner rows n i R G hR hG (r := r) d (j + 1) A' (by omega) hA' h'
    refine Ev.step (fun k => by rw [spec_MergeBag.l2]) ?_
    rw [rdA hlt, w64_succ hlt (by omega)]
    refine Ev.pos (by omega) (Ev.pos (by omega) (Ev.pos (by omega) (Ev.bind (spec_l14Has.ev G R[j] (by omega)) ?_)))
    unfold stepS at h
    refine Ev.cases (fun c => ?_) (fun c => ?_)
    · rw [if_pos c] at h; exact ih A (by omega) h
    · rw [if_neg c] at h
      exact Ev.bind (spec_l14Put.ev A R[j] (by omega)) (ih _ (by omega) h)
theorem spec_MergeBag.ev (a g b h : List S48) (oa : okL48 a) (og : okL48 g) (ob : okL48 b) (oh : okL48 h) : Ev (fun k => spec_MergeBag.f k a g b h) (mergeR a g b h) := by
  have no : ∀ a1 a2 a3 a4 : List S48, Ev (fun k => spec_MergeBag.j0 k true a1 a2 a3 a4) ([], [], false) := fun a1 a2 a3 a4 => Ev.step (fun k => by rw [spec_MergeBag.j0]) (Ev.pos rfl (Ev.now _))
  have la := oa.1
  have lg := og.1
  have lb := ob.1
  have lh := oh.1
  unfold spec_MergeBag.f mergeR
  refine Ev.bind (spec_GoodBag.ev a g oa og (txt_of oa) (txt_of og)) ?_
  refine Ev.cases (fun h1 => ?_) (fun h1 => by rw [if_neg (fun z => h1 z.1)]; exact no _ _ _ _)
  refine Ev.bind (spec_GoodBag.ev b h ob oh (txt_of ob) (txt_of oh)) ?_
  refine Ev.cases (fun h2 => ?_) (fun h2 => by rw [if_neg (fun z => h2 z.2.1)]; exact no _ _ _ _)
  refine Ev.bind (spec_l14Clash.ev a b la lb) ?_
  refine Ev.cases (fun h3 => by rw [if_neg (fun z => by have := z.2.2; unfold clash4 at this; rw [h3] at this; simp at this)]; exact no _ _ _ _) (fun h3 => ?_)
  refine Ev.bind (spec_l14Clash.ev a h la lh) ?_
  refine Ev.cases (fun h4 => by rw [if_neg (fun z => by have := z.2.2; unfold clash4 at this; rw [h4] at this; simp at this)]; exact no _ _ _ _) (fun h4 => ?_)
  refine Ev.bind (spec_l14Clash.ev g b lg lb) ?_
  refine Ev.cases (fun h5 => by rw [if_neg (fun z => by have := z.2.2; unfold clash4 at this; rw [h5] at this; simp at this)]; exact no _ _ _ _) (fun h5 => ?_)
  refine Ev.bind (spec_l14Clash.ev g h lg lh) ?_
  cases h6 : clashB g h with
  | true => rw [if_neg (fun z => by have := z.2.2; unfold clash4 at this; rw [h6] at this; simp at this)]; exact no _ _ _ _
  | false =>
    rw [if_pos ⟨h1, h2, by unfold clash4; rw [Bool.eq_false_iff.2 h3, Bool.eq_false_iff.2 h4, Bool.eq_false_iff.2 h5, h6]; rfl⟩]
    obtain ⟨a1, g1, _⟩ := goodB_facts a g h1
    obtain ⟨b1, e1, _⟩ := goodB_facts b h h2
    obtain ⟨oG, lG⟩ := ok_gone og oh g1 e1
    obtain ⟨oA, lA⟩ := ok_adds (G := goneS g h) oa ob a1 b1
    refine Ev.step (fun k => by rw [spec_MergeBag.j0]) ?_
    refine Ev.neg (by simp) (Ev.bindS rfl ?_)
    refine Ev.pos (by simp; omega) ?_
    rw [List.nil_append]
    have key : ∀ d i : Nat, i + d = h.length → Ev (fun k => spec_MergeBag.l0 k h (h.length : Int) (i : Int) a g b h ((h.take i).foldl putA g)) (if goodB (addsS (goneS g h) a b) (goneS g h) = true then (addsS (goneS g h) a b, goneS g h, true) else ([], [], false)) := by
      intro d
      induction d with
      | zero =>
        intro i hi
        rw [List.take_of_length_le (by omega)]
        refine Ev.step (fun k => by rw [spec_MergeBag.l0]) (Ev.neg (by omega) (Ev.bindS rfl ?_))
        show Ev (fun k => spec_MergeBag.l1 k [a, b] 2 0 [] (goneS g h)) _
        have r0 : rd_L6 [a, b] 0 = a := rfl
        have r1 : rd_L6 [a, b] 1 = b := rfl
        refine Ev.step (fun k => by rw [spec_MergeBag.l1]) (Ev.pos (by omega) (Ev.pos (by omega) (Ev.pos (by simp) ?_)))
        rw [r0]
        refine spec_MergeBag.inner [a, b] 2 0 a (goneS g h) a1 (by omega) a.length 0 [] (by omega) (by simp; omega) ?_
        rw [List.drop_zero, show wrap64 (0 + 1) = 1 by unfold wrap64; omega]
        have q1 := stepS_len (goneS g h) a []
        have q0 : ([] : List S48).length = 0 := rfl
        refine Ev.step (fun k => by rw [spec_MergeBag.l1]) (Ev.pos (by omega) (Ev.pos (by omega) (Ev.pos (by simp) ?_)))
        rw [r1]
        refine spec_MergeBag.inner [a, b] 2 1 b (goneS g h) b1 (by omega) b.length 0 _ (by omega) (by omega) ?_
        rw [List.drop_zero, show wrap64 (1 + 1) = 2 by unfold wrap64; omega]
        have ef : b.foldl (stepS (goneS g h)) (a.foldl (stepS (goneS g h)) []) = addsS (goneS g h) a b := by
          rw [← List.foldl_append, stepS_fold]; rfl
        rw [ef]
        refine Ev.step (fun k => by rw [spec_MergeBag.l1]) (Ev.neg (by omega) ?_)
        refine Ev.bind (spec_GoodBag.ev _ _ oA oG (txt_of oA) (txt_of oG)) ?_
        exact Ev.cases (fun z => Ev.some (by rw [if_pos z])) (fun z => Ev.some (by rw [if_neg z]))
      | succ d ih =>
        intro i hi
        have hlt : i < h.length := by omega
        have ih := ih (i + 1) (by omega)
        have q := fold_length (h.take i) g
        have q2 : (h.take i).length ≤ h.length := by simp; omega
        rw [take_snoc h hlt, List.foldl_append] at ih
        refine Ev.step (fun k => by rw [spec_MergeBag.l0]) ?_
        rw [rdA hlt, w64_succ hlt (by omega)]
        exact Ev.pos (by omega) (Ev.pos (by omega) (Ev.pos (by omega) (Ev.bind (spec_l14Put.ev _ h[i] (by omega)) ih)))
    exact key h.length 0 (by omega)
/-! the program -/
theorem impl_MergeBag_1.ev (o x : S48) : Ev (fun k => impl_MergeBag_1.f k o.f0 o.f1 o.f2 x.f0 x.f1 x.f2) (clA o x) := by
  unfold impl_MergeBag_1.f
  refine Ev.bind (impl_compareAdds.ev o x) ?_
  have e := cmpA_eq o x
  unfold clA
  refine Ev.cases (fun h => Ev.some ?_) (fun h => Ev.some ?_)
  · rw [← e, h]
    by_cases c : o.f0.toList = x.f0.toList
    · simp [c]
    · simp [c]
  · rw [← e]; simp [h]
theorem has_impl_MergeBag_1.ev (l : List S48) (x : S48) : Ev (fun k => has_impl_MergeBag_1.f k l x.f0 x.f1 x.f2) (l.any (fun o => clA o x)) := by
  unfold has_impl_MergeBag_1.f
  exact idxAny_Ev (fun o _ => impl_MergeBag_1.ev o x)
/-- What is ahead of place q does not clash with it. -/
def calm (y : List S48) (q : Nat) : Bool := !((y.take q).any (fun o => clA o (rd_T48 y (q : Int))))
theorem calm_iff (y : List S48) : allFrom (calm y) y.length 0 = true ↔ y.Pairwise (fun o x => ¬ (Sk o x ∧ o ≠ x)) := by
  rw [allFrom_iff, List.pairwise_iff_getElem]
  constructor
  · intro h i j hi hj hij hc
    have h1 := h j (by omega) hj
    unfold calm at h1
    rw [Bool.not_eq_true', List.any_eq_false, rdA hj] at h1
    refine h1 y[i] ?_ ((clA_iff _ _).2 hc)
    have : y[i] = (y.take j)[i]'(by simp; omega) := by simp
    rw [this]; exact List.getElem_mem _
  · intro h j _ hj
    unfold calm
    rw [Bool.not_eq_true', List.any_eq_false, rdA hj]
    intro o ho hc
    obtain ⟨i, hi, rfl⟩ := List.getElem_of_mem ho
    have hi' : i < j := by simp at hi; omega
    have := h i j (by omega) hj hi'
    rw [List.getElem_take] at hc
    exact this ((clA_iff _ _).1 hc)
theorem calm_clash {a g b h : List S48} (h1 : goodB a g = true) (h2 : goodB b h = true) : allFrom (calm (((a ++ g) ++ b) ++ h)) (((a ++ g) ++ b) ++ h).length 0 = !(clash4 a g b h) := by
  obtain ⟨_, _, sa, sg, da⟩ := goodB_facts a g h1
  obtain ⟨_, _, sb, sh, db⟩ := goodB_facts b h h2
  have own : ∀ l : List S48, sortedP l → l.Pairwise (fun o x => ¬ (Sk o x ∧ o ≠ x)) := fun l hl => hl.imp (fun {x y} hr hc => by obtain ⟨q, _⟩ := hc; unfold Rk Sk at *; omega)
  rw [Bool.eq_iff_iff, calm_iff, Bool.not_eq_true']
  have c4 : clash4 a g b h = false ↔ (∀ x, x ∈ a → ∀ y, y ∈ b → ¬ (Sk x y ∧ x ≠ y)) ∧ (∀ x, x ∈ a → ∀ y, y ∈ h → ¬ (Sk x y ∧ x ≠ y)) ∧ (∀ x, x ∈ g → ∀ y, y ∈ b → ¬ (Sk x y ∧ x ≠ y)) ∧ (∀ x, x ∈ g → ∀ y, y ∈ h → ¬ (Sk x y ∧ x ≠ y)) := by
    have one : ∀ l m : List S48, clashB l m = false ↔ ∀ x, x ∈ l → ∀ y, y ∈ m → ¬ (Sk x y ∧ x ≠ y) := by
      intro l m
      rw [← Bool.not_eq_true, clashB_iff]
      exact ⟨fun q x hx y hy hc => q ⟨x, hx, y, hy, hc⟩, fun q ⟨x, hx, y, hy, hc⟩ => q x hx y hy hc⟩
    unfold clash4
    rw [Bool.or_eq_false_iff, Bool.or_eq_false_iff, Bool.or_eq_false_iff, one, one, one, one]
  rw [c4]
  simp only [List.pairwise_append, List.mem_append]
  constructor
  · rintro ⟨⟨_, _, p1⟩, _, p2⟩
    exact ⟨fun x hx y hy => p1 x (.inl hx) y hy, fun x hx y hy => p2 x (.inl (.inl hx)) y hy, fun x hx y hy => p1 x (.inr hx) y hy, fun x hx y hy => p2 x (.inl (.inr hx)) y hy⟩
  · rintro ⟨p1, p2, p3, p4⟩
    refine ⟨⟨⟨own a sa, own g sg, fun x hx y hy hc => da x hx y hy hc.1⟩, own b sb, fun x hx y hy => hx.elim (fun z => p1 x z y hy) (fun z => p3 x z y hy)⟩, own h sh, fun x hx y hy hc => ?_⟩
    rcases hx with (z | z) | z
    · exact p2 x z y hy hc
    · exact p4 x z y hy hc
    · exact db x z y hy hc.1
/-- Without a clash, the program's rows are the reference's. -/
theorem merge_same {a g b h : List S48} (h1 : goodB a g = true) (h2 : goodB b h = true) (hc : clash4 a g b h = false) : csA (g ++ h) = goneS g h ∧ csA ((a ++ b).filter (fun x => !((g ++ h).any (eqA x)))) = addsS (goneS g h) a b := by
  obtain ⟨_, _, sa, sg, da⟩ := goodB_facts a g h1
  obtain ⟨_, _, sb, sh, db⟩ := goodB_facts b h h2
  have hp : (((a ++ g) ++ b) ++ h).Pairwise (fun o x => ¬ (Sk o x ∧ o ≠ x)) := (calm_iff _).1 (by rw [calm_clash h1 h2, hc]; rfl)
  have hK : ∀ x, x ∈ ((a ++ g) ++ b) ++ h → ∀ y, y ∈ ((a ++ g) ++ b) ++ h → Sk x y → x = y := by
    intro x hx y hy hs
    obtain ⟨i, hi, rfl⟩ := List.getElem_of_mem hx
    obtain ⟨j, hj, rfl⟩ := List.getElem_of_mem hy
    have hq := List.pairwise_iff_getElem.1 hp
    rcases Nat.lt_trichotomy i j with q | q | q
    · exact Classical.byContradiction fun hne => hq i j hi hj q ⟨hs, hne⟩
    · subst q; rfl
    · exact Classical.byContradiction fun hne => hq j i hj hi q ⟨⟨hs.1.symm, hs.2.symm⟩, fun e => hne e.symm⟩
  have inA : ∀ x, x ∈ a ++ b → x ∈ ((a ++ g) ++ b) ++ h := fun x hx => by
    rcases List.mem_append.1 hx with e | e <;> simp [e]
  have inG : ∀ x, x ∈ g ++ h → x ∈ ((a ++ g) ++ b) ++ h := fun x hx => by
    rcases List.mem_append.1 hx with e | e <;> simp [e]
  have inG' : ∀ x, x ∈ h ++ g → x ∈ ((a ++ g) ++ b) ++ h := fun x hx => inG x (by
    rcases List.mem_append.1 hx with e | e <;> simp [e])
  obtain ⟨f1, f2⟩ := foldK h g sg (fun x hx y hy => hK x (inG' x hx) y (inG' y hy))
  obtain ⟨c1, c2⟩ := csA_facts (A := g ++ h) (fun x hx y hy => hK x (inG x hx) y (inG y hy))
  have eG : csA (g ++ h) = goneS g h := by
    refine uniqP _ _ c1 f1 (fun z => ?_)
    rw [c2, List.mem_append]
    show _ ↔ z ∈ h.foldl putA g
    rw [f2]; exact Or.comm
  refine ⟨eG, ?_⟩
  have hfil : (a ++ b).filter (fun x => !((g ++ h).any (eqA x))) = (a ++ b).filter (fun x => !((goneS g h).any (fun y => sameA x y))) := by
    refine List.filter_congr (fun x hx => ?_)
    congr 1
    rw [Bool.eq_iff_iff, List.any_eq_true, List.any_eq_true]
    constructor
    · rintro ⟨y, hy, e⟩
      have e := (eqA_iff x y).1 e
      subst e
      exact ⟨x, by rw [← eG]; exact (c2 x).2 hy, (sameA_iff x x).2 ⟨rfl, rfl⟩⟩
    · rintro ⟨y, hy, e⟩
      rw [← eG] at hy
      have hy := (c2 y).1 hy
      have := hK x (inA x hx) y (inG y hy) ((sameA_iff x y).1 e)
      exact ⟨y, hy, (eqA_iff x y).2 this⟩
  rw [hfil]
  generalize hF : (a ++ b).filter (fun x => !((goneS g h).any (fun y => sameA x y))) = F
  have inF : ∀ x, x ∈ F → x ∈ ((a ++ g) ++ b) ++ h := fun x hx => inA x (by rw [← hF] at hx; exact (List.mem_filter.1 hx).1)
  obtain ⟨k1, k2⟩ := csA_facts (A := F) (fun x hx y hy => hK x (inF x hx) y (inF y hy))
  obtain ⟨m1, m2⟩ := foldK F [] List.Pairwise.nil (fun x hx y hy => hK x (inF x (by simpa using hx)) y (inF y (by simpa using hy)))
  show csA F = ((a ++ b).filter (fun x => !((goneS g h).any (fun y => sameA x y)))).foldl putA []
  rw [hF]
  refine uniqP _ _ k1 m1 (fun z => ?_)
  rw [k2, m2]; simp
theorem impl_MergeBag.loop {y a g b h : List S48} (hl : y.length ≤ 1048576) {r : List S48 × List S48 × Bool} (hend : Ev (fun k => impl_MergeBag.l0 k y y (y.length : Int) (y.length : Int) a g b h) r) :
    Ev (fun k => impl_MergeBag.l0 k y y (y.length : Int) 0 a g b h) (if allFrom (calm y) y.length 0 = true then r else ([], [], false)) := by
  refine Ev.up (g := fun k i => impl_MergeBag.l0 k y y (y.length : Int) i a g b h) y.length (fun i => if allFrom (calm y) y.length i = true then r else ([], [], false)) ?_
  intro i hi ih
  by_cases hlt : i < y.length
  · have ih := ih hlt
    refine Ev.step (fun k => by rw [impl_MergeBag.l0]) ?_
    rw [allFrom_step hlt, w64_succ hlt (by omega)]
    refine Ev.pos (by omega) (Ev.pos (by omega) (Ev.pos (by omega) (Ev.pos (by omega) ?_)))
    rw [Int.toNat_natCast]
    refine Ev.bind (has_impl_MergeBag_1.ev (y.take i) (rd_T48 y (i : Int))) ?_
    unfold calm at ih ⊢
    cases hq : (y.take i).any (fun o => clA o (rd_T48 y (i : Int))) with
    | true => exact Ev.pos rfl (Ev.some (by simp))
    | false =>
      refine Ev.neg (by simp) (Ev.eq ih ?_)
      simp
  · have e : i = y.length := by omega
    subst e
    rw [allFrom_end, if_pos rfl]
    exact hend
theorem impl_MergeBag.ev (a g b h : List S48) (oa : okL48 a) (og : okL48 g) (ob : okL48 b) (oh : okL48 h) : Ev (fun k => impl_MergeBag.f k a g b h) (mergeR a g b h) := by
  have no : ∀ a1 a2 a3 a4 : List S48, Ev (fun k => impl_MergeBag.j0 k true a1 a2 a3 a4) ([], [], false) := fun a1 a2 a3 a4 => Ev.step (fun k => by rw [impl_MergeBag.j0]) (Ev.pos rfl (Ev.now _))
  unfold impl_MergeBag.f mergeR
  refine Ev.bind (impl_isBag.ev a g oa og (txt_of oa) (txt_of og)) ?_
  refine Ev.cases (fun h1 => ?_) (fun h1 => by rw [if_neg (fun z => h1 z.1)]; exact no _ _ _ _)
  refine Ev.bind (impl_isBag.ev b h ob oh (txt_of ob) (txt_of oh)) ?_
  by_cases h2 : goodB b h = true
  rotate_left
  · rw [if_neg (fun z => h2 z.2.1), Bool.eq_false_iff.2 h2]
    exact no _ _ _ _
  rw [h2]
  obtain ⟨a1, g1, _⟩ := goodB_facts a g h1
  obtain ⟨b1, e1, _⟩ := goodB_facts b h h2
  refine Ev.step (fun k => by rw [impl_MergeBag.j0]) ?_
  refine Ev.neg (by simp) (Ev.bindS rfl ?_)
  refine Ev.pos (by simp; omega) (Ev.bindS rfl ?_)
  refine Ev.pos (by simp; omega) (Ev.bindS rfl ?_)
  refine Ev.pos (by simp; omega) (Ev.bindS rfl ?_)
  refine Ev.pos (by simp; omega) (Ev.bindS rfl ?_)
  rw [List.nil_append]
  have oG : okL48 (g ++ h) := ⟨by rw [List.length_append]; omega, fun z hz => (List.mem_append.1 hz).elim (og.2 z) (oh.2 z)⟩
  have lF : ((a ++ b).filter (fun x => !((g ++ h).any (eqA x)))).length ≤ (a ++ b).length := List.length_filter_le _ _
  have lab : (a ++ b).length = a.length + b.length := List.length_append
  have oF : okL48 ((a ++ b).filter (fun x => !((g ++ h).any (eqA x)))) := ⟨by omega, fun z hz => (List.mem_append.1 (List.mem_filter.1 hz).1).elim (oa.2 z) (ob.2 z)⟩
  have hend : Ev (fun k => impl_MergeBag.l0 k (a ++ g ++ b ++ h) (a ++ g ++ b ++ h) ((a ++ g ++ b ++ h).length : Int) ((a ++ g ++ b ++ h).length : Int) a g b h) (if goodB (csA ((a ++ b).filter (fun x => !((g ++ h).any (eqA x))))) (csA (g ++ h)) = true then (csA ((a ++ b).filter (fun x => !((g ++ h).any (eqA x)))), csA (g ++ h), true) else ([], [], false)) := by
    refine Ev.step (fun k => by rw [impl_MergeBag.l0]) ?_
    refine Ev.neg (by omega) (Ev.bindS rfl ?_)
    refine Ev.pos (by simp; omega) (Ev.bindS rfl ?_)
    refine Ev.pos (by simp; omega) (Ev.bindS rfl ?_)
    refine Ev.pos (by simp; omega) (Ev.bindS rfl ?_)
    refine Ev.pos (by simp; omega) ?_
    rw [List.nil_append, List.nil_append]
    refine Ev.bind (impl_Add_41.ev (a ++ b) (g ++ h) (by omega) oG.1) (Ev.bind (impl_goodBag.ev _ _ oF oG) ?_)
    exact Ev.now _
  refine Ev.eq (impl_MergeBag.loop (by simp; omega) hend) ?_
  rw [calm_clash h1 h2]
  cases hc : clash4 a g b h with
  | true => rw [if_neg (by simp), if_neg (by simp)]
  | false =>
    obtain ⟨m1, m2⟩ := merge_same h1 h2 hc
    rw [m1, m2, if_pos (by simp), if_pos (show goodB a g = true ∧ true = true ∧ false = false from ⟨h1, rfl, rfl⟩)]
/-! the law -/
theorem laws_markBag.from (a g : List S48) (k0 : Int) (ha : a.length ≤ 1048576) (hg : g.length ≤ 1048576) (h0 : 0 ≤ k0) (h1 : k0 ≤ 1000000000) : ∃ (n : Int) (a' g' : List S48), Ev (fun k => laws_markBag.f k a g k0) (n, a', g') ∧ (0 ≤ n ∧ n ≤ k0 + 6291456) := by
  obtain ⟨a', h2, _⟩ := laws_markAddS.two a k0 (by omega) (by omega)
  obtain ⟨g', h3, _⟩ := laws_markAddS.two g (k0 + 3 * (a.length : Int)) (by omega) (by omega)
  refine ⟨k0 + 3 * (a.length : Int) + 3 * (g.length : Int), a', g', ?_, by omega⟩
  unfold laws_markBag.f; exact Ev.bind h2 (Ev.bind h3 (Ev.now _))
theorem holds_ev (a g b h : List S72) (ha : bigL72 a) (hg : bigL72 g) (hb : bigL72 b) (hh : bigL72 h) : Ev (fun k => laws_FnExactMergeBag.f k a g b h) true := by
  obtain ⟨r, hr, hrl, hsz⟩ := laws_szBag.ev a g 1048576 (by omega) (by omega) ha hg
  unfold laws_FnExactMergeBag.f
  refine Ev.bind hr (Ev.cases (fun _ => Ev.now _) (fun hn => ?_))
  obtain ⟨r2, hr2, _, hsz2⟩ := laws_szBag.ev b h r (by omega) (by omega) hb hh
  refine Ev.bind hr2 (Ev.cases (fun _ => Ev.now _) (fun hn2 => ?_))
  obtain ⟨o1, o2⟩ := hsz (by omega)
  obtain ⟨o3, o4⟩ := hsz2 (by omega)
  have p1 := okL72_map o1
  have p2 := okL72_map o2
  have p3 := okL72_map o3
  have p4 := okL72_map o4
  have t1 := laws_toBag.ev a g o1 o2
  have t2 := laws_toBag.ev b h o3 o4
  have hs := spec_MergeBag.ev _ _ _ _ p1 p2 p3 p4
  have hi := impl_MergeBag.ev _ _ _ _ p1 p2 p3 p4
  obtain ⟨A, G, B, oA, oG, hR⟩ : ∃ A G B, okL48 A ∧ okL48 G ∧ mergeR (a.map c72) (g.map c72) (b.map c72) (h.map c72) = (A, G, B) := by
    have z : okL48 [] := ⟨by simp, fun z hz => by simp at hz⟩
    unfold mergeR
    split
    · rename_i q
      obtain ⟨l1, l2, _⟩ := goodB_facts _ _ q.1
      obtain ⟨l3, l4, _⟩ := goodB_facts _ _ q.2.1
      split
      · exact ⟨_, _, _, (ok_adds p1 p3 l1 l3).1, (ok_gone p2 p4 l2 l4).1, rfl⟩
      · exact ⟨_, _, _, z, z, rfl⟩
    · exact ⟨_, _, _, z, z, rfl⟩
  rw [hR] at hs hi
  have he := laws_eqBag.refl A G oA oG
  obtain ⟨n, A', G', hm, hh2, hn0⟩ := laws_markBag.two A G oA.1 oG.1
  obtain ⟨n2, A2, G2, hm2, hn2⟩ := laws_markBag.from (a.map c72) (g.map c72) 1 p1.1 p2.1 (by omega) (by omega)
  obtain ⟨n3, A3, G3, hm3, hn3⟩ := laws_markBag.from (b.map c72) (h.map c72) n2 p3.1 p4.1 (by omega) (by omega)
  refine Ev.bind t1 (Ev.bind t2 (Ev.bind hs (Ev.bind t1 (Ev.bind t2 (Ev.bind hi (Ev.bind he (Ev.pos rfl ?_)))))))
  dsimp only
  refine Ev.step (fun k => by rw [laws_FnExactMergeBag.j0]) ?_
  refine Ev.neg (by simp) (Ev.bind t1 (Ev.bind (laws_eqBag.refl _ _ p1 p2) (Ev.pos rfl (Ev.bind t2 (Ev.bind (laws_eqBag.refl _ _ p3 p4) (Ev.pos rfl (Ev.bind hm2 (Ev.bind hm3 ?_))))))))
  refine Ev.neg (by show ¬ n3 < 0; omega) (Ev.bind he (Ev.pos rfl ?_))
  refine Ev.step (fun k => by rw [laws_FnExactMergeBag.j1]) ?_
  refine Ev.neg (by simp) (Ev.bind hm (Ev.bind hh2 ?_))
  refine Ev.neg hn0 (Ev.pos rfl (Ev.bind t1 (Ev.bind t2 (Ev.bind hi (Ev.bind he (Ev.pos rfl ?_))))))
  dsimp only
  refine Ev.step (fun k => by rw [laws_FnExactMergeBag.j2]) ?_
  refine Ev.neg (by simp) (Ev.bind hh2 ?_)
  exact Ev.neg hn0 (Ev.pos rfl (Ev.now _))

end Go.Proofs.Ytdnapgnnliibfaa.PMB
namespace Go.Proofs.Ytdnapgnnliibfaa.PureFnExactMergeBag
open Go.RowKit Go.Proofs.Ytdnapgnnliibfaa.PMB Go.Proofs.Ytdnapgnnliibfaa.Base Go.Proofs.Ytdnapgnnliibfaa.Open Go.Proofs.YtdnapgnnliibfaaW.PrintWords Go.Proofs.YtdnapgnnliibfaaW.PrintLast
theorem holds (l0_0 : List S72) (l0_1 : List S72) (l1_0 : List S72) (l1_1 : List S72) (w0 : ((l0_0.length ≤ 9223372036854775807 ∧ ∀ z ∈ l0_0, W72 z) ∧ (l0_1.length ≤ 9223372036854775807 ∧ ∀ z ∈ l0_1, W72 z))) (w1 : ((l1_0.length ≤ 9223372036854775807 ∧ ∀ z ∈ l1_0, W72 z) ∧ (l1_1.length ≤ 9223372036854775807 ∧ ∀ z ∈ l1_1, W72 z))) : ∃ k, Go.Proofs.Ytdnapgnnliibfaa.PMB.laws_FnExactMergeBag.f k l0_0 l0_1 l1_0 l1_1 = some true := by
  exact (holds_ev _ _ _ _ ⟨w0.1.1, fun z hz => (w0.1.2 z hz).1⟩ ⟨w0.2.1, fun z hz => (w0.2.2 z hz).1⟩ ⟨w1.1.1, fun z hz => (w1.1.2 z hz).1⟩ ⟨w1.2.1, fun z hz => (w1.2.2 z hz).1⟩).rounds
end Go.Proofs.Ytdnapgnnliibfaa.PureFnExactMergeBag
