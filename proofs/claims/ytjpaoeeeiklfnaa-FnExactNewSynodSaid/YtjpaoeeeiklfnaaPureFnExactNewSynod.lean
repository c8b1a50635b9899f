/- What this text proves: laws.FnExactNewSynod, told as plain functions of numbers and lists, answers true for all arguments.
   Conditions: the bounds that the typed reading gives. -/
import Derived.Test.YtjpaoeeeiklfnaaPNSx11
import Derived.Test.YtjpaoeeeiklfnaaOpen
import Derived.Test.YtjpaoeeeiklfnaaBase
namespace Go.Proofs.Ytjpaoeeeiklfnaa.PNS
open Go.RowKit Go.Proofs.Ytjpaoeeeiklfnaa.Base Go.Proofs.Ytjpaoeeeiklfnaa.Open Go.Proofs.YtjpaoeeeiklfnaaW.PrintWords Go.Proofs.YtjpaoeeeiklfnaaW.PrintLast Go.Proofs.YtjpaoeeeiklfnaaW.PrintMore
set_option linter.unusedVariables false
set_option linter.unusedSimpArgs false
theorem op3 : Opens Try.prog 3 (Kd.int .i64) (fun x => (Lit.int .i64 x).wf = true) := Opens.int Try.underlying3 (by kernel_rfl)
theorem op9 : Opens Try.prog 9 Kd.string (fun x => x.size ≤ 9223372036854775807) := Opens.string Try.underlying9 (by kernel_rfl)
theorem op27 : Opens Try.prog 27 (Kd.slice 9 Kd.string) (fun x => (x.length ≤ 9223372036854775807 ∧ ∀ z ∈ x, z.size ≤ 9223372036854775807)) := Opens.slice Try.underlying27 (by kernel_rfl) op9
theorem laws_eqStringS.refl (x : List ByteArray) (hx : x.length ≤ 1048576) : Ev (fun k => laws_eqStringS.f k x x) true := by
  unfold laws_eqStringS.f
  refine Ev.pos rfl (Ev.eq (Ev.up (g := fun k i => laws_eqStringS.l0 k x x i) x.length (fun _ => true) ?_) rfl)
  intro i hi ih
  refine Ev.step (fun k => by rw [laws_eqStringS.l0]) ?_
  by_cases hlt : i < x.length
  · have h2 := ih hlt
    rw [w64_succ hlt (by omega)]
    exact Ev.pos (by omega) (Ev.pos (by omega) (Ev.pos (by omega) (Ev.pos rfl h2)))
  · exact Ev.neg (by omega) (Ev.now _)

theorem laws_eqAcceptor.refl (x0 : Int) (x1 : Int) (x2 : ByteArray) : laws_eqAcceptor.f x0 x1 x2 x0 x1 x2 = some true := by
  unfold laws_eqAcceptor.f; simp

def okLS (s : ByteArray) : Prop := s.size ≤ 1048576
def bigLS (s : ByteArray) : Prop := s.size ≤ 9223372036854775807
def okE70 (z : S70) : Prop := okLS z.f2
def okL70 (l : List S70) : Prop := l.length ≤ 1048576 ∧ ∀ z ∈ l, okE70 z
def bigE70 (z : S70) : Prop := bigLS z.f2
def bigL70 (l : List S70) : Prop := l.length ≤ 9223372036854775807 ∧ ∀ z ∈ l, bigE70 z
theorem laws_eqAcceptorS.refl (x : List S70) (hx : okL70 x) : Ev (fun k => laws_eqAcceptorS.f k x x) true := by
  unfold laws_eqAcceptorS.f
  refine Ev.pos rfl (Ev.eq (Ev.up (g := fun k i => laws_eqAcceptorS.l0 k x x i) x.length (fun _ => true) ?_) rfl)
  intro i hi ih
  refine Ev.step (fun k => by rw [laws_eqAcceptorS.l0]) ?_
  by_cases hlt : i < x.length
  · have e : rd_T70 x (i : Int) = x[i] := getD_nat x _ hlt
    have h3 := hx.2 _ (List.getElem_mem hlt)
    have h1 := hx.1
    rw [e, w64_succ hlt (by omega)]
    exact Ev.pos (by omega) (Ev.pos (by omega) (Ev.pos (by omega) (Ev.bindS (laws_eqAcceptor.refl (x[i].f0) (x[i].f1) (x[i].f2)) (Ev.pos rfl (ih hlt)))))
  · exact Ev.neg (by omega) (Ev.now _)

theorem laws_eqPromise.refl (x0 : Int) (x1 : Int) (x2 : ByteArray) : laws_eqPromise.f x0 x1 x2 x0 x1 x2 = some true := by
  unfold laws_eqPromise.f; simp

def okE73 (z : S73) : Prop := okLS z.f2
def okL73 (l : List S73) : Prop := l.length ≤ 1048576 ∧ ∀ z ∈ l, okE73 z
def bigE73 (z : S73) : Prop := bigLS z.f2
def bigL73 (l : List S73) : Prop := l.length ≤ 9223372036854775807 ∧ ∀ z ∈ l, bigE73 z
theorem laws_eqPromiseS.refl (x : List S73) (hx : okL73 x) : Ev (fun k => laws_eqPromiseS.f k x x) true := by
  unfold laws_eqPromiseS.f
  refine Ev.pos rfl (Ev.eq (Ev.up (g := fun k i => laws_eqPromiseS.l0 k x x i) x.length (fun _ => true) ?_) rfl)
  intro i hi ih
  refine Ev.step (fun k => by rw [laws_eqPromiseS.l0]) ?_
  by_cases hlt : i < x.length
  · have e : rd_T73 x (i : Int) = x[i] := getD_nat x _ hlt
    have h3 := hx.2 _ (List.getElem_mem hlt)
    have h1 := hx.1
    rw [e, w64_succ hlt (by omega)]
    exact Ev.pos (by omega) (Ev.pos (by omega) (Ev.pos (by omega) (Ev.bindS (laws_eqPromise.refl (x[i].f0) (x[i].f1) (x[i].f2)) (Ev.pos rfl (ih hlt)))))
  · exact Ev.neg (by omega) (Ev.now _)

def okLI (l : List Int) : Prop := l.length ≤ 1048576
def bigLI (l : List Int) : Prop := l.length ≤ 9223372036854775807
theorem laws_eqIntS.ev (x y : List Int) (hx : x.length ≤ 9223372036854775807) : Ev (fun k => laws_eqIntS.f k x y) (decide (x = y)) := by
  unfold laws_eqIntS.f
  refine Ev.cases (fun hl => ?_) (fun hl => Ev.some ?_)
  · have hl' : x.length = y.length := by omega
    refine Ev.eq (Ev.up (g := fun k i => laws_eqIntS.l0 k x y i) x.length (fun i => decide (x.drop i = y.drop i)) ?_) (by simp)
    intro i hi ih
    refine Ev.step (fun k => by rw [laws_eqIntS.l0]) ?_
    by_cases hlt : i < x.length
    · refine Ev.pos (by omega) (Ev.pos (by omega) (Ev.pos (by omega) ?_))
      rw [rd_get hlt, rd_get (by omega : i < y.length), w64_succ hlt hx]
      have e : decide (x.drop i = y.drop i) = (decide (x[i] = y[i]) && decide (x.drop (i + 1) = y.drop (i + 1))) := drop_eq_step hlt (by omega)
      rw [e]
      refine Ev.cases (fun he => ?_) (fun he => Ev.some (by rw [decide_eq_false he]; rfl))
      exact Ev.eq (ih hlt) (by rw [decide_eq_true he]; rfl)
    · refine Ev.neg (by omega) (Ev.some ?_)
      rw [List.drop_of_length_le (by omega), List.drop_of_length_le (by omega)]
      simp
  · have : x ≠ y := fun h => hl (by rw [h])
    simp [this]
theorem laws_eqIntS.refl (x : List Int) (hx : okLI x) : Ev (fun k => laws_eqIntS.f k x x) true := Ev.eq (laws_eqIntS.ev x x (by unfold okLI at hx; omega)) (by simp)

theorem laws_eqProposer.refl (x0 : ByteArray) (x1 : List (S73)) (x2 : Bool) (x3 : ByteArray) (x4 : List Int) (h1 : okL73 x1) (h4 : okLI x4) : Ev (fun k => laws_eqProposer.f k x0 x1 x2 x3 x4 x0 x1 x2 x3 x4) true := by
  unfold laws_eqProposer.f
  exact (Ev.pos rfl (Ev.bind (laws_eqPromiseS.refl _ h1) (Ev.pos rfl (Ev.neg (by simp) (Ev.pos rfl (Ev.bind (laws_eqIntS.refl _ h4) (Ev.pos rfl (Ev.now _))))))))

def okE54 (z : S54) : Prop := okLS z.f0 ∧ okL73 z.f1 ∧ okLS z.f3 ∧ okLI z.f4
def okL54 (l : List S54) : Prop := l.length ≤ 1048576 ∧ ∀ z ∈ l, okE54 z
def bigE54 (z : S54) : Prop := bigLS z.f0 ∧ bigL73 z.f1 ∧ bigLS z.f3 ∧ bigLI z.f4
def bigL54 (l : List S54) : Prop := l.length ≤ 9223372036854775807 ∧ ∀ z ∈ l, bigE54 z
theorem laws_eqProposerS.refl (x : List S54) (hx : okL54 x) : Ev (fun k => laws_eqProposerS.f k x x) true := by
  unfold laws_eqProposerS.f
  refine Ev.pos rfl (Ev.eq (Ev.up (g := fun k i => laws_eqProposerS.l0 k x x i) x.length (fun _ => true) ?_) rfl)
  intro i hi ih
  refine Ev.step (fun k => by rw [laws_eqProposerS.l0]) ?_
  by_cases hlt : i < x.length
  · have e : rd_T54 x (i : Int) = x[i] := getD_nat x _ hlt
    have h3 := hx.2 _ (List.getElem_mem hlt)
    have h1 := hx.1
    rw [e, w64_succ hlt (by omega)]
    exact Ev.pos (by omega) (Ev.pos (by omega) (Ev.pos (by omega) (Ev.bind (laws_eqProposer.refl (x[i].f0) (x[i].f1) (x[i].f2) (x[i].f3) (x[i].f4) (h3.2.1) (h3.2.2.2)) (Ev.pos rfl (ih hlt)))))
  · exact Ev.neg (by omega) (Ev.now _)

theorem laws_eqSynod.refl (x0 : List (S70)) (x1 : List (S54)) (h0 : okL70 x0) (h1 : okL54 x1) : Ev (fun k => laws_eqSynod.f k x0 x1 x0 x1) true := by
  unfold laws_eqSynod.f
  exact (Ev.bind (laws_eqAcceptorS.refl _ h0) (Ev.pos rfl (Ev.bind (laws_eqProposerS.refl _ h1) (Ev.pos rfl (Ev.now _)))))

theorem laws_markText.go : ∀ (n : Nat) (x : Int) (s : ByteArray), 0 ≤ x → x ≤ n → (s.size : Int) + x ≤ 9223372036854775806 → ∃ t, Ev (fun k => laws_markText.l0 k x s) t := by
  intro n
  induction n with
  | zero =>
    intro x s h0 h1 h2
    exact ⟨_, Ev.step (fun k => by rw [laws_markText.l0]) (Ev.neg (by omega) (Ev.pos (by omega) (Ev.now _)))⟩
  | succ n ih =>
    intro x s h0 h1 h2
    by_cases hx : x > 0
    · have hd : Int.tdiv x 10 = x / 10 := Int.tdiv_eq_ediv_of_nonneg h0
      have hw : wrap64 (Int.tdiv x 10) = x / 10 := by rw [hd]; unfold wrap64; omega
      have hs : ∀ y : Int, (strOfNums [y]).size = 1 := fun y => by simp [strOfNums]; rfl
      obtain ⟨t, ht⟩ := ih (x / 10) ((strOfNums [(wrap64 (48 + (Int.tmod x 10))) % 256]) ++ s) (by omega) (by omega) (by rw [ByteArray.size_append, hs]; omega)
      refine ⟨t, Ev.step (fun k => by rw [laws_markText.l0]) (Ev.pos hx ?_)⟩
      simp only [Option.bind_some]
      refine Ev.pos (by rw [hs]; omega) ?_
      rw [hw]
      exact ht
    · exact ⟨_, Ev.step (fun k => by rw [laws_markText.l0]) (Ev.neg hx (Ev.pos (by omega) (Ev.now _)))⟩
theorem laws_markText.all (x : Int) (h0 : 0 ≤ x) (h1 : x ≤ 9223372036854775806) : ∃ t, Ev (fun k => laws_markText.f k x) t := by
  by_cases hx : x ≤ 0
  · exact ⟨_, by unfold laws_markText.f; exact Ev.pos hx (Ev.now _)⟩
  · obtain ⟨t, ht⟩ := laws_markText.go x.toNat x ⟨#[]⟩ h0 (by omega) (by show ((0 : Nat) : Int) + x ≤ _; omega)
    exact ⟨t, by unfold laws_markText.f; exact Ev.neg hx ht⟩

theorem laws_markIntS.ev (l : List Int) (k0 : Int) (h0 : 0 ≤ k0) (h1 : k0 + l.length ≤ 9223372036854775807) : Ev (fun k => laws_markIntS.f k l k0) (k0 + l.length, marks k0 l.length) := by
  unfold laws_markIntS.f
  by_cases hb : (l.length : Int) ≤ 9223372036854775807
  · refine Ev.eq (Ev.congr (fun k => ?_) (Ev.up (g := fun k i => laws_markIntS.l0 k (marks k0 i.toNat ++ l.drop i.toNat) (k0 + i) i) l.length (fun _ => (k0 + l.length, marks k0 l.length)) ?_)) rfl
    · simp [marks]
    intro i hi ih
    refine Ev.step (fun k => by rw [laws_markIntS.l0]) ?_
    by_cases hlt : i < l.length
    · refine Ev.pos (by simp [marks_length]; omega) (Ev.pos (by omega) ?_)
      have h2 := ih hlt
      simp only [Int.toNat_natCast] at h2 ⊢
      rw [w64_succ hlt (by omega), w64 (by omega) (by omega), set_mark _ _ _ (marks_length _ _) hlt, ← marks_succ]
      refine Ev.congr (fun k => ?_) h2
      rw [show k0 + (i : Int) + 1 = k0 + ((i + 1 : Nat) : Int) by omega]
    · have : i = l.length := by omega
      subst this
      refine Ev.neg (by simp [marks_length]) (Ev.some ?_)
      simp
  · omega

theorem laws_markStringS.go (r : List ByteArray) : ∀ (p : List ByteArray) (k0 : Int), 0 ≤ k0 → k0 + (r.length : Int) ≤ 9223372036854775806 → p.length + r.length ≤ 9223372036854775806 →
    ∃ r' : List ByteArray, r'.length = r.length ∧ Ev (fun k => laws_markStringS.l0 k (p ++ r) k0 (p.length : Int)) (k0 + (r.length : Int), p ++ r') := by
  induction r with
  | nil =>
    intro p k0 h0 h1 h2
    exact ⟨[], rfl, Ev.step (fun k => by rw [laws_markStringS.l0]) (Ev.neg (by simp) (Ev.some (by simp)))⟩
  | cons x r ih =>
    intro p k0 h0 h1 h2
    simp only [List.length_cons] at h1 h2
    obtain ⟨t, ht⟩ := laws_markText.all k0 h0 (by omega)
    obtain ⟨r', hr', hm⟩ := ih (p ++ [t]) (k0 + 1) (by omega) (by omega) (by simp; omega)
    have e1 : wrap64 (k0 + 1) = k0 + 1 := w64 (by omega) (by omega)
    have ep : wrap64 ((p.length : Int) + 1) = (((p ++ [t]).length : Nat) : Int) := by rw [w64 (by omega) (by omega)]; simp
    have stp : (p ++ x :: r).set (p.length : Int).toNat t = (p ++ [t]) ++ r := by simp
    refine ⟨t :: r', by simp [hr'], ?_⟩
    refine Ev.step (fun k => by rw [laws_markStringS.l0]) (Ev.pos (by simp; omega) (Ev.bind ht ?_))
    refine Ev.pos (by omega) ?_
    rw [stp, e1, ep]
    exact Ev.eq hm (by rw [Prod.mk.injEq]; exact ⟨by simp only [List.length_cons]; omega, by simp⟩)
theorem laws_markStringS.ev (l : List ByteArray) (k0 : Int) (h0 : 0 ≤ k0) (h1 : k0 + (l.length : Int) ≤ 9223372036854775806) (h2 : l.length ≤ 1048576) : ∃ l' : List ByteArray, l'.length = l.length ∧ Ev (fun k => laws_markStringS.f k l k0) (k0 + (l.length : Int), l') := by
  obtain ⟨l', e, h⟩ := laws_markStringS.go l [] k0 h0 h1 (by simp; omega)
  exact ⟨l', e, by simpa [laws_markStringS.f] using h⟩

theorem laws_szStringS.ev (l : List ByteArray) (a : Int) (h0 : 0 ≤ a) (h1 : a ≤ 1048576) (hl : l.length ≤ 9223372036854775807) (hx : ∀ s ∈ l, s.size ≤ 9223372036854775807) : ∃ r, Ev (fun k => laws_szStringS.f k l a) r ∧ r ≤ a ∧ (0 ≤ r → l.length ≤ 1048576 ∧ ∀ s ∈ l, s.size ≤ 1048576) := by
  unfold laws_szStringS.f
  rw [w64 (by omega) (by omega)]
  by_cases h : a - l.length < 0
  · exact ⟨-1, Ev.pos h (Ev.now _), by omega, fun h => by omega⟩
  · have key : ∀ d i : Nat, i + d = l.length → ∀ b : Int, 0 ≤ b → b ≤ 1048576 → ∃ r, Ev (fun k => laws_szStringS.l0 k l b i) r ∧ r ≤ b ∧ (0 ≤ r → ∀ x ∈ l.drop i, x.size ≤ 1048576) := by
      intro d
      induction d with
      | zero =>
        intro i hi b hb0 hb1
        have : i = l.length := by omega
        subst this
        exact ⟨b, Ev.step (fun k => by rw [laws_szStringS.l0]) (Ev.neg (by omega) (Ev.now _)), by omega, fun _ x hx => by simp at hx⟩
      | succ d ih =>
        intro i hi b hb0 hb1
        have hlt : i < l.length := by omega
        have hz := hx _ (List.getElem_mem hlt)
        have e : rdOf ByteArray.empty l (i : Int) = l[i] := getD_nat l _ hlt
        have ew : wrap64 (b - (l[i].size : Int)) = b - (l[i].size : Int) := w64 (by omega) (by omega)
        by_cases hr0 : b - (l[i].size : Int) < 0
        · refine ⟨-1, Ev.step (fun k => by rw [laws_szStringS.l0]) (Ev.pos (by omega) (Ev.pos (by omega) ?_)), by omega, fun h => by omega⟩
          rw [e, ew]
          exact Ev.pos hr0 (Ev.now _)
        · obtain ⟨q, hq, h5, h4⟩ := ih (i + 1) (by omega) (b - (l[i].size : Int)) (by omega) (by omega)
          refine ⟨q, Ev.step (fun k => by rw [laws_szStringS.l0]) (Ev.pos (by omega) (Ev.pos (by omega) ?_)), by omega, fun h x hx => ?_⟩
          · rw [e, ew, w64_succ hlt hl]
            exact Ev.neg hr0 hq
          · rw [List.drop_eq_getElem_cons hlt] at hx
            rcases List.mem_cons.1 hx with rfl | hx
            · omega
            · exact h4 h x hx
    obtain ⟨r, hr, h5, h2⟩ := key l.length 0 (by omega) (a - l.length) (by omega) (by omega)
    exact ⟨r, Ev.neg h hr, by omega, fun h => ⟨by omega, fun x hx => h2 h x (by simpa using hx)⟩⟩

theorem spec_l1In.ev (n a b : Int) : spec_l1In.f n a b = some (inB n a b) := by
  unfold spec_l1In.f inB
  by_cases h : a ≤ n
  · rw [if_pos h]; simp [h]
  · rw [if_neg h]; simp [h]

theorem spec_l8Nodes.ev (n : Int) : spec_l8Nodes.f n = some (inB n 1 12) := by
  unfold spec_l8Nodes.f; rw [spec_l1In.ev]; rfl

/-- Byte i of a text may stand in a value. -/
def okByte (s : ByteArray) (i : Nat) : Bool := decide (32 ≤ bt s i) && decide (bt s i ≤ 126) && !decide (bt s i = 59)
/-- A value. -/
def okVal (s : ByteArray) : Bool := allFrom (okByte s) s.size 0 && decide (s.size ≤ 20)
theorem spec_l1Value.ev (s : ByteArray) (hs : s.size ≤ 9223372036854775807) : Ev (fun k => spec_l1Value.f k s) (okVal s) := by
  unfold spec_l1Value.f okVal
  refine Ev.eq (Ev.up (g := fun k i => spec_l1Value.l0 k s i) s.size (fun i => allFrom (okByte s) s.size i && decide (s.size ≤ 20)) ?_) rfl
  intro i hi ih
  refine Ev.step (fun k => by rw [spec_l1Value.l0]) ?_
  by_cases hlt : i < s.size
  · refine Ev.pos (by omega) (Ev.pos (by omega) ?_)
    rw [allFrom_step hlt]
    have ih := ih hlt
    generalize allFrom (okByte s) s.size (i + 1) = q at ih ⊢
    unfold okByte
    have no : Ev (fun k => spec_l1Value.j1 k s (i : Int) true) false := Ev.step (fun k => by rw [spec_l1Value.j1]) (Ev.pos rfl (Ev.now _))
    refine Ev.cases (fun h => Ev.eq no (by rw [decide_eq_false (by omega : ¬ 32 ≤ bt s i)]; rfl)) (fun h1 => ?_)
    refine Ev.cases (fun h => Ev.eq no (by rw [decide_eq_false (by omega : ¬ bt s i ≤ 126)]; simp)) (fun h2 => ?_)
    by_cases h3 : bt s i = 59
    · rw [show (bt s i == 59) = true from by simpa using h3]
      exact Ev.eq no (by rw [decide_eq_true h3]; simp)
    · rw [show (bt s i == 59) = false from by simpa using h3]
      refine Ev.step (fun k => by rw [spec_l1Value.j1]) (Ev.neg (by simp) ?_)
      rw [w64_succ hlt hs]
      refine Ev.eq ih ?_
      rw [decide_eq_true (by omega : 32 ≤ bt s i), decide_eq_true (by omega : bt s i ≤ 126), decide_eq_false h3]; simp
  · have : i = s.size := by omega
    subst this
    refine Ev.neg (by omega) (Ev.some ?_)
    rw [allFrom_end, Bool.true_and]
    exact decide_eq_decide.2 (by omega)

def nprop (s : ByteArray) : S54 := ⟨s, [], false, ⟨#[]⟩, []⟩
def newSynodP (m : Int) (l : List ByteArray) : List S70 × List S54 × Bool := if (inB m 1 12 && inB l.length 1 8 && l.all okVal) = true then (List.replicate m.toNat z70, l.map nprop, true) else ([], [], false)
theorem spec_NewSynod.go (l : List ByteArray) (hn : l.length ≤ 8) (hs : ∀ s ∈ l, s.size ≤ 1048576) (ac : List S70) : ∀ (m i : Nat) (ps : List S54), i + m = l.length → ps.length ≤ i →
    Ev (fun k => spec_NewSynod.l0 k l (l.length : Int) (i : Int) ac ps) (if (l.drop i).all okVal = true then (ac, ps ++ (l.drop i).map nprop, true) else ([], [], false)) := by
  intro m
  induction m with
  | zero =>
    intro i ps h1 h2
    refine Ev.step (fun k => by rw [spec_NewSynod.l0]) (Ev.neg (by omega) (Ev.some ?_))
    rw [List.drop_of_length_le (by omega)]; simp
  | succ m ih =>
    intro i ps h1 h2
    have hlt : i < l.length := by omega
    have hz := hs _ (List.getElem_mem hlt)
    have e : rdOf ByteArray.empty l (i : Int) = l[i] := getD_nat l _ hlt
    refine Ev.step (fun k => by rw [spec_NewSynod.l0]) (Ev.pos (by omega) (Ev.pos (by omega) (Ev.pos (by omega) ?_)))
    rw [e, List.drop_eq_getElem_cons hlt, List.all_cons, w64_succ hlt (by omega)]
    refine Ev.bind (spec_l1Value.ev l[i] (by omega)) ?_
    cases hv : okVal l[i] with
    | false => exact Ev.neg (by simp) (Ev.some (by simp))
    | true =>
      refine Ev.pos rfl (Ev.pos (by omega) ?_)
      refine Ev.eq (ih (i + 1) (ps ++ [nprop l[i]]) (by omega) (by simp; omega)) ?_
      simp only [List.map_cons, List.append_assoc, List.cons_append, List.nil_append, Bool.true_and]
theorem spec_NewSynod.ev (m : Int) (l : List ByteArray) (hs : ∀ s ∈ l, s.size ≤ 1048576) : Ev (fun k => spec_NewSynod.f k m l) (newSynodP m l) := by
  unfold spec_NewSynod.f newSynodP
  refine Ev.bindS (spec_l8Nodes.ev m) ?_
  have no : Ev (fun k => spec_NewSynod.j0 k m l true) ([], [], false) := Ev.step (fun k => by rw [spec_NewSynod.j0]) (Ev.pos rfl (Ev.now _))
  cases h1 : inB m 1 12 with
  | false => exact Ev.neg (by simp) (Ev.eq no (by simp))
  | true =>
    refine Ev.pos rfl (Ev.bindS (spec_l1In.ev _ _ _) ?_)
    cases h2 : inB l.length 1 8 with
    | false => exact Ev.eq no (by simp)
    | true =>
      have b1 := inB_iff.1 h1
      have b2 := inB_iff.1 h2
      refine Ev.step (fun k => by rw [spec_NewSynod.j0]) (Ev.neg (by simp) (Ev.pos (by omega) (Ev.pos (by omega) ?_)))
      refine Ev.eq (spec_NewSynod.go l (by omega) hs _ l.length 0 [] (by omega) (by simp)) ?_
      simp

theorem laws_toStringS.ev (l : List ByteArray) (hl : l.length ≤ 1048576) : Ev (fun k => laws_toStringS.f k l) l := by
  unfold laws_toStringS.f
  refine Ev.pos (by omega) (Ev.pos (by omega) ?_)
  refine Ev.eq (Ev.up (g := fun k i => laws_toStringS.l0 k l (l.take i.toNat ++ List.replicate (l.length - i.toNat) (⟨#[]⟩ : ByteArray)) i) l.length (fun _ => l) ?_) rfl
  intro i hi ih
  refine Ev.step (fun k => by rw [laws_toStringS.l0]) ?_
  by_cases hlt : i < l.length
  · refine Ev.pos (by omega) (Ev.pos (by omega) (Ev.pos (by simp; omega) ?_))
    have e : rdOf ByteArray.empty l (i : Int) = l[i] := getD_nat l _ hlt
    rw [e, w64_succ hlt (by omega)]
    have h2 := ih hlt
    simp only [Int.toNat_natCast] at h2 ⊢
    rw [set_fill l _ hlt]
    exact h2
  · refine Ev.neg (by omega) (Ev.some ?_)
    simp only [Int.toNat_natCast]
    have : i = l.length := by omega
    subst this
    simp

theorem impl_in.ev (n a b : Int) : impl_in.f n a b = some (inB n a b) := by
  unfold impl_in.f inB
  by_cases h : a ≤ n
  · rw [if_pos h]; simp [h]
  · rw [if_neg h]; simp [h]

theorem impl_isValue.ev (s : ByteArray) (hs : s.size ≤ 9223372036854775807) : Ev (fun k => impl_isValue.f k s) (okVal s) := by
  unfold impl_isValue.f okVal
  refine Ev.eq (Ev.up (g := fun k i => impl_isValue.l0 k s (s.size : Int) i) s.size (fun i => allFrom (okByte s) s.size i && decide (s.size ≤ 20)) ?_) rfl
  intro i hi ih
  refine Ev.step (fun k => by rw [impl_isValue.l0]) ?_
  by_cases hlt : i < s.size
  · refine Ev.pos (by omega) (Ev.pos (by omega) (Ev.pos (by omega) ?_))
    rw [allFrom_step hlt]
    have ih := ih hlt
    generalize allFrom (okByte s) s.size (i + 1) = q at ih ⊢
    unfold okByte
    have no : Ev (fun k => impl_isValue.j1 k s (s.size : Int) (i : Int) true) false := Ev.step (fun k => by rw [impl_isValue.j1]) (Ev.pos rfl (Ev.now _))
    refine Ev.cases (fun h => Ev.eq no (by rw [decide_eq_false (by omega : ¬ 32 ≤ bt s i)]; rfl)) (fun h1 => ?_)
    refine Ev.cases (fun h => Ev.eq no (by rw [decide_eq_false (by omega : ¬ bt s i ≤ 126)]; simp)) (fun h2 => ?_)
    by_cases h3 : bt s i = 59
    · rw [show (bt s i == 59) = true from by simpa using h3]
      exact Ev.eq no (by rw [decide_eq_true h3]; simp)
    · rw [show (bt s i == 59) = false from by simpa using h3]
      refine Ev.step (fun k => by rw [impl_isValue.j1]) (Ev.neg (by simp) ?_)
      rw [w64_succ hlt hs]
      refine Ev.eq ih ?_
      rw [decide_eq_true (by omega : 32 ≤ bt s i), decide_eq_true (by omega : bt s i ≤ 126), decide_eq_false h3]; simp
  · have : i = s.size := by omega
    subst this
    refine Ev.neg (by omega) (Ev.some ?_)
    rw [allFrom_end, Bool.true_and]
    exact decide_eq_decide.2 (by omega)

theorem impl_newSynod.go (l : List ByteArray) (hn : l.length ≤ 8) (hs : ∀ s ∈ l, s.size ≤ 1048576) (ac : List S70) : ∀ (m i : Nat) (ps : List S54), i + m = l.length → ps.length ≤ i →
    Ev (fun k => impl_newSynod.l0 k l (l.length : Int) (i : Int) ac ps) (if (l.drop i).all okVal = true then (ac, ps ++ (l.drop i).map nprop, true) else ([], [], false)) := by
  intro m
  induction m with
  | zero =>
    intro i ps h1 h2
    refine Ev.step (fun k => by rw [impl_newSynod.l0]) (Ev.neg (by omega) (Ev.some ?_))
    rw [List.drop_of_length_le (by omega)]; simp
  | succ m ih =>
    intro i ps h1 h2
    have hlt : i < l.length := by omega
    have hz := hs _ (List.getElem_mem hlt)
    have e : rdOf ByteArray.empty l (i : Int) = l[i] := getD_nat l _ hlt
    refine Ev.step (fun k => by rw [impl_newSynod.l0]) (Ev.pos (by omega) (Ev.pos (by omega) (Ev.pos (by omega) ?_)))
    rw [e, List.drop_eq_getElem_cons hlt, List.all_cons, w64_succ hlt (by omega)]
    refine Ev.bind (impl_isValue.ev l[i] (by omega)) ?_
    cases hv : okVal l[i] with
    | false => exact Ev.neg (by simp) (Ev.some (by simp))
    | true =>
      refine Ev.pos rfl (Ev.pos (by omega) ?_)
      refine Ev.eq (ih (i + 1) (ps ++ [nprop l[i]]) (by omega) (by simp; omega)) ?_
      simp only [List.map_cons, List.append_assoc, List.cons_append, List.nil_append, Bool.true_and]
theorem impl_newSynod.ev (m : Int) (l : List ByteArray) (hs : ∀ s ∈ l, s.size ≤ 1048576) : Ev (fun k => impl_newSynod.f k m l) (newSynodP m l) := by
  unfold impl_newSynod.f newSynodP
  refine Ev.bindS (impl_in.ev _ _ _) ?_
  have no : Ev (fun k => impl_newSynod.j0 k m l true) ([], [], false) := Ev.step (fun k => by rw [impl_newSynod.j0]) (Ev.pos rfl (Ev.now _))
  cases h1 : inB m 1 12 with
  | false => exact Ev.neg (by simp) (Ev.eq no (by simp))
  | true =>
    refine Ev.pos rfl (Ev.bindS (impl_in.ev _ _ _) ?_)
    cases h2 : inB l.length 1 8 with
    | false => exact Ev.eq no (by simp)
    | true =>
      have b1 := inB_iff.1 h1
      have b2 := inB_iff.1 h2
      refine Ev.step (fun k => by rw [impl_newSynod.j0]) (Ev.neg (by simp) (Ev.pos (by omega) (Ev.pos (by omega) ?_)))
      refine Ev.eq (impl_newSynod.go l (by omega) hs _ l.length 0 [] (by omega) (by simp)) ?_
      simp

theorem impl_NewSynod.ev (m : Int) (l : List ByteArray) (hs : ∀ s ∈ l, s.size ≤ 1048576) : Ev (fun k => impl_NewSynod.f k m l) (newSynodP m l) := by
  unfold impl_NewSynod.f
  exact Ev.eq (Ev.bind (impl_newSynod.ev m l hs) (Ev.now _)) rfl

def mc70 (x : S70) : Nat := 3
def ms70 : List S70 → Nat
  | [] => 0
  | x :: r => mc70 x + ms70 r
def mok70 (l : List S70) : Prop := ∀ x ∈ l, True
theorem laws_markAcceptorS.go (r : List S70) : mok70 r → ∀ (p q : List S70) (k0 : Int), 0 ≤ k0 → k0 + (ms70 r : Int) ≤ 9223372036854775807 → p.length + r.length ≤ 9223372036854775807 → q.length = p.length →
    ∃ r' : List S70, r'.length = r.length ∧ Ev (fun k => laws_markAcceptorS.l0 k (p ++ r) k0 (p.length : Int)) (k0 + (ms70 r : Int), p ++ r') ∧ Ev (fun k => laws_heldAcceptorS.l0 k (q ++ r') k0 (q.length : Int)) (k0 + (ms70 r : Int)) := by
  induction r with
  | nil =>
    intro _ p q k0 h0 h1 h2 hq
    refine ⟨[], rfl, ?_, ?_⟩
    · exact Ev.step (fun k => by rw [laws_markAcceptorS.l0]) (Ev.neg (by simp) (Ev.some (by simp [ms70])))
    · exact Ev.step (fun k => by rw [laws_heldAcceptorS.l0]) (Ev.neg (by simp) (Ev.some (by simp [ms70])))
  | cons x r ih =>
    intro hok p q k0 h0 h1 h2 hq
    have hx := hok x (List.mem_cons_self ..)
    have ih := ih (fun z hz => hok z (List.mem_cons_of_mem _ hz))
    have hms : ms70 (x :: r) = mc70 x + ms70 r := rfl
    simp only [mc70] at hms
    simp only [List.length_cons] at h2
    have e1 : wrap64 (k0 + 1) = k0 + 1 := w64 (by omega) (by omega)
    have e2 : wrap64 (k0 + 1 + 1) = k0 + 1 + 1 := w64 (by omega) (by omega)
    obtain ⟨t2, ht2⟩ := laws_markText.all (k0 + 1 + 1) (by omega) (by omega)
    have e3 : wrap64 (k0 + 1 + 1 + 1) = k0 + 1 + 1 + 1 := w64 (by omega) (by omega)
    obtain ⟨r', hr', hm, hh⟩ := ih (p ++ [(⟨k0, k0 + 1, t2⟩ : S70)]) (q ++ [(⟨k0, k0 + 1, t2⟩ : S70)]) (k0 + 1 + 1 + 1) (by omega) (by omega) (by simp; omega) (by simp [hq])
    have ep : wrap64 ((p.length : Int) + 1) = (((p ++ [(⟨k0, k0 + 1, t2⟩ : S70)]).length : Nat) : Int) := by rw [w64 (by omega) (by omega)]; simp
    have eq : wrap64 ((q.length : Int) + 1) = (((q ++ [(⟨k0, k0 + 1, t2⟩ : S70)]).length : Nat) : Int) := by rw [w64 (by omega) (by omega)]; simp
    have rdp : ∀ (y : S70) (r : List S70), rd_T70 (p ++ y :: r) (p.length : Int) = y := fun y r => by simp [rd_T70]
    have rdq : rd_T70 (q ++ (⟨k0, k0 + 1, t2⟩ : S70) :: r') (q.length : Int) = (⟨k0, k0 + 1, t2⟩ : S70) := by simp [rd_T70]
    have stp : ∀ (y z : S70) (r : List S70), (p ++ y :: r).set (p.length : Int).toNat z = p ++ z :: r := fun y z r => by simp
    refine ⟨(⟨k0, k0 + 1, t2⟩ : S70) :: r', by simp [hr'], ?_, ?_⟩
    · refine Ev.step (fun k => by rw [laws_markAcceptorS.l0]) (Ev.pos (by simp; omega) (Ev.pos (by omega) ?_))
      simp only [Option.bind_some, rdp, stp]
      rw [e1, e2]
      refine Ev.bind ht2 ?_
      try dsimp only
      try simp only [Option.bind_some, rdp, stp]
      rw [e3]
      rw [ep]
      have e_ : p ++ (⟨k0, k0 + 1, t2⟩ : S70) :: r = (p ++ [(⟨k0, k0 + 1, t2⟩ : S70)]) ++ r := by simp
      first | rw [e_] | (simp only [stp]; rw [e_])
      exact Ev.eq hm (by rw [Prod.mk.injEq]; exact ⟨by omega, by simp⟩)
    · refine Ev.step (fun k => by rw [laws_heldAcceptorS.l0]) (Ev.pos (by simp; omega) (Ev.pos (by omega) ?_))
      rw [rdq]
      refine Ev.pos rfl ?_
      try rw [e1]
      refine Ev.pos rfl ?_
      try rw [e2]
      refine Ev.bind ht2 ?_
      refine Ev.pos rfl ?_
      try rw [e3]
      rw [eq]
      have e_ : q ++ (⟨k0, k0 + 1, t2⟩ : S70) :: r' = (q ++ [(⟨k0, k0 + 1, t2⟩ : S70)]) ++ r' := by simp
      rw [e_]
      exact Ev.eq hh (by omega)
theorem laws_markAcceptorS.two (l : List S70) (k0 : Int) (h0 : 0 ≤ k0) (h1 : k0 + (ms70 l : Int) ≤ 9223372036854775807) (h2 : l.length ≤ 9223372036854775807) (h3 : mok70 l) : ∃ l' : List S70, l'.length = l.length ∧ Ev (fun k => laws_markAcceptorS.f k l k0) (k0 + (ms70 l : Int), l') ∧ Ev (fun k => laws_heldAcceptorS.f k l' k0) (k0 + (ms70 l : Int)) := by
  obtain ⟨l', e, h4, h5⟩ := laws_markAcceptorS.go l h3 [] [] k0 h0 h1 (by simpa using h2) rfl
  exact ⟨l', e, by simpa [laws_markAcceptorS.f] using h4, by simpa [laws_heldAcceptorS.f] using h5⟩

def mc73 (x : S73) : Nat := 3
def ms73 : List S73 → Nat
  | [] => 0
  | x :: r => mc73 x + ms73 r
def mok73 (l : List S73) : Prop := ∀ x ∈ l, True
theorem laws_markPromiseS.go (r : List S73) : mok73 r → ∀ (p q : List S73) (k0 : Int), 0 ≤ k0 → k0 + (ms73 r : Int) ≤ 9223372036854775807 → p.length + r.length ≤ 9223372036854775807 → q.length = p.length →
    ∃ r' : List S73, r'.length = r.length ∧ Ev (fun k => laws_markPromiseS.l0 k (p ++ r) k0 (p.length : Int)) (k0 + (ms73 r : Int), p ++ r') ∧ Ev (fun k => laws_heldPromiseS.l0 k (q ++ r') k0 (q.length : Int)) (k0 + (ms73 r : Int)) := by
  induction r with
  | nil =>
    intro _ p q k0 h0 h1 h2 hq
    refine ⟨[], rfl, ?_, ?_⟩
    · exact Ev.step (fun k => by rw [laws_markPromiseS.l0]) (Ev.neg (by simp) (Ev.some (by simp [ms73])))
    · exact Ev.step (fun k => by rw [laws_heldPromiseS.l0]) (Ev.neg (by simp) (Ev.some (by simp [ms73])))
  | cons x r ih =>
    intro hok p q k0 h0 h1 h2 hq
    have hx := hok x (List.mem_cons_self ..)
    have ih := ih (fun z hz => hok z (List.mem_cons_of_mem _ hz))
    have hms : ms73 (x :: r) = mc73 x + ms73 r := rfl
    simp only [mc73] at hms
    simp only [List.length_cons] at h2
    have e1 : wrap64 (k0 + 1) = k0 + 1 := w64 (by omega) (by omega)
    have e2 : wrap64 (k0 + 1 + 1) = k0 + 1 + 1 := w64 (by omega) (by omega)
    obtain ⟨t2, ht2⟩ := laws_markText.all (k0 + 1 + 1) (by omega) (by omega)
    have e3 : wrap64 (k0 + 1 + 1 + 1) = k0 + 1 + 1 + 1 := w64 (by omega) (by omega)
    obtain ⟨r', hr', hm, hh⟩ := ih (p ++ [(⟨k0, k0 + 1, t2⟩ : S73)]) (q ++ [(⟨k0, k0 + 1, t2⟩ : S73)]) (k0 + 1 + 1 + 1) (by omega) (by omega) (by simp; omega) (by simp [hq])
    have ep : wrap64 ((p.length : Int) + 1) = (((p ++ [(⟨k0, k0 + 1, t2⟩ : S73)]).length : Nat) : Int) := by rw [w64 (by omega) (by omega)]; simp
    have eq : wrap64 ((q.length : Int) + 1) = (((q ++ [(⟨k0, k0 + 1, t2⟩ : S73)]).length : Nat) : Int) := by rw [w64 (by omega) (by omega)]; simp
    have rdp : ∀ (y : S73) (r : List S73), rd_T73 (p ++ y :: r) (p.length : Int) = y := fun y r => by simp [rd_T73]
    have rdq : rd_T73 (q ++ (⟨k0, k0 + 1, t2⟩ : S73) :: r') (q.length : Int) = (⟨k0, k0 + 1, t2⟩ : S73) := by simp [rd_T73]
    have stp : ∀ (y z : S73) (r : List S73), (p ++ y :: r).set (p.length : Int).toNat z = p ++ z :: r := fun y z r => by simp
    refine ⟨(⟨k0, k0 + 1, t2⟩ : S73) :: r', by simp [hr'], ?_, ?_⟩
    · refine Ev.step (fun k => by rw [laws_markPromiseS.l0]) (Ev.pos (by simp; omega) (Ev.pos (by omega) ?_))
      simp only [Option.bind_some, rdp, stp]
      rw [e1, e2]
      refine Ev.bind ht2 ?_
      try dsimp only
      try simp only [Option.bind_some, rdp, stp]
      rw [e3]
      rw [ep]
      have e_ : p ++ (⟨k0, k0 + 1, t2⟩ : S73) :: r = (p ++ [(⟨k0, k0 + 1, t2⟩ : S73)]) ++ r := by simp
      first | rw [e_] | (simp only [stp]; rw [e_])
      exact Ev.eq hm (by rw [Prod.mk.injEq]; exact ⟨by omega, by simp⟩)
    · refine Ev.step (fun k => by rw [laws_heldPromiseS.l0]) (Ev.pos (by simp; omega) (Ev.pos (by omega) ?_))
      rw [rdq]
      refine Ev.pos rfl ?_
      try rw [e1]
      refine Ev.pos rfl ?_
      try rw [e2]
      refine Ev.bind ht2 ?_
      refine Ev.pos rfl ?_
      try rw [e3]
      rw [eq]
      have e_ : q ++ (⟨k0, k0 + 1, t2⟩ : S73) :: r' = (q ++ [(⟨k0, k0 + 1, t2⟩ : S73)]) ++ r' := by simp
      rw [e_]
      exact Ev.eq hh (by omega)
theorem laws_markPromiseS.two (l : List S73) (k0 : Int) (h0 : 0 ≤ k0) (h1 : k0 + (ms73 l : Int) ≤ 9223372036854775807) (h2 : l.length ≤ 9223372036854775807) (h3 : mok73 l) : ∃ l' : List S73, l'.length = l.length ∧ Ev (fun k => laws_markPromiseS.f k l k0) (k0 + (ms73 l : Int), l') ∧ Ev (fun k => laws_heldPromiseS.f k l' k0) (k0 + (ms73 l : Int)) := by
  obtain ⟨l', e, h4, h5⟩ := laws_markPromiseS.go l h3 [] [] k0 h0 h1 (by simpa using h2) rfl
  exact ⟨l', e, by simpa [laws_markPromiseS.f] using h4, by simpa [laws_heldPromiseS.f] using h5⟩

theorem laws_heldIntS.ev (n : Nat) (k0 : Int) (h0 : -9223372036854775808 ≤ k0) (h1 : k0 + n ≤ 9223372036854775807) (hn : n ≤ 9223372036854775807) : Ev (fun k => laws_heldIntS.f k (marks k0 n) k0) (k0 + n) := by
  unfold laws_heldIntS.f
  refine Ev.eq (Ev.congr (fun k => ?_) (Ev.up (g := fun k i => laws_heldIntS.l0 k (marks k0 n) (k0 + i) i) n (fun _ => k0 + (n : Int)) ?_)) rfl
  · simp
  intro i hi ih
  refine Ev.step (fun k => by rw [laws_heldIntS.l0]) ?_
  by_cases hlt : i < n
  · refine Ev.pos (by rw [marks_length]; omega) (Ev.pos (by omega) (Ev.pos (marks_get hlt) ?_))
    have h2 := ih hlt
    rw [w64_succ hlt hn, w64 (by omega) (by omega)]
    refine Ev.congr (fun k => ?_) h2
    rw [show k0 + (i : Int) + 1 = k0 + ((i + 1 : Nat) : Int) by omega]
  · have : i = n := by omega
    subst this
    exact Ev.neg (by rw [marks_length]; omega) (Ev.some rfl)
theorem laws_markIntS.two (l : List Int) (k0 : Int) (h0 : 0 ≤ k0) (h1 : k0 + (l.length : Int) ≤ 9223372036854775807) (h2 : l.length ≤ 9223372036854775807) : ∃ l' : List Int, l'.length = l.length ∧ Ev (fun k => laws_markIntS.f k l k0) (k0 + (l.length : Int), l') ∧ Ev (fun k => laws_heldIntS.f k l' k0) (k0 + (l.length : Int)) :=
  ⟨marks k0 l.length, marks_length _ _, laws_markIntS.ev l k0 h0 (by omega), laws_heldIntS.ev l.length k0 (by omega) (by omega) (by omega)⟩

def mc54 (x : S54) : Nat := 3 + ms73 (x.f1) + (x.f4).length
def ms54 : List S54 → Nat
  | [] => 0
  | x :: r => mc54 x + ms54 r
def mok54 (l : List S54) : Prop := ∀ x ∈ l, x.f1.length ≤ 1048576 ∧ mok73 x.f1 ∧ x.f4.length ≤ 1048576
theorem laws_markProposerS.go (r : List S54) : mok54 r → ∀ (p q : List S54) (k0 : Int), 0 ≤ k0 → k0 + (ms54 r : Int) ≤ 9223372036854775807 → p.length + r.length ≤ 9223372036854775807 → q.length = p.length →
    ∃ r' : List S54, r'.length = r.length ∧ Ev (fun k => laws_markProposerS.l0 k (p ++ r) k0 (p.length : Int)) (k0 + (ms54 r : Int), p ++ r') ∧ Ev (fun k => laws_heldProposerS.l0 k (q ++ r') k0 (q.length : Int)) (k0 + (ms54 r : Int)) := by
  induction r with
  | nil =>
    intro _ p q k0 h0 h1 h2 hq
    refine ⟨[], rfl, ?_, ?_⟩
    · exact Ev.step (fun k => by rw [laws_markProposerS.l0]) (Ev.neg (by simp) (Ev.some (by simp [ms54])))
    · exact Ev.step (fun k => by rw [laws_heldProposerS.l0]) (Ev.neg (by simp) (Ev.some (by simp [ms54])))
  | cons x r ih =>
    intro hok p q k0 h0 h1 h2 hq
    have hx := hok x (List.mem_cons_self ..)
    have ih := ih (fun z hz => hok z (List.mem_cons_of_mem _ hz))
    have hms : ms54 (x :: r) = mc54 x + ms54 r := rfl
    simp only [mc54] at hms
    simp only [List.length_cons] at h2
    obtain ⟨hx1, hy1, hx4⟩ := hx
    obtain ⟨t0, ht0⟩ := laws_markText.all (k0) (by omega) (by omega)
    have e1 : wrap64 (k0 + 1) = k0 + 1 := w64 (by omega) (by omega)
    obtain ⟨l1, hl1, hm1, hh1⟩ := laws_markPromiseS.two x.f1 (k0 + 1) (by omega) (by omega) (by omega) hy1
    have e2 : wrap64 (k0 + 1 + (ms73 (x.f1) : Int) + 1) = k0 + 1 + (ms73 (x.f1) : Int) + 1 := w64 (by omega) (by omega)
    obtain ⟨t3, ht3⟩ := laws_markText.all (k0 + 1 + (ms73 (x.f1) : Int) + 1) (by omega) (by omega)
    have e3 : wrap64 (k0 + 1 + (ms73 (x.f1) : Int) + 1 + 1) = k0 + 1 + (ms73 (x.f1) : Int) + 1 + 1 := w64 (by omega) (by omega)
    obtain ⟨l4, hl4, hm4, hh4⟩ := laws_markIntS.two x.f4 (k0 + 1 + (ms73 (x.f1) : Int) + 1 + 1) (by omega) (by omega) (by omega)
    obtain ⟨r', hr', hm, hh⟩ := ih (p ++ [(⟨t0, l1, ((Int.tmod (k0 + 1 + (ms73 (x.f1) : Int)) 3) == 0), t3, l4⟩ : S54)]) (q ++ [(⟨t0, l1, ((Int.tmod (k0 + 1 + (ms73 (x.f1) : Int)) 3) == 0), t3, l4⟩ : S54)]) (k0 + 1 + (ms73 (x.f1) : Int) + 1 + 1 + ((x.f4).length : Int)) (by omega) (by omega) (by simp; omega) (by simp [hq])
    have ep : wrap64 ((p.length : Int) + 1) = (((p ++ [(⟨t0, l1, ((Int.tmod (k0 + 1 + (ms73 (x.f1) : Int)) 3) == 0), t3, l4⟩ : S54)]).length : Nat) : Int) := by rw [w64 (by omega) (by omega)]; simp
    have eq : wrap64 ((q.length : Int) + 1) = (((q ++ [(⟨t0, l1, ((Int.tmod (k0 + 1 + (ms73 (x.f1) : Int)) 3) == 0), t3, l4⟩ : S54)]).length : Nat) : Int) := by rw [w64 (by omega) (by omega)]; simp
    have rdp : ∀ (y : S54) (r : List S54), rd_T54 (p ++ y :: r) (p.length : Int) = y := fun y r => by simp [rd_T54]
    have rdq : rd_T54 (q ++ (⟨t0, l1, ((Int.tmod (k0 + 1 + (ms73 (x.f1) : Int)) 3) == 0), t3, l4⟩ : S54) :: r') (q.length : Int) = (⟨t0, l1, ((Int.tmod (k0 + 1 + (ms73 (x.f1) : Int)) 3) == 0), t3, l4⟩ : S54) := by simp [rd_T54]
    have stp : ∀ (y z : S54) (r : List S54), (p ++ y :: r).set (p.length : Int).toNat z = p ++ z :: r := fun y z r => by simp
    refine ⟨(⟨t0, l1, ((Int.tmod (k0 + 1 + (ms73 (x.f1) : Int)) 3) == 0), t3, l4⟩ : S54) :: r', by simp [hr'], ?_, ?_⟩
    · refine Ev.step (fun k => by rw [laws_markProposerS.l0]) (Ev.pos (by simp; omega) (Ev.pos (by omega) ?_))
      simp only [Option.bind_some, rdp, stp]
      refine Ev.bind ht0 ?_
      try dsimp only
      try simp only [Option.bind_some, rdp, stp]
      rw [e1]
      refine Ev.bind hm1 ?_
      try dsimp only
      rw [e2]
      refine Ev.bind ht3 ?_
      try dsimp only
      try simp only [Option.bind_some, rdp, stp]
      rw [e3]
      refine Ev.bind hm4 ?_
      try dsimp only
      rw [ep]
      have e_ : p ++ (⟨t0, l1, ((Int.tmod (k0 + 1 + (ms73 (x.f1) : Int)) 3) == 0), t3, l4⟩ : S54) :: r = (p ++ [(⟨t0, l1, ((Int.tmod (k0 + 1 + (ms73 (x.f1) : Int)) 3) == 0), t3, l4⟩ : S54)]) ++ r := by simp
      first | rw [e_] | (simp only [stp]; rw [e_])
      exact Ev.eq hm (by rw [Prod.mk.injEq]; exact ⟨by omega, by simp⟩)
    · refine Ev.step (fun k => by rw [laws_heldProposerS.l0]) (Ev.pos (by simp; omega) (Ev.pos (by omega) ?_))
      rw [rdq]
      refine Ev.bind ht0 ?_
      refine Ev.pos rfl ?_
      try rw [e1]
      refine Ev.bind hh1 (Ev.neg (by omega) ?_)
      refine Ev.neg (by simp) ?_
      try rw [e2]
      refine Ev.bind ht3 ?_
      refine Ev.pos rfl ?_
      try rw [e3]
      refine Ev.bind hh4 (Ev.neg (by omega) ?_)
      rw [eq]
      have e_ : q ++ (⟨t0, l1, ((Int.tmod (k0 + 1 + (ms73 (x.f1) : Int)) 3) == 0), t3, l4⟩ : S54) :: r' = (q ++ [(⟨t0, l1, ((Int.tmod (k0 + 1 + (ms73 (x.f1) : Int)) 3) == 0), t3, l4⟩ : S54)]) ++ r' := by simp
      rw [e_]
      exact Ev.eq hh (by omega)
theorem laws_markProposerS.two (l : List S54) (k0 : Int) (h0 : 0 ≤ k0) (h1 : k0 + (ms54 l : Int) ≤ 9223372036854775807) (h2 : l.length ≤ 9223372036854775807) (h3 : mok54 l) : ∃ l' : List S54, l'.length = l.length ∧ Ev (fun k => laws_markProposerS.f k l k0) (k0 + (ms54 l : Int), l') ∧ Ev (fun k => laws_heldProposerS.f k l' k0) (k0 + (ms54 l : Int)) := by
  obtain ⟨l', e, h4, h5⟩ := laws_markProposerS.go l h3 [] [] k0 h0 h1 (by simpa using h2) rfl
  exact ⟨l', e, by simpa [laws_markProposerS.f] using h4, by simpa [laws_heldProposerS.f] using h5⟩

theorem laws_markSynod.two (l0 : List S70) (l1 : List S54) (k0 : Int) (h0 : 0 ≤ k0) (h1 : k0 + (ms70 (l0) : Int) + (ms54 (l1) : Int) ≤ 9223372036854775807) (hl0 : l0.length ≤ 9223372036854775807) (ho0 : mok70 l0) (hl1 : l1.length ≤ 9223372036854775807) (ho1 : mok54 l1) : ∃ (m0 : List S70) (m1 : List S54), Ev (fun k => laws_markSynod.f k l0 l1 k0) (k0 + (ms70 (l0) : Int) + (ms54 (l1) : Int), m0, m1) ∧ Ev (fun k => laws_heldSynod.f k m0 m1 k0) (k0 + (ms70 (l0) : Int) + (ms54 (l1) : Int)) := by
  obtain ⟨m0, e0, hm0, hh0⟩ := laws_markAcceptorS.two l0 (k0) (by omega) (by omega) hl0 ho0
  obtain ⟨m1, e1, hm1, hh1⟩ := laws_markProposerS.two l1 (k0 + (ms70 (l0) : Int)) (by omega) (by omega) hl1 ho1
  refine ⟨m0, m1, ?_, ?_⟩
  · unfold laws_markSynod.f
    exact Ev.bind hm0 (Ev.bind hm1 (Ev.now _))
  · unfold laws_heldSynod.f
    exact Ev.bind hh0 (Ev.neg (by omega) (Ev.bind hh1 (Ev.neg (by omega) (Ev.now _))))

theorem ms70_len (l : List S70) : ms70 l = 3 * l.length := by
  induction l with
  | nil => rfl
  | cons x r ih => simp only [ms70, mc70, List.length_cons, ih]; omega
theorem props_bare (l : List S54) (h : ∀ w ∈ l, w.f1 = [] ∧ w.f4 = [] ∧ w.f0.size ≤ 1048576 ∧ w.f3.size ≤ 1048576) : ms54 l = 3 * l.length ∧ mok54 l ∧ (∀ w ∈ l, okE54 w) := by
  refine ⟨?_, fun w hw => ?_, fun w hw => ?_⟩
  · induction l with
    | nil => rfl
    | cons x r ih =>
      obtain ⟨e2, e4, _⟩ := h x (List.mem_cons_self ..)
      have := ih (fun w hw => h w (List.mem_cons_of_mem _ hw))
      simp only [ms54, mc54, List.length_cons, this, e2, e4, ms73, List.length_nil]; omega
  · obtain ⟨e2, e4, _⟩ := h w hw
    rw [e2, e4]; exact ⟨by simp, fun z hz => by simp at hz, by simp⟩
  · obtain ⟨e2, e4, h3, h4⟩ := h w hw
    unfold okE54; rw [e2, e4]
    exact ⟨h3, ⟨by simp, fun z hz => by simp at hz⟩, h4, by unfold okLI; simp⟩
theorem newSynodP_ok (m : Int) (l : List ByteArray) (hs : ∀ s ∈ l, s.size ≤ 1048576) : (newSynodP m l).1.length ≤ 12 ∧ (newSynodP m l).2.1.length ≤ 8 ∧ (∀ z ∈ (newSynodP m l).1, okE70 z) ∧ (∀ w ∈ (newSynodP m l).2.1, w.f1 = [] ∧ w.f4 = [] ∧ w.f0.size ≤ 1048576 ∧ w.f3.size ≤ 1048576) := by
  unfold newSynodP
  split
  · rename_i h
    obtain ⟨h12, h3⟩ := Bool.and_eq_true_iff.1 h
    obtain ⟨h1, h2⟩ := Bool.and_eq_true_iff.1 h12
    have b1 := inB_iff.1 h1
    have b2 := inB_iff.1 h2
    refine ⟨by simp; omega, by simp; omega, fun z hz => ?_, fun w hw => ?_⟩
    · rw [(List.mem_replicate.1 hz).2]
      unfold okE70 okLS z70; decide
    · simp only [List.mem_map] at hw
      obtain ⟨p, hp, rfl⟩ := hw
      exact ⟨rfl, rfl, hs p hp, by show (0 : Nat) ≤ _; omega⟩
  · exact ⟨by simp, by simp, fun z hz => by simp at hz, fun z hz => by simp at hz⟩
theorem holds_ev (m : Int) (l : List ByteArray) (hl : l.length ≤ 9223372036854775807) (hx : ∀ s ∈ l, s.size ≤ 9223372036854775807) : Ev (fun k => laws_FnExactNewSynod.f k m l) true := by
  unfold laws_FnExactNewSynod.f
  obtain ⟨z, hz, _, hz2⟩ := laws_szStringS.ev l 1048576 (by omega) (by omega) hl hx
  refine Ev.bind hz ?_
  dsimp only
  refine Ev.cases (fun h => Ev.some rfl) (fun h => ?_)
  obtain ⟨hl, hs⟩ := hz2 (by omega)
  refine Ev.bind (laws_toStringS.ev l hl) ?_
  refine Ev.bind (spec_NewSynod.ev m l hs) ?_
  have hI := impl_NewSynod.ev m l hs
  obtain ⟨h1, h2, h3, h4⟩ := newSynodP_ok m l hs
  generalize newSynodP m l = N at hI h1 h2 h3 h4 ⊢
  obtain ⟨ac, ps, ok⟩ := N
  dsimp only at h1 h2 h3 h4 ⊢
  obtain ⟨w1, w2, w3⟩ := props_bare ps h4
  have b1 := ms70_len ac
  refine Ev.bind hI ?_
  dsimp only
  obtain ⟨tm, _, hm⟩ := laws_markStringS.ev l 1 (by omega) (by omega) hl
  obtain ⟨m0, m1, hx, hh⟩ := laws_markSynod.two ac ps 1 (by omega) (by omega) (by omega) (fun _ _ => trivial) (by omega) w2
  refine Ev.iff (laws_eqSynod.refl ac ps ⟨by omega, h3⟩ ⟨by omega, w3⟩) (Ev.pos rfl (Ev.iff (laws_eqStringS.refl l hl) (Ev.bind hm ?_)))
  dsimp only
  refine Ev.pos (by omega) (Ev.bind hx ?_)
  dsimp only
  exact Ev.bind hh (Ev.pos (by omega) (Ev.pos rfl (Ev.now _)))

end Go.Proofs.Ytjpaoeeeiklfnaa.PNS
namespace Go.Proofs.Ytjpaoeeeiklfnaa.PureFnExactNewSynod
open Go.RowKit Go.Proofs.Ytjpaoeeeiklfnaa.PNS Go.Proofs.Ytjpaoeeeiklfnaa.Base Go.Proofs.Ytjpaoeeeiklfnaa.Open Go.Proofs.YtjpaoeeeiklfnaaW.PrintWords Go.Proofs.YtjpaoeeeiklfnaaW.PrintLast
theorem holds (a0 : Int) (l1 : List ByteArray) (w0 : (Lit.int .i64 a0).wf = true) (w1 : (l1.length ≤ 9223372036854775807 ∧ ∀ z ∈ l1, z.size ≤ 9223372036854775807)) : ∃ k, Go.Proofs.Ytjpaoeeeiklfnaa.PNS.laws_FnExactNewSynod.f k a0 l1 = some true := by
  have _h := w0
  exact (holds_ev a0 l1 w1.1 w1.2).rounds
end Go.Proofs.Ytjpaoeeeiklfnaa.PureFnExactNewSynod
