/- What this text proves: laws.FnExactChosenIn, told as plain functions of numbers and lists, answers true for all arguments.
   Conditions: the bounds that the typed reading gives. -/
import Derived.Test.YtjpaoeeeiklfnaaPSYx12
import Derived.Test.YtjpaoeeeiklfnaaOpen
import Derived.Test.YtjpaoeeeiklfnaaBase
namespace Go.Proofs.Ytjpaoeeeiklfnaa.PSY
open Go.RowKit Go.Proofs.Ytjpaoeeeiklfnaa.Base Go.Proofs.Ytjpaoeeeiklfnaa.Open Go.Proofs.YtjpaoeeeiklfnaaW.PrintWords Go.Proofs.YtjpaoeeeiklfnaaW.PrintLast Go.Proofs.YtjpaoeeeiklfnaaW.PrintMore
set_option linter.unusedVariables false
set_option linter.unusedSimpArgs false
theorem op3 : Opens Try.prog 3 (Kd.int .i64) (fun x => (Lit.int .i64 x).wf = true) := Opens.int Try.underlying3 (by kernel_rfl)
theorem op9 : Opens Try.prog 9 Kd.string (fun x => x.size ≤ 9223372036854775807) := Opens.string Try.underlying9 (by kernel_rfl)
def W76 (x : S76) : Prop := (Lit.int .i64 x.f0).wf = true ∧ (Lit.int .i64 x.f1).wf = true ∧ x.f2.size ≤ 9223372036854775807
theorem o76 : Opens Try.prog 76 k76 W76 := by
  have h := Opens.struct Try.underlying76 (by kernel_rfl) (Fits.cons (P := Try.prog) rfl op3 (Fits.cons (P := Try.prog) rfl op3 (Fits.one (P := Try.prog) rfl op9)))
  exact Opens.iso (fun x : S76 => (x.f0, x.f1, x.f2)) (fun p => ⟨p.1, p.2.1, p.2.2⟩) (fun _ => rfl) h
theorem op22 : Opens Try.prog 22 (Kd.slice 76 k76) (fun x => (x.length ≤ 9223372036854775807 ∧ ∀ z ∈ x, W76 z)) := Opens.slice Try.underlying22 (by kernel_rfl) o76
def W113 (x : S113) : Prop := (Lit.int .i64 x.f0).wf = true ∧ (Lit.int .i64 x.f1).wf = true ∧ x.f2.size ≤ 9223372036854775807
theorem o113 : Opens Try.prog 113 k113 W113 := by
  have h := Opens.struct Try.underlying113 (by kernel_rfl) (Fits.cons (P := Try.prog) rfl op3 (Fits.cons (P := Try.prog) rfl op3 (Fits.one (P := Try.prog) rfl op9)))
  exact Opens.iso (fun x : S113 => (x.f0, x.f1, x.f2)) (fun p => ⟨p.1, p.2.1, p.2.2⟩) (fun _ => rfl) h
theorem op78 : Opens Try.prog 78 (Kd.slice 113 k113) (fun x => (x.length ≤ 9223372036854775807 ∧ ∀ z ∈ x, W113 z)) := Opens.slice Try.underlying78 (by kernel_rfl) o113
theorem op4 : Opens Try.prog 4 Kd.bool (fun x => True) := Opens.bool Try.underlying4 (by kernel_rfl)
theorem op52 : Opens Try.prog 52 (Kd.slice 3 (Kd.int .i64)) (fun x => (x.length ≤ 9223372036854775807 ∧ ∀ z ∈ x, (Lit.int .i64 z).wf = true)) := Opens.slice Try.underlying52 (by kernel_rfl) op3
def W80 (x : S80) : Prop := x.f0.size ≤ 9223372036854775807 ∧ (x.f1.length ≤ 9223372036854775807 ∧ ∀ z ∈ x.f1, W113 z) ∧ True ∧ x.f3.size ≤ 9223372036854775807 ∧ (x.f4.length ≤ 9223372036854775807 ∧ ∀ z ∈ x.f4, (Lit.int .i64 z).wf = true)
theorem o80 : Opens Try.prog 80 k80 W80 := by
  have h := Opens.struct Try.underlying80 (by kernel_rfl) (Fits.cons (P := Try.prog) rfl op9 (Fits.cons (P := Try.prog) rfl op78 (Fits.cons (P := Try.prog) rfl op4 (Fits.cons (P := Try.prog) rfl op9 (Fits.one (P := Try.prog) rfl op52)))))
  exact Opens.iso (fun x : S80 => (x.f0, x.f1, x.f2, x.f3, x.f4)) (fun p => ⟨p.1, p.2.1, p.2.2.1, p.2.2.2.1, p.2.2.2.2⟩) (fun _ => rfl) h
theorem op23 : Opens Try.prog 23 (Kd.slice 80 k80) (fun x => (x.length ≤ 9223372036854775807 ∧ ∀ z ∈ x, W80 z)) := Opens.slice Try.underlying23 (by kernel_rfl) o80
def okLS (s : ByteArray) : Prop := s.size ≤ 1048576
def bigLS (s : ByteArray) : Prop := s.size ≤ 9223372036854775807
theorem laws_szAcceptor.ev (x0 : Int) (x1 : Int) (x2 : ByteArray) (a : Int) (g0 : 0 ≤ a) (g1 : a ≤ 1048576) (h2 : bigLS x2) : ∃ r, laws_szAcceptor.f x0 x1 x2 a = some r ∧ r ≤ a ∧ (0 ≤ r → okLS x2) := by
  have hs2 : x2.size ≤ 9223372036854775807 := h2
  by_cases c2 : a - (x2.size : Int) < 0
  · exact ⟨-1, by unfold laws_szAcceptor.f; rw [w64 (x := a - (x2.size : Int)) (by omega) (by omega)]; rw [if_pos c2], by omega, fun h => by omega⟩
  exact ⟨(a - (x2.size : Int)), by unfold laws_szAcceptor.f; rw [w64 (x := a - (x2.size : Int)) (by omega) (by omega)]; rw [if_neg c2], by omega, fun h => (by unfold okLS; omega)⟩

def okE76 (z : S76) : Prop := okLS z.f2
def okL76 (l : List S76) : Prop := l.length ≤ 1048576 ∧ ∀ z ∈ l, okE76 z
def bigE76 (z : S76) : Prop := bigLS z.f2
def bigL76 (l : List S76) : Prop := l.length ≤ 9223372036854775807 ∧ ∀ z ∈ l, bigE76 z
theorem laws_szAcceptorS.ev (l : List S76) (a : Int) (h0 : 0 ≤ a) (h1 : a ≤ 1048576) (hb : bigL76 l) : ∃ r, Ev (fun k => laws_szAcceptorS.f k l a) r ∧ r ≤ a ∧ (0 ≤ r → okL76 l) := by
  obtain ⟨hl, hx⟩ := hb
  unfold laws_szAcceptorS.f
  rw [w64 (by omega) (by omega)]
  by_cases h : a - l.length < 0
  · exact ⟨-1, Ev.pos h (Ev.now _), by omega, fun h => by omega⟩
  · have key : ∀ d i : Nat, i + d = l.length → ∀ b : Int, 0 ≤ b → b ≤ 1048576 → ∃ r, Ev (fun k => laws_szAcceptorS.l0 k l b i) r ∧ r ≤ b ∧ (0 ≤ r → ∀ x ∈ l.drop i, okE76 x) := by
      intro d
      induction d with
      | zero =>
        intro i hi b hb0 hb1
        have : i = l.length := by omega
        subst this
        exact ⟨b, Ev.step (fun k => by rw [laws_szAcceptorS.l0]) (Ev.neg (by omega) (Ev.now _)), by omega, fun _ x hx => by simp at hx⟩
      | succ d ih =>
        intro i hi b hb0 hb1
        have hlt : i < l.length := by omega
        have hz := hx _ (List.getElem_mem hlt)
        obtain ⟨r, hr, h2, h3⟩ := laws_szAcceptor.ev (l[i].f0) (l[i].f1) (l[i].f2) b hb0 hb1 (hz)
        have e : rd_T76 l (i : Int) = l[i] := getD_nat l _ hlt
        by_cases hr0 : r < 0
        · refine ⟨-1, Ev.step (fun k => by rw [laws_szAcceptorS.l0]) (Ev.pos (by omega) (Ev.pos (by omega) ?_)), by omega, fun h => by omega⟩
          rw [e]
          exact Ev.bindS hr (Ev.pos hr0 (Ev.now _))
        · obtain ⟨q, hq, h5, h4⟩ := ih (i + 1) (by omega) r (by omega) (by omega)
          refine ⟨q, Ev.step (fun k => by rw [laws_szAcceptorS.l0]) (Ev.pos (by omega) (Ev.pos (by omega) ?_)), by omega, fun h x hx => ?_⟩
          · rw [e, w64_succ hlt hl]
            exact Ev.bindS hr (Ev.neg hr0 hq)
          · rw [List.drop_eq_getElem_cons hlt] at hx
            rcases List.mem_cons.1 hx with rfl | hx
            · exact h3 (by omega)
            · exact h4 h x hx
    obtain ⟨r, hr, h5, h2⟩ := key l.length 0 (by omega) (a - l.length) (by omega) (by omega)
    exact ⟨r, Ev.neg h hr, by omega, fun h => ⟨by omega, fun x hx => h2 h x (by simpa using hx)⟩⟩

theorem laws_szPromise.ev (x0 : Int) (x1 : Int) (x2 : ByteArray) (a : Int) (g0 : 0 ≤ a) (g1 : a ≤ 1048576) (h2 : bigLS x2) : ∃ r, laws_szPromise.f x0 x1 x2 a = some r ∧ r ≤ a ∧ (0 ≤ r → okLS x2) := by
  have hs2 : x2.size ≤ 9223372036854775807 := h2
  by_cases c2 : a - (x2.size : Int) < 0
  · exact ⟨-1, by unfold laws_szPromise.f; rw [w64 (x := a - (x2.size : Int)) (by omega) (by omega)]; rw [if_pos c2], by omega, fun h => by omega⟩
  exact ⟨(a - (x2.size : Int)), by unfold laws_szPromise.f; rw [w64 (x := a - (x2.size : Int)) (by omega) (by omega)]; rw [if_neg c2], by omega, fun h => (by unfold okLS; omega)⟩

def okE113 (z : S113) : Prop := okLS z.f2
def okL113 (l : List S113) : Prop := l.length ≤ 1048576 ∧ ∀ z ∈ l, okE113 z
def bigE113 (z : S113) : Prop := bigLS z.f2
def bigL113 (l : List S113) : Prop := l.length ≤ 9223372036854775807 ∧ ∀ z ∈ l, bigE113 z
theorem laws_szPromiseS.ev (l : List S113) (a : Int) (h0 : 0 ≤ a) (h1 : a ≤ 1048576) (hb : bigL113 l) : ∃ r, Ev (fun k => laws_szPromiseS.f k l a) r ∧ r ≤ a ∧ (0 ≤ r → okL113 l) := by
  obtain ⟨hl, hx⟩ := hb
  unfold laws_szPromiseS.f
  rw [w64 (by omega) (by omega)]
  by_cases h : a - l.length < 0
  · exact ⟨-1, Ev.pos h (Ev.now _), by omega, fun h => by omega⟩
  · have key : ∀ d i : Nat, i + d = l.length → ∀ b : Int, 0 ≤ b → b ≤ 1048576 → ∃ r, Ev (fun k => laws_szPromiseS.l0 k l b i) r ∧ r ≤ b ∧ (0 ≤ r → ∀ x ∈ l.drop i, okE113 x) := by
      intro d
      induction d with
      | zero =>
        intro i hi b hb0 hb1
        have : i = l.length := by omega
        subst this
        exact ⟨b, Ev.step (fun k => by rw [laws_szPromiseS.l0]) (Ev.neg (by omega) (Ev.now _)), by omega, fun _ x hx => by simp at hx⟩
      | succ d ih =>
        intro i hi b hb0 hb1
        have hlt : i < l.length := by omega
        have hz := hx _ (List.getElem_mem hlt)
        obtain ⟨r, hr, h2, h3⟩ := laws_szPromise.ev (l[i].f0) (l[i].f1) (l[i].f2) b hb0 hb1 (hz)
        have e : rd_T113 l (i : Int) = l[i] := getD_nat l _ hlt
        by_cases hr0 : r < 0
        · refine ⟨-1, Ev.step (fun k => by rw [laws_szPromiseS.l0]) (Ev.pos (by omega) (Ev.pos (by omega) ?_)), by omega, fun h => by omega⟩
          rw [e]
          exact Ev.bindS hr (Ev.pos hr0 (Ev.now _))
        · obtain ⟨q, hq, h5, h4⟩ := ih (i + 1) (by omega) r (by omega) (by omega)
          refine ⟨q, Ev.step (fun k => by rw [laws_szPromiseS.l0]) (Ev.pos (by omega) (Ev.pos (by omega) ?_)), by omega, fun h x hx => ?_⟩
          · rw [e, w64_succ hlt hl]
            exact Ev.bindS hr (Ev.neg hr0 hq)
          · rw [List.drop_eq_getElem_cons hlt] at hx
            rcases List.mem_cons.1 hx with rfl | hx
            · exact h3 (by omega)
            · exact h4 h x hx
    obtain ⟨r, hr, h5, h2⟩ := key l.length 0 (by omega) (a - l.length) (by omega) (by omega)
    exact ⟨r, Ev.neg h hr, by omega, fun h => ⟨by omega, fun x hx => h2 h x (by simpa using hx)⟩⟩

def okLI (l : List Int) : Prop := l.length ≤ 1048576
def bigLI (l : List Int) : Prop := l.length ≤ 9223372036854775807
theorem laws_szIntS.ev (l : List Int) (a : Int) (h0 : 0 ≤ a) (h1 : a ≤ 1048576) (hb : bigLI l) : ∃ r, laws_szIntS.f l a = some r ∧ r ≤ a ∧ (0 ≤ r → okLI l) := by
  have hl : l.length ≤ 9223372036854775807 := hb
  unfold laws_szIntS.f
  rw [w64 (by omega) (by omega)]
  by_cases h : a < l.length
  · exact ⟨-1, by rw [if_pos (by omega)], by omega, fun h => by omega⟩
  · exact ⟨_, by rw [if_neg (by omega)], by omega, fun _ => (by unfold okLI; omega)⟩

theorem laws_szProposer.ev (x0 : ByteArray) (x1 : List (S113)) (x2 : Bool) (x3 : ByteArray) (x4 : List Int) (a : Int) (g0 : 0 ≤ a) (g1 : a ≤ 1048576) (h0 : bigLS x0) (h1 : bigL113 x1) (h3 : bigLS x3) (h4 : bigLI x4) : ∃ r, Ev (fun k => laws_szProposer.f k x0 x1 x2 x3 x4 a) r ∧ r ≤ a ∧ (0 ≤ r → okLS x0 ∧ okL113 x1 ∧ okLS x3 ∧ okLI x4) := by
  have hs0 : x0.size ≤ 9223372036854775807 := h0
  have hs3 : x3.size ≤ 9223372036854775807 := h3
  by_cases c0 : a - (x0.size : Int) < 0
  · exact ⟨-1, by unfold laws_szProposer.f; rw [w64 (x := a - (x0.size : Int)) (by omega) (by omega)]; refine Ev.pos c0 ?_; exact Ev.now _, by omega, fun h => by omega⟩
  obtain ⟨r1, e1, b1, o1⟩ := laws_szPromiseS.ev x1 (a - (x0.size : Int)) (by omega) (by omega) h1
  by_cases c1 : r1 < 0
  · exact ⟨-1, by unfold laws_szProposer.f; rw [w64 (x := a - (x0.size : Int)) (by omega) (by omega)]; refine Ev.neg c0 ?_; refine Ev.bind e1 ?_; refine Ev.pos c1 ?_; exact Ev.now _, by omega, fun h => by omega⟩
  by_cases c3 : r1 - (x3.size : Int) < 0
  · exact ⟨-1, by unfold laws_szProposer.f; rw [w64 (x := a - (x0.size : Int)) (by omega) (by omega)]; refine Ev.neg c0 ?_; refine Ev.bind e1 ?_; refine Ev.neg c1 ?_; rw [w64 (x := r1 - (x3.size : Int)) (by omega) (by omega)]; refine Ev.pos c3 ?_; exact Ev.now _, by omega, fun h => by omega⟩
  obtain ⟨r4, e4, b4, o4⟩ := laws_szIntS.ev x4 (r1 - (x3.size : Int)) (by omega) (by omega) h4
  by_cases c4 : r4 < 0
  · exact ⟨-1, by unfold laws_szProposer.f; rw [w64 (x := a - (x0.size : Int)) (by omega) (by omega)]; refine Ev.neg c0 ?_; refine Ev.bind e1 ?_; refine Ev.neg c1 ?_; rw [w64 (x := r1 - (x3.size : Int)) (by omega) (by omega)]; refine Ev.neg c3 ?_; refine Ev.bindS e4 ?_; refine Ev.pos c4 ?_; exact Ev.now _, by omega, fun h => by omega⟩
  exact ⟨r4, by unfold laws_szProposer.f; rw [w64 (x := a - (x0.size : Int)) (by omega) (by omega)]; refine Ev.neg c0 ?_; refine Ev.bind e1 ?_; refine Ev.neg c1 ?_; rw [w64 (x := r1 - (x3.size : Int)) (by omega) (by omega)]; refine Ev.neg c3 ?_; refine Ev.bindS e4 ?_; refine Ev.neg c4 ?_; exact Ev.now _, by omega, fun h => ⟨(by unfold okLS; omega), o1 (by omega), (by unfold okLS; omega), o4 (by omega)⟩⟩

def okE80 (z : S80) : Prop := okLS z.f0 ∧ okL113 z.f1 ∧ okLS z.f3 ∧ okLI z.f4
def okL80 (l : List S80) : Prop := l.length ≤ 1048576 ∧ ∀ z ∈ l, okE80 z
def bigE80 (z : S80) : Prop := bigLS z.f0 ∧ bigL113 z.f1 ∧ bigLS z.f3 ∧ bigLI z.f4
def bigL80 (l : List S80) : Prop := l.length ≤ 9223372036854775807 ∧ ∀ z ∈ l, bigE80 z
theorem laws_szProposerS.ev (l : List S80) (a : Int) (h0 : 0 ≤ a) (h1 : a ≤ 1048576) (hb : bigL80 l) : ∃ r, Ev (fun k => laws_szProposerS.f k l a) r ∧ r ≤ a ∧ (0 ≤ r → okL80 l) := by
  obtain ⟨hl, hx⟩ := hb
  unfold laws_szProposerS.f
  rw [w64 (by omega) (by omega)]
  by_cases h : a - l.length < 0
  · exact ⟨-1, Ev.pos h (Ev.now _), by omega, fun h => by omega⟩
  · have key : ∀ d i : Nat, i + d = l.length → ∀ b : Int, 0 ≤ b → b ≤ 1048576 → ∃ r, Ev (fun k => laws_szProposerS.l0 k l b i) r ∧ r ≤ b ∧ (0 ≤ r → ∀ x ∈ l.drop i, okE80 x) := by
      intro d
      induction d with
      | zero =>
        intro i hi b hb0 hb1
        have : i = l.length := by omega
        subst this
        exact ⟨b, Ev.step (fun k => by rw [laws_szProposerS.l0]) (Ev.neg (by omega) (Ev.now _)), by omega, fun _ x hx => by simp at hx⟩
      | succ d ih =>
        intro i hi b hb0 hb1
        have hlt : i < l.length := by omega
        have hz := hx _ (List.getElem_mem hlt)
        obtain ⟨r, hr, h2, h3⟩ := laws_szProposer.ev (l[i].f0) (l[i].f1) (l[i].f2) (l[i].f3) (l[i].f4) b hb0 hb1 (hz.1) (hz.2.1) (hz.2.2.1) (hz.2.2.2)
        have e : rd_T80 l (i : Int) = l[i] := getD_nat l _ hlt
        by_cases hr0 : r < 0
        · refine ⟨-1, Ev.step (fun k => by rw [laws_szProposerS.l0]) (Ev.pos (by omega) (Ev.pos (by omega) ?_)), by omega, fun h => by omega⟩
          rw [e]
          exact Ev.bind hr (Ev.pos hr0 (Ev.now _))
        · obtain ⟨q, hq, h5, h4⟩ := ih (i + 1) (by omega) r (by omega) (by omega)
          refine ⟨q, Ev.step (fun k => by rw [laws_szProposerS.l0]) (Ev.pos (by omega) (Ev.pos (by omega) ?_)), by omega, fun h x hx => ?_⟩
          · rw [e, w64_succ hlt hl]
            exact Ev.bind hr (Ev.neg hr0 hq)
          · rw [List.drop_eq_getElem_cons hlt] at hx
            rcases List.mem_cons.1 hx with rfl | hx
            · exact h3 (by omega)
            · exact h4 h x hx
    obtain ⟨r, hr, h5, h2⟩ := key l.length 0 (by omega) (a - l.length) (by omega) (by omega)
    exact ⟨r, Ev.neg h hr, by omega, fun h => ⟨by omega, fun x hx => h2 h x (by simpa using hx)⟩⟩

theorem laws_szSynod.ev (x0 : List (S76)) (x1 : List (S80)) (a : Int) (g0 : 0 ≤ a) (g1 : a ≤ 1048576) (h0 : bigL76 x0) (h1 : bigL80 x1) : ∃ r, Ev (fun k => laws_szSynod.f k x0 x1 a) r ∧ r ≤ a ∧ (0 ≤ r → okL76 x0 ∧ okL80 x1) := by
  obtain ⟨r0, e0, b0, o0⟩ := laws_szAcceptorS.ev x0 a g0 g1 h0
  by_cases c0 : r0 < 0
  · exact ⟨-1, by unfold laws_szSynod.f; refine Ev.bind e0 ?_; refine Ev.pos c0 ?_; exact Ev.now _, by omega, fun h => by omega⟩
  obtain ⟨r1, e1, b1, o1⟩ := laws_szProposerS.ev x1 r0 (by omega) (by omega) h1
  by_cases c1 : r1 < 0
  · exact ⟨-1, by unfold laws_szSynod.f; refine Ev.bind e0 ?_; refine Ev.neg c0 ?_; refine Ev.bind e1 ?_; refine Ev.pos c1 ?_; exact Ev.now _, by omega, fun h => by omega⟩
  exact ⟨r1, by unfold laws_szSynod.f; refine Ev.bind e0 ?_; refine Ev.neg c0 ?_; refine Ev.bind e1 ?_; refine Ev.neg c1 ?_; exact Ev.now _, by omega, fun h => ⟨o0 (by omega), o1 (by omega)⟩⟩

theorem laws_toAcceptor.ev (x0 : Int) (x1 : Int) (x2 : ByteArray) : laws_toAcceptor.f x0 x1 x2 = some (x0, x1, x2) := rfl

def okE70 (z : S70) : Prop := okLS z.f2
def okL70 (l : List S70) : Prop := l.length ≤ 1048576 ∧ ∀ z ∈ l, okE70 z
def bigE70 (z : S70) : Prop := bigLS z.f2
def bigL70 (l : List S70) : Prop := l.length ≤ 9223372036854775807 ∧ ∀ z ∈ l, bigE70 z
def c76 (x : S76) : S70 := ⟨x.f0, x.f1, x.f2⟩
theorem okE76_map {x : S76} (h : okE76 x) : okE70 (c76 x) := h
theorem okL76_map {l : List S76} (h : okL76 l) : okL70 (l.map c76) := ⟨by simpa using h.1, fun x hx => by obtain ⟨y, hy, rfl⟩ := List.mem_map.1 hx; exact okE76_map (h.2 y hy)⟩
theorem laws_toAcceptorS.ev (l : List S76) (hb : okL76 l) : Ev (fun k => laws_toAcceptorS.f k l) (l.map c76) := by
  obtain ⟨hl, hx⟩ := hb
  unfold laws_toAcceptorS.f
  refine Ev.pos (by omega) (Ev.pos (by omega) ?_)
  refine Ev.eq (Ev.up (g := fun k i => laws_toAcceptorS.l0 k l ((l.take i.toNat).map c76 ++ List.replicate (l.length - i.toNat) z70) i) l.length (fun _ => l.map c76) ?_) rfl
  intro i hi ih
  refine Ev.step (fun k => by rw [laws_toAcceptorS.l0]) ?_
  by_cases hlt : i < l.length
  · have h2 := ih hlt
    have h3 := hx _ (List.getElem_mem hlt)
    simp only [Int.toNat_natCast] at h2 ⊢
    have e : rd_T76 l (i : Int) = l[i] := getD_nat l _ hlt
    rw [e, w64_succ hlt (by omega)]
    refine Ev.pos (by omega) (Ev.pos (by omega) (Ev.bindS (laws_toAcceptor.ev (l[i].f0) (l[i].f1) (l[i].f2)) (Ev.pos (by rw [fill_len _ _ _ _ hi]; omega) ?_)))
    refine Ev.congr (fun k => ?_) h2
    rw [← set_fillM c76 l z70 hlt]; rfl
  · have : i = l.length := by omega
    subst this
    refine Ev.neg (by omega) (Ev.some ?_)
    simp only [Int.toNat_natCast]
    exact fill_end _ _ _

theorem laws_toPromise.ev (x0 : Int) (x1 : Int) (x2 : ByteArray) : laws_toPromise.f x0 x1 x2 = some (x0, x1, x2) := rfl

def okE73 (z : S73) : Prop := okLS z.f2
def okL73 (l : List S73) : Prop := l.length ≤ 1048576 ∧ ∀ z ∈ l, okE73 z
def bigE73 (z : S73) : Prop := bigLS z.f2
def bigL73 (l : List S73) : Prop := l.length ≤ 9223372036854775807 ∧ ∀ z ∈ l, bigE73 z
def c113 (x : S113) : S73 := ⟨x.f0, x.f1, x.f2⟩
theorem okE113_map {x : S113} (h : okE113 x) : okE73 (c113 x) := h
theorem okL113_map {l : List S113} (h : okL113 l) : okL73 (l.map c113) := ⟨by simpa using h.1, fun x hx => by obtain ⟨y, hy, rfl⟩ := List.mem_map.1 hx; exact okE113_map (h.2 y hy)⟩
theorem laws_toPromiseS.ev (l : List S113) (hb : okL113 l) : Ev (fun k => laws_toPromiseS.f k l) (l.map c113) := by
  obtain ⟨hl, hx⟩ := hb
  unfold laws_toPromiseS.f
  refine Ev.pos (by omega) (Ev.pos (by omega) ?_)
  refine Ev.eq (Ev.up (g := fun k i => laws_toPromiseS.l0 k l ((l.take i.toNat).map c113 ++ List.replicate (l.length - i.toNat) z73) i) l.length (fun _ => l.map c113) ?_) rfl
  intro i hi ih
  refine Ev.step (fun k => by rw [laws_toPromiseS.l0]) ?_
  by_cases hlt : i < l.length
  · have h2 := ih hlt
    have h3 := hx _ (List.getElem_mem hlt)
    simp only [Int.toNat_natCast] at h2 ⊢
    have e : rd_T113 l (i : Int) = l[i] := getD_nat l _ hlt
    rw [e, w64_succ hlt (by omega)]
    refine Ev.pos (by omega) (Ev.pos (by omega) (Ev.bindS (laws_toPromise.ev (l[i].f0) (l[i].f1) (l[i].f2)) (Ev.pos (by rw [fill_len _ _ _ _ hi]; omega) ?_)))
    refine Ev.congr (fun k => ?_) h2
    rw [← set_fillM c113 l z73 hlt]; rfl
  · have : i = l.length := by omega
    subst this
    refine Ev.neg (by omega) (Ev.some ?_)
    simp only [Int.toNat_natCast]
    exact fill_end _ _ _

theorem laws_toIntS.ev0 (l : List Int) (hl : l.length ≤ 1048576) : Ev (fun k => laws_toIntS.f k l) l := by
  unfold laws_toIntS.f
  refine Ev.pos (by omega) (Ev.pos (by omega) ?_)
  refine Ev.eq (Ev.up (g := fun k i => laws_toIntS.l0 k l (l.take i.toNat ++ List.replicate (l.length - i.toNat) 0) i) l.length (fun _ => l) ?_) rfl
  intro i hi ih
  refine Ev.step (fun k => by rw [laws_toIntS.l0]) ?_
  by_cases hlt : i < l.length
  · refine Ev.pos (by omega) (Ev.pos (by omega) (Ev.pos (by simp; omega) ?_))
    rw [rd_get hlt, w64_succ hlt (by omega)]
    have h2 := ih hlt
    simp only [Int.toNat_natCast] at h2 ⊢
    rw [set_fill l 0 hlt]
    exact h2
  · refine Ev.neg (by omega) (Ev.some ?_)
    simp only [Int.toNat_natCast]
    have : i = l.length := by omega
    subst this
    simp
theorem laws_toIntS.ev (l : List Int) (hl : okLI l) : Ev (fun k => laws_toIntS.f k l) l := laws_toIntS.ev0 l hl

theorem laws_toProposer.ev (x0 : ByteArray) (x1 : List (S113)) (x2 : Bool) (x3 : ByteArray) (x4 : List Int) (h1 : okL113 x1) (h4 : okLI x4) : Ev (fun k => laws_toProposer.f k x0 x1 x2 x3 x4) (x0, x1.map c113, x2, x3, x4) := by
  unfold laws_toProposer.f
  exact Ev.bind (laws_toPromiseS.ev _ h1) (Ev.bind (laws_toIntS.ev _ h4) (Ev.now _))

def okE54 (z : S54) : Prop := okLS z.f0 ∧ okL73 z.f1 ∧ okLS z.f3 ∧ okLI z.f4
def okL54 (l : List S54) : Prop := l.length ≤ 1048576 ∧ ∀ z ∈ l, okE54 z
def bigE54 (z : S54) : Prop := bigLS z.f0 ∧ bigL73 z.f1 ∧ bigLS z.f3 ∧ bigLI z.f4
def bigL54 (l : List S54) : Prop := l.length ≤ 9223372036854775807 ∧ ∀ z ∈ l, bigE54 z
def c80 (x : S80) : S54 := ⟨x.f0, x.f1.map c113, x.f2, x.f3, x.f4⟩
theorem okE80_map {x : S80} (h : okE80 x) : okE54 (c80 x) := ⟨h.1, okL113_map h.2.1, h.2.2.1, h.2.2.2⟩
theorem okL80_map {l : List S80} (h : okL80 l) : okL54 (l.map c80) := ⟨by simpa using h.1, fun x hx => by obtain ⟨y, hy, rfl⟩ := List.mem_map.1 hx; exact okE80_map (h.2 y hy)⟩
theorem laws_toProposerS.ev (l : List S80) (hb : okL80 l) : Ev (fun k => laws_toProposerS.f k l) (l.map c80) := by
  obtain ⟨hl, hx⟩ := hb
  unfold laws_toProposerS.f
  refine Ev.pos (by omega) (Ev.pos (by omega) ?_)
  refine Ev.eq (Ev.up (g := fun k i => laws_toProposerS.l0 k l ((l.take i.toNat).map c80 ++ List.replicate (l.length - i.toNat) z54) i) l.length (fun _ => l.map c80) ?_) rfl
  intro i hi ih
  refine Ev.step (fun k => by rw [laws_toProposerS.l0]) ?_
  by_cases hlt : i < l.length
  · have h2 := ih hlt
    have h3 := hx _ (List.getElem_mem hlt)
    simp only [Int.toNat_natCast] at h2 ⊢
    have e : rd_T80 l (i : Int) = l[i] := getD_nat l _ hlt
    rw [e, w64_succ hlt (by omega)]
    refine Ev.pos (by omega) (Ev.pos (by omega) (Ev.bind (laws_toProposer.ev (l[i].f0) (l[i].f1) (l[i].f2) (l[i].f3) (l[i].f4) (h3.2.1) (h3.2.2.2)) (Ev.pos (by rw [fill_len _ _ _ _ hi]; omega) ?_)))
    refine Ev.congr (fun k => ?_) h2
    rw [← set_fillM c80 l z54 hlt]; rfl
  · have : i = l.length := by omega
    subst this
    refine Ev.neg (by omega) (Ev.some ?_)
    simp only [Int.toNat_natCast]
    exact fill_end _ _ _

theorem laws_toSynod.ev (x0 : List (S76)) (x1 : List (S80)) (h0 : okL76 x0) (h1 : okL80 x1) : Ev (fun k => laws_toSynod.f k x0 x1) (x0.map c76, x1.map c80) := by
  unfold laws_toSynod.f
  exact Ev.bind (laws_toAcceptorS.ev _ h0) (Ev.bind (laws_toProposerS.ev _ h1) (Ev.now _))

theorem laws_eqAcceptor.refl (x0 : Int) (x1 : Int) (x2 : ByteArray) : laws_eqAcceptor.f x0 x1 x2 x0 x1 x2 = some true := by
  unfold laws_eqAcceptor.f; simp

theorem laws_eqAcceptorS.refl (x : List S70) (hx : okL70 x) : Ev (fun k => laws_eqAcceptorS.f k x x) true := by
  unfold laws_eqAcceptorS.f
  refine Ev.pos rfl (Ev.eq (Ev.up (g := fun k i => laws_eqAcceptorS.l0 k x x i) x.length (fun _ => true) ?_) rfl)
  intro i hi ih
  refine Ev.step (fun k => by rw [laws_eqAcceptorS.l0]) ?_
  by_cases hlt : i < x.length
  · have e : rd_T70 x (i : Int) = x[i] := getD_nat x _ hlt
    have h3 := hx.2 _ (List.getElem_mem hlt)
    have h1 := hx.1
    rw [e, w64_succ hlt (by omega)]
    exact Ev.pos (by omega) (Ev.pos (by omega) (Ev.pos (by omega) (Ev.bindS (laws_eqAcceptor.refl (x[i].f0) (x[i].f1) (x[i].f2)) (Ev.pos rfl (ih hlt)))))
  · exact Ev.neg (by omega) (Ev.now _)

theorem laws_eqPromise.refl (x0 : Int) (x1 : Int) (x2 : ByteArray) : laws_eqPromise.f x0 x1 x2 x0 x1 x2 = some true := by
  unfold laws_eqPromise.f; simp

theorem laws_eqPromiseS.refl (x : List S73) (hx : okL73 x) : Ev (fun k => laws_eqPromiseS.f k x x) true := by
  unfold laws_eqPromiseS.f
  refine Ev.pos rfl (Ev.eq (Ev.up (g := fun k i => laws_eqPromiseS.l0 k x x i) x.length (fun _ => true) ?_) rfl)
  intro i hi ih
  refine Ev.step (fun k => by rw [laws_eqPromiseS.l0]) ?_
  by_cases hlt : i < x.length
  · have e : rd_T73 x (i : Int) = x[i] := getD_nat x _ hlt
    have h3 := hx.2 _ (List.getElem_mem hlt)
    have h1 := hx.1
    rw [e, w64_succ hlt (by omega)]
    exact Ev.pos (by omega) (Ev.pos (by omega) (Ev.pos (by omega) (Ev.bindS (laws_eqPromise.refl (x[i].f0) (x[i].f1) (x[i].f2)) (Ev.pos rfl (ih hlt)))))
  · exact Ev.neg (by omega) (Ev.now _)

theorem laws_eqIntS.ev (x y : List Int) (hx : x.length ≤ 9223372036854775807) : Ev (fun k => laws_eqIntS.f k x y) (decide (x = y)) := by
  unfold laws_eqIntS.f
  refine Ev.cases (fun hl => ?_) (fun hl => Ev.some ?_)
  · have hl' : x.length = y.length := by omega
    refine Ev.eq (Ev.up (g := fun k i => laws_eqIntS.l0 k x y i) x.length (fun i => decide (x.drop i = y.drop i)) ?_) (by simp)
    intro i hi ih
    refine Ev.step (fun k => by rw [laws_eqIntS.l0]) ?_
    by_cases hlt : i < x.length
    · refine Ev.pos (by omega) (Ev.pos (by omega) (Ev.pos (by omega) ?_))
      rw [rd_get hlt, rd_get (by omega : i < y.length), w64_succ hlt hx]
      have e : decide (x.drop i = y.drop i) = (decide (x[i] = y[i]) && decide (x.drop (i + 1) = y.drop (i + 1))) := drop_eq_step hlt (by omega)
      rw [e]
      refine Ev.cases (fun he => ?_) (fun he => Ev.some (by rw [decide_eq_false he]; rfl))
      exact Ev.eq (ih hlt) (by rw [decide_eq_true he]; rfl)
    · refine Ev.neg (by omega) (Ev.some ?_)
      rw [List.drop_of_length_le (by omega), List.drop_of_length_le (by omega)]
      simp
  · have : x ≠ y := fun h => hl (by rw [h])
    simp [this]
theorem laws_eqIntS.refl (x : List Int) (hx : okLI x) : Ev (fun k => laws_eqIntS.f k x x) true := Ev.eq (laws_eqIntS.ev x x (by unfold okLI at hx; omega)) (by simp)

theorem laws_eqProposer.refl (x0 : ByteArray) (x1 : List (S73)) (x2 : Bool) (x3 : ByteArray) (x4 : List Int) (h1 : okL73 x1) (h4 : okLI x4) : Ev (fun k => laws_eqProposer.f k x0 x1 x2 x3 x4 x0 x1 x2 x3 x4) true := by
  unfold laws_eqProposer.f
  exact (Ev.pos rfl (Ev.bind (laws_eqPromiseS.refl _ h1) (Ev.pos rfl (Ev.neg (by simp) (Ev.pos rfl (Ev.bind (laws_eqIntS.refl _ h4) (Ev.pos rfl (Ev.now _))))))))

theorem laws_eqProposerS.refl (x : List S54) (hx : okL54 x) : Ev (fun k => laws_eqProposerS.f k x x) true := by
  unfold laws_eqProposerS.f
  refine Ev.pos rfl (Ev.eq (Ev.up (g := fun k i => laws_eqProposerS.l0 k x x i) x.length (fun _ => true) ?_) rfl)
  intro i hi ih
  refine Ev.step (fun k => by rw [laws_eqProposerS.l0]) ?_
  by_cases hlt : i < x.length
  · have e : rd_T54 x (i : Int) = x[i] := getD_nat x _ hlt
    have h3 := hx.2 _ (List.getElem_mem hlt)
    have h1 := hx.1
    rw [e, w64_succ hlt (by omega)]
    exact Ev.pos (by omega) (Ev.pos (by omega) (Ev.pos (by omega) (Ev.bind (laws_eqProposer.refl (x[i].f0) (x[i].f1) (x[i].f2) (x[i].f3) (x[i].f4) (h3.2.1) (h3.2.2.2)) (Ev.pos rfl (ih hlt)))))
  · exact Ev.neg (by omega) (Ev.now _)

theorem laws_eqSynod.refl (x0 : List (S70)) (x1 : List (S54)) (h0 : okL70 x0) (h1 : okL54 x1) : Ev (fun k => laws_eqSynod.f k x0 x1 x0 x1) true := by
  unfold laws_eqSynod.f
  exact (Ev.bind (laws_eqAcceptorS.refl _ h0) (Ev.pos rfl (Ev.bind (laws_eqProposerS.refl _ h1) (Ev.pos rfl (Ev.now _)))))

theorem spec_l1In.ev (n a b : Int) : spec_l1In.f n a b = some (inB n a b) := by
  unfold spec_l1In.f inB
  by_cases h : a ≤ n
  · rw [if_pos h]; simp [h]
  · rw [if_neg h]; simp [h]

theorem spec_l8Nodes.ev (n : Int) : spec_l8Nodes.f n = some (inB n 1 12) := by
  unfold spec_l8Nodes.f; rw [spec_l1In.ev]; rfl

/-- Byte i of a text may stand in a value. -/
def okByte (s : ByteArray) (i : Nat) : Bool := decide (32 ≤ bt s i) && decide (bt s i ≤ 126) && !decide (bt s i = 59)
/-- A value. -/
def okVal (s : ByteArray) : Bool := allFrom (okByte s) s.size 0 && decide (s.size ≤ 20)
theorem spec_l1Value.ev (s : ByteArray) (hs : s.size ≤ 9223372036854775807) : Ev (fun k => spec_l1Value.f k s) (okVal s) := by
  unfold spec_l1Value.f okVal
  refine Ev.eq (Ev.up (g := fun k i => spec_l1Value.l0 k s i) s.size (fun i => allFrom (okByte s) s.size i && decide (s.size ≤ 20)) ?_) rfl
  intro i hi ih
  refine Ev.step (fun k => by rw [spec_l1Value.l0]) ?_
  by_cases hlt : i < s.size
  · refine Ev.pos (by omega) (Ev.pos (by omega) ?_)
    rw [allFrom_step hlt, w64_succ hlt hs]
    have ih := ih hlt
    generalize allFrom (okByte s) s.size (i + 1) = q at ih ⊢
    unfold okByte
    refine Ev.cases (fun h => Ev.some (by rw [decide_eq_false (by omega : ¬ 32 ≤ bt s i)]; rfl)) (fun h1 => ?_)
    refine Ev.cases (fun h => Ev.some (by rw [decide_eq_false (by omega : ¬ bt s i ≤ 126)]; simp)) (fun h2 => ?_)
    refine Ev.cases (fun h => Ev.some (by rw [decide_eq_true h]; simp)) (fun h3 => Ev.eq ih ?_)
    rw [decide_eq_true (by omega : 32 ≤ bt s i), decide_eq_true (by omega : bt s i ≤ 126), decide_eq_false h3]; simp
  · have : i = s.size := by omega
    subst this
    refine Ev.neg (by omega) (Ev.some ?_)
    rw [allFrom_end, Bool.true_and]
    exact decide_eq_decide.2 (by omega)

/-- A ballot and a value go together, up to a ballot. -/
def voted (b : Int) (v : ByteArray) (m : Int) : Bool := inB b 0 m && (okVal v && (decide (b > 0) || decide (v.toList = [])))
theorem spec_l10Old.ev (b m : Int) (v : ByteArray) (hv : okLS v) : Ev (fun k => spec_l10Old.f k b m v) (voted b v m) := by
  have hv' : v.size ≤ 1048576 := hv
  unfold spec_l10Old.f voted
  refine Ev.bindS (spec_l1In.ev _ _ _) (Ev.cases (fun h1 => ?_) (fun h1 => Ev.some (by rw [Bool.eq_false_iff.2 h1]; simp)))
  refine Ev.bind (spec_l1Value.ev v (by omega)) (Ev.cases (fun h2 => ?_) (fun h2 => Ev.some (by rw [Bool.eq_false_iff.2 h2]; simp)))
  rw [h1, h2]
  refine Ev.cases (fun h3 => Ev.some (by rw [decide_eq_true h3]; simp)) (fun h3 => Ev.some ?_)
  rw [decide_eq_false h3]
  simp only [Bool.true_and, Bool.false_or]
  rw [Bool.eq_iff_iff]; simp

/-- The value of the promise with the greatest ballot, the first of these. -/
def bestOf : Int → ByteArray → List S73 → ByteArray
  | _, v, [] => v
  | b, v, x :: r => if x.f1 > b then bestOf x.f1 x.f2 r else bestOf b v r
theorem spec_l10Value.ev (own : ByteArray) (l : List S73) (f : Bool) (v : ByteArray) (vs : List Int) (hl : okL73 l) : Ev (fun k => spec_l10Value.f k own l f v vs) (bestOf 0 own l) := by
  have h1 := hl.1
  unfold spec_l10Value.f
  have key : ∀ d i : Nat, i + d = l.length → ∀ (b : Int) (v : ByteArray), Ev (fun k => spec_l10Value.l0 k b v l (l.length : Int) (i : Int)) (bestOf b v (l.drop i)) := by
    intro d
    induction d with
    | zero =>
      intro i hi b v
      refine Ev.step (fun k => by rw [spec_l10Value.l0]) ?_
      refine Ev.neg (by omega) (Ev.some ?_)
      rw [List.drop_of_length_le (by omega)]; rfl
    | succ d ih =>
      intro i hi b v
      have hlt : i < l.length := by omega
      have e : rd_T73 l (i : Int) = l[i] := getD_nat l _ hlt
      refine Ev.step (fun k => by rw [spec_l10Value.l0]) ?_
      rw [List.drop_eq_getElem_cons hlt, e, w64_succ hlt (by omega)]
      refine Ev.pos (by omega) (Ev.pos (by omega) (Ev.pos (by omega) ?_))
      refine Ev.cases (fun h => Ev.eq (ih (i + 1) (by omega) _ _) (by rw [bestOf, if_pos h])) (fun h => Ev.eq (ih (i + 1) (by omega) _ _) (by rw [bestOf, if_neg h]))
  exact Ev.eq (key l.length 0 (by omega) 0 own) rfl

def okAcc (m : Int) (z : S70) : Bool := inB z.f0 0 m && voted z.f1 z.f2 z.f0
def okProm (n i : Int) (l : List S73) (j : Nat) : Bool := inB (rd_T73 l (j : Int)).f0 0 (n - 1) && ((decide (j = 0) || decide ((rd_T73 l ((j : Int) - 1)).f0 < (rd_T73 l (j : Int)).f0)) && voted (rd_T73 l (j : Int)).f1 (rd_T73 l (j : Int)).f2 i)
def riseN (n : Int) (l : List Int) (i : Nat) : Bool := inB (rd l i) 0 (n - 1) && (decide (i = 0) || decide (rd l ((i : Int) - 1) < rd l i))
def big (n : Int) (p : S54) : Bool := decide (2 * (p.f1.length : Int) > n)
def tailP (n : Int) (p : S54) : Bool := if big n p = true then decide (p.f3.toList = (bestOf 0 p.f0 p.f1).toList) else decide (p.f3.toList = []) && decide (p.f4.length = 0)
def finP (n : Int) (p : S54) : Bool := okVal p.f0 && ((p.f2 == big n p) && tailP n p)
def okProp (n : Int) (i : Int) (p : S54) : Bool := allFrom (okProm n i p.f1) p.f1.length 0 && (allFrom (riseN n p.f4) p.f4.length 0 && finP n p)
def goodSy (a : List S70) (l : List S54) : Bool := inB (a.length : Int) 1 12 && inB (l.length : Int) 1 8 && a.all (okAcc (l.length : Int)) && allFrom (fun i => okProp (a.length : Int) (i : Int) (rd_T54 l (i : Int))) l.length 0
theorem spec_GoodSynod.prop {n : Int} (hn : 1 ≤ n ∧ n ≤ 12) {l : List S54} (hl : okL54 l) {i : Nat} (hi : i < l.length) {q : Bool} (cont : Ev (fun k => spec_GoodSynod.l1 k n l (l.length : Int) ((i + 1 : Nat) : Int)) q) (p : S54) (hp : okE54 p) :
    Ev (fun k => spec_GoodSynod.l2 k n (i : Int) l (l.length : Int) (i : Int) p.f1 (p.f1.length : Int) 0 p.f0 p.f1 p.f2 p.f3 p.f4) (okProp n (i : Int) p && q) := by
  have hl1 := hl.1
  obtain ⟨o0, o1, o3, o4⟩ := hp
  have p1 := o1.1
  have p4 : p.f4.length ≤ 1048576 := o4
  have s0 : p.f0.size ≤ 1048576 := o0
  have ew : wrap64 (n - 1) = n - 1 := w64 (by omega) (by omega)
  have ei : wrap64 ((i : Int) + 1) = ((i + 1 : Nat) : Int) := w64_succ hi (by omega)
  have e2 : wrap64 (2 * (p.f1.length : Int)) = 2 * (p.f1.length : Int) := w64 (by omega) (by omega)
  -- behind the votes
  have last : Ev (fun k => spec_GoodSynod.l3 k n l (l.length : Int) (i : Int) p.f4 (p.f4.length : Int) 0 p.f0 p.f1 p.f2 p.f3 p.f4) (allFrom (riseN n p.f4) p.f4.length 0 && finP n p && q) := by
    refine Ev.eq (Ev.up (g := fun k j => spec_GoodSynod.l3 k n l (l.length : Int) (i : Int) p.f4 (p.f4.length : Int) j p.f0 p.f1 p.f2 p.f3 p.f4) p.f4.length (fun j => allFrom (riseN n p.f4) p.f4.length j && finP n p && q) ?_) rfl
    intro j hj jh
    refine Ev.step (fun k => by rw [spec_GoodSynod.l3]) ?_
    by_cases hjl : j < p.f4.length
    · have jh := jh hjl
      rw [allFrom_step hjl, ew, w64_succ hjl (by omega)]
      generalize allFrom (riseN n p.f4) p.f4.length (j + 1) = u at jh ⊢
      unfold riseN
      refine Ev.pos (by omega) (Ev.pos (by omega) (Ev.pos (by omega) (Ev.bindS (spec_l1In.ev _ _ _) ?_)))
      refine Ev.cases (fun h1 => ?_) (fun h1 => Ev.some (by rw [Bool.eq_false_iff.2 h1]; simp))
      rw [h1]
      refine Ev.cases (fun h2 => ?_) (fun h2 => Ev.eq jh (by rw [decide_eq_true (by omega : j = 0)]; simp))
      rw [w64 (by omega) (by omega), decide_eq_false (by omega : ¬ j = 0)]
      refine Ev.pos (by omega) (Ev.pos (by omega) (Ev.cases (fun h3 => Ev.some (by rw [decide_eq_false (by omega)]; simp)) (fun h3 => Ev.eq jh (by rw [decide_eq_true (by omega : rd p.f4 ((j : Int) - 1) < rd p.f4 j)]; simp))))
    · have : j = p.f4.length := by omega
      subst this
      refine Ev.neg (by omega) ?_
      rw [allFrom_end, e2, ei]
      unfold finP tailP
      refine Ev.bind (spec_l1Value.ev p.f0 (by omega)) (Ev.cases (fun h1 => ?_) (fun h1 => Ev.some (by rw [Bool.eq_false_iff.2 h1]; simp)))
      rw [h1]
      have eb : decide (2 * (p.f1.length : Int) > n) = big n p := rfl
      rw [eb]
      refine Ev.cases (fun h2 => Ev.some ?_) (fun h2 => ?_)
      · have : (p.f2 == big n p) = false := by simpa using h2
        rw [this]; simp
      have h2' : (p.f2 == big n p) = true := by simpa using h2
      rw [h2']
      refine Ev.cases (fun h3 => ?_) (fun h3 => ?_)
      · have hb : big n p = true := decide_eq_true h3
        rw [if_pos hb]
        refine Ev.bind (spec_l10Value.ev _ _ _ _ _ o1) (Ev.cases (fun h4 => Ev.pos h3 (Ev.eq cont (by rw [decide_eq_true h4]; simp))) (fun h4 => Ev.some (by rw [decide_eq_false h4]; simp)))
      · have hb : ¬ big n p = true := by unfold big; simpa using h3
        rw [if_neg hb]
        refine Ev.neg h3 (Ev.cases (fun h4 => ?_) (fun h4 => Ev.some (by rw [decide_eq_false h4]; simp)))
        rw [decide_eq_true h4]
        refine Ev.cases (fun h5 => Ev.some (by rw [decide_eq_false (by omega : ¬ p.f4.length = 0)]; simp)) (fun h5 => Ev.eq cont (by rw [decide_eq_true (by omega : p.f4.length = 0)]; simp))
  refine Ev.eq (Ev.up (g := fun k j => spec_GoodSynod.l2 k n (i : Int) l (l.length : Int) (i : Int) p.f1 (p.f1.length : Int) j p.f0 p.f1 p.f2 p.f3 p.f4) p.f1.length (fun j => allFrom (okProm n (i : Int) p.f1) p.f1.length j && (allFrom (riseN n p.f4) p.f4.length 0 && finP n p) && q) ?_) rfl
  intro j hj jh
  refine Ev.step (fun k => by rw [spec_GoodSynod.l2]) ?_
  by_cases hjl : j < p.f1.length
  · have jh := jh hjl
    have e : rd_T73 p.f1 (j : Int) = p.f1[j] := getD_nat p.f1 _ hjl
    have hz : okLS (rd_T73 p.f1 (j : Int)).f2 := by rw [e]; exact o1.2 _ (List.getElem_mem hjl)
    rw [allFrom_step hjl, ew, w64_succ hjl (by omega)]
    generalize allFrom (okProm n (i : Int) p.f1) p.f1.length (j + 1) = u at jh ⊢
    unfold okProm
    have vote : ∀ b : Bool, b = true → Ev (fun k => (spec_l10Old.f k (rd_T73 p.f1 (j : Int)).f1 (i : Int) (rd_T73 p.f1 (j : Int)).f2).bind fun t => if t = true then spec_GoodSynod.l2 k n (i : Int) l (l.length : Int) (i : Int) p.f1 (p.f1.length : Int) ((j + 1 : Nat) : Int) p.f0 p.f1 p.f2 p.f3 p.f4 else some false) (b && voted (rd_T73 p.f1 (j : Int)).f1 (rd_T73 p.f1 (j : Int)).f2 (i : Int) && u && (allFrom (riseN n p.f4) p.f4.length 0 && finP n p) && q) := by
      intro b hb
      rw [hb]
      refine Ev.bind (spec_l10Old.ev _ _ _ hz) (Ev.cases (fun h => Ev.eq jh (by rw [h]; simp)) (fun h => Ev.some (by rw [Bool.eq_false_iff.2 h]; simp)))
    refine Ev.pos (by omega) (Ev.pos (by omega) (Ev.pos (by omega) (Ev.bindS (spec_l1In.ev _ _ _) ?_)))
    refine Ev.cases (fun h1 => ?_) (fun h1 => Ev.some (by rw [Bool.eq_false_iff.2 h1]; simp))
    rw [h1]
    refine Ev.cases (fun h2 => ?_) (fun h2 => ?_)
    · rw [w64 (by omega) (by omega), decide_eq_false (by omega : ¬ j = 0)]
      refine Ev.pos (by omega) (Ev.pos (by omega) (Ev.cases (fun h3 => Ev.some (by rw [decide_eq_false (by omega)]; simp)) (fun h3 => ?_)))
      rw [decide_eq_true (by omega : (rd_T73 p.f1 ((j : Int) - 1)).f0 < (rd_T73 p.f1 (j : Int)).f0)]
      exact Ev.eq (vote true rfl) (by simp)
    · rw [decide_eq_true (by omega : j = 0)]
      exact Ev.eq (vote true rfl) (by simp)
  · have : j = p.f1.length := by omega
    subst this
    refine Ev.neg (by omega) ?_
    rw [allFrom_end, Bool.true_and]
    exact last
theorem spec_GoodSynod.ev (a : List S70) (l : List S54) (ha : okL70 a) (hl : okL54 l) : Ev (fun k => spec_GoodSynod.f k a l) (goodSy a l) := by
  have ha1 := ha.1
  have hl1 := hl.1
  have no : Ev (fun k => spec_GoodSynod.j0 k (a.length : Int) true a l) false := by
    refine Ev.step (fun k => by rw [spec_GoodSynod.j0]) ?_
    exact Ev.pos rfl (Ev.now _)
  unfold spec_GoodSynod.f goodSy
  refine Ev.bindS (spec_l8Nodes.ev _) (Ev.cases (fun h1 => ?_) (fun h1 => Ev.eq no (by rw [Bool.eq_false_iff.2 h1]; simp)))
  refine Ev.bindS (spec_l1In.ev _ _ _) ?_
  rw [h1]
  have hn := inB_iff.1 h1
  cases h2 : inB (l.length : Int) 1 8 with
  | false => exact Ev.eq no (by simp)
  | true =>
    refine Ev.step (fun k => by rw [spec_GoodSynod.j0]) ?_
    refine Ev.neg (by simp) ?_
    simp only [Bool.true_and]
    refine Ev.eq (Ev.up (g := fun k i => spec_GoodSynod.l0 k (a.length : Int) a (a.length : Int) i a l) a.length (fun i => (a.drop i).all (okAcc (l.length : Int)) && allFrom (fun i => okProp (a.length : Int) (i : Int) (rd_T54 l (i : Int))) l.length 0) ?_) (by simp)
    intro i hi ih
    refine Ev.step (fun k => by rw [spec_GoodSynod.l0]) ?_
    by_cases hlt : i < a.length
    · have ih := ih hlt
      have e : rd_T70 a (i : Int) = a[i] := getD_nat a _ hlt
      have hz : okLS (a[i]).f2 := ha.2 _ (List.getElem_mem hlt)
      rw [all_take_succ a _ hlt, e, w64_succ hlt (by omega)]
      generalize a[i] = z at hz ⊢
      generalize (a.drop (i + 1)).all (okAcc (l.length : Int)) = q at ih ⊢
      unfold okAcc
      refine Ev.pos (by omega) (Ev.pos (by omega) (Ev.pos (by omega) (Ev.bindS (spec_l1In.ev _ _ _) ?_)))
      refine Ev.cases (fun g1 => ?_) (fun g1 => Ev.some (by rw [Bool.eq_false_iff.2 g1]; simp))
      rw [g1]
      exact Ev.bind (spec_l10Old.ev _ _ _ hz) (Ev.cases (fun g2 => Ev.eq ih (by rw [g2]; simp)) (fun g2 => Ev.some (by rw [Bool.eq_false_iff.2 g2]; simp)))
    · refine Ev.neg (by omega) ?_
      rw [List.drop_of_length_le (by omega)]
      simp only [List.all_nil, Bool.true_and]
      refine Ev.eq (Ev.up (g := fun k i => spec_GoodSynod.l1 k (a.length : Int) l (l.length : Int) i) l.length (fun i => allFrom (fun i => okProp (a.length : Int) (i : Int) (rd_T54 l (i : Int))) l.length i) ?_) rfl
      intro j hj jh
      refine Ev.step (fun k => by rw [spec_GoodSynod.l1]) ?_
      by_cases hjl : j < l.length
      · have e : rd_T54 l (j : Int) = l[j] := getD_nat l _ hjl
        have hp : okE54 (rd_T54 l (j : Int)) := by rw [e]; exact hl.2 _ (List.getElem_mem hjl)
        rw [allFrom_step hjl]
        exact Ev.pos (by omega) (Ev.pos (by omega) (Ev.pos (by omega) (spec_GoodSynod.prop (by omega) hl hjl (jh hjl) _ hp)))
      · have : j = l.length := by omega
        subst this
        exact Ev.neg (by omega) (Ev.some (by rw [allFrom_end]))

theorem impl_in.ev (n a b : Int) : impl_in.f n a b = some (inB n a b) := by
  unfold impl_in.f inB
  by_cases h : a ≤ n
  · rw [if_pos h]; simp [h]
  · rw [if_neg h]; simp [h]

theorem impl_isValue.ev (s : ByteArray) (hs : s.size ≤ 9223372036854775807) : Ev (fun k => impl_isValue.f k s) (okVal s) := by
  unfold impl_isValue.f okVal
  refine Ev.eq (Ev.up (g := fun k i => impl_isValue.l0 k s (s.size : Int) i) s.size (fun i => allFrom (okByte s) s.size i && decide (s.size ≤ 20)) ?_) rfl
  intro i hi ih
  refine Ev.step (fun k => by rw [impl_isValue.l0]) ?_
  by_cases hlt : i < s.size
  · refine Ev.pos (by omega) (Ev.pos (by omega) (Ev.pos (by omega) ?_))
    rw [allFrom_step hlt, w64_succ hlt hs]
    have ih := ih hlt
    generalize allFrom (okByte s) s.size (i + 1) = q at ih ⊢
    unfold okByte
    refine Ev.cases (fun h => Ev.some (by rw [decide_eq_false (by omega : ¬ 32 ≤ bt s i)]; rfl)) (fun h1 => ?_)
    refine Ev.cases (fun h => Ev.some (by rw [decide_eq_false (by omega : ¬ bt s i ≤ 126)]; simp)) (fun h2 => ?_)
    refine Ev.cases (fun h => Ev.some (by rw [decide_eq_true h]; simp)) (fun h3 => Ev.eq ih ?_)
    rw [decide_eq_true (by omega : 32 ≤ bt s i), decide_eq_true (by omega : bt s i ≤ 126), decide_eq_false h3]; simp
  · have : i = s.size := by omega
    subst this
    refine Ev.neg (by omega) (Ev.some ?_)
    rw [allFrom_end, Bool.true_and]
    exact decide_eq_decide.2 (by omega)

theorem impl_isVoted.ev (b m : Int) (v : ByteArray) (hv : okLS v) : Ev (fun k => impl_isVoted.f k b v m) (voted b v m) := by
  have hv' : v.size ≤ 1048576 := hv
  unfold impl_isVoted.f voted
  refine Ev.bindS (impl_in.ev _ _ _) (Ev.cases (fun h1 => ?_) (fun h1 => Ev.some (by rw [Bool.eq_false_iff.2 h1]; simp)))
  refine Ev.bind (impl_isValue.ev v (by omega)) (Ev.cases (fun h2 => ?_) (fun h2 => Ev.some (by rw [Bool.eq_false_iff.2 h2]; simp)))
  rw [h1, h2]
  refine Ev.cases (fun h3 => Ev.some (by rw [decide_eq_true h3]; simp)) (fun h3 => Ev.some ?_)
  rw [decide_eq_false h3]
  simp only [Bool.true_and, Bool.false_or]
  rw [Bool.eq_iff_iff]; simp

theorem impl_Proposer_fixed.ev (own : ByteArray) (l : List S73) (f : Bool) (v : ByteArray) (vs : List Int) (hl : okL73 l) : Ev (fun k => impl_Proposer_fixed.f k own l f v vs) (bestOf 0 own l) := by
  have h1 := hl.1
  unfold impl_Proposer_fixed.f
  have key : ∀ d i : Nat, i + d = l.length → ∀ (n b : Int) (v : ByteArray), Ev (fun k => impl_Proposer_fixed.l0 k l (l.length : Int) (i : Int) n b v) (bestOf b v (l.drop i)) := by
    intro d
    induction d with
    | zero =>
      intro i hi n b v
      refine Ev.step (fun k => by rw [impl_Proposer_fixed.l0]) ?_
      refine Ev.neg (by omega) (Ev.some ?_)
      rw [List.drop_of_length_le (by omega)]; rfl
    | succ d ih =>
      intro i hi n b v
      have hlt : i < l.length := by omega
      have e : rd_T73 l (i : Int) = l[i] := getD_nat l _ hlt
      refine Ev.step (fun k => by rw [impl_Proposer_fixed.l0]) ?_
      rw [List.drop_eq_getElem_cons hlt, e, w64_succ hlt (by omega)]
      refine Ev.pos (by omega) (Ev.pos (by omega) (Ev.pos (by omega) ?_))
      refine Ev.cases (fun h => Ev.eq (ih (i + 1) (by omega) _ _ _) (by rw [bestOf, if_pos h])) (fun h => Ev.eq (ih (i + 1) (by omega) _ _ _) (by rw [bestOf, if_neg h]))
  exact Ev.eq (key l.length 0 (by omega) 0 0 own) rfl

theorem impl_areRising.ev (n : Int) (l : List Int) (hn : 1 ≤ n ∧ n ≤ 12) (hl : l.length ≤ 1048576) : Ev (fun k => impl_areRising.f k l n) (allFrom (riseN n l) l.length 0) := by
  unfold impl_areRising.f
  refine Ev.eq (Ev.up (g := fun k i => impl_areRising.l0 k l n l (l.length : Int) i) l.length (fun i => allFrom (riseN n l) l.length i) ?_) rfl
  intro i hi ih
  refine Ev.step (fun k => by rw [impl_areRising.l0]) ?_
  by_cases hlt : i < l.length
  · refine Ev.pos (by omega) (Ev.pos (by omega) (Ev.pos (by omega) (Ev.bindS (impl_in.ev _ _ _) ?_)))
    rw [allFrom_step hlt, w64 (x := n - 1) (by omega) (by omega)]
    have ih := ih hlt
    generalize allFrom (riseN n l) l.length (i + 1) = q at ih ⊢
    unfold riseN
    refine Ev.cases (fun h1 => ?_) (fun h1 => Ev.some (by rw [Bool.eq_false_iff.2 h1]; simp))
    rw [h1, w64_succ hlt (by omega)]
    refine Ev.cases (fun h2 => ?_) (fun h2 => Ev.eq ih (by rw [decide_eq_true (by omega : i = 0)]; simp))
    rw [w64 (by omega) (by omega)]
    refine Ev.pos (by omega) (Ev.pos (by omega) (Ev.cases (fun h3 => Ev.some ?_) (fun h3 => Ev.eq ih ?_)))
    · rw [decide_eq_false (by omega : ¬ i = 0), decide_eq_false (by omega)]; simp
    · rw [decide_eq_true (by omega : rd l ((i : Int) - 1) < rd l i)]; simp
  · have : i = l.length := by omega
    subst this
    exact Ev.neg (by omega) (Ev.some (by rw [allFrom_end]))

theorem no_text : (⟨#[]⟩ : ByteArray).toList = [] := by unfold ByteArray.toList ByteArray.toList.loop; simp [ByteArray.size]
theorem impl_isSynod.last {n : Int} (hn : 1 ≤ n ∧ n ≤ 12) {l : List S54} (hl : okL54 l) {i : Nat} (hi : i < l.length) {q : Bool} (cont : Ev (fun k => impl_isSynod.l1 k n l (l.length : Int) ((i + 1 : Nat) : Int)) q) (p : S54) (hp : okE54 p) (due : ByteArray) (hd : due.toList = if p.f2 = true then (bestOf 0 p.f0 p.f1).toList else []) :
    Ev (fun k => impl_isSynod.j4 k n due l (l.length : Int) (i : Int) p.f0 p.f1 p.f2 p.f3 p.f4) (allFrom (riseN n p.f4) p.f4.length 0 && finP n p && q) := by
  have hl1 := hl.1
  obtain ⟨o0, o1, o3, o4⟩ := hp
  have p1 := o1.1
  have s0 : p.f0.size ≤ 1048576 := o0
  have ei : wrap64 ((i : Int) + 1) = ((i + 1 : Nat) : Int) := w64_succ hi (by omega)
  have e2 : wrap64 (2 * (p.f1.length : Int)) = 2 * (p.f1.length : Int) := w64 (by omega) (by omega)
  have eb : decide (2 * (p.f1.length : Int) > n) = big n p := rfl
  refine Ev.step (fun k => by rw [impl_isSynod.j4]) ?_
  rw [e2, ei, hd, eb]
  unfold finP tailP
  generalize big n p = bg
  refine Ev.bind (impl_isValue.ev p.f0 (by omega)) (Ev.cases (fun h1 => ?_) (fun h1 => Ev.some (by rw [Bool.eq_false_iff.2 h1]; simp)))
  rw [h1]
  refine Ev.cases (fun h2 => Ev.some ?_) (fun h2 => ?_)
  · have : (p.f2 == bg) = false := by simpa using h2
    rw [this]; simp
  have h2' : p.f2 = bg := by simpa using h2
  rw [← h2']
  simp only [beq_self_eq_true, Bool.true_and]
  refine Ev.cases (fun h3 => ?_) (fun h3 => Ev.some ?_)
  · refine Ev.bind (impl_areRising.ev n p.f4 hn o4) (Ev.cases (fun h4 => ?_) (fun h4 => Ev.some (by rw [Bool.eq_false_iff.2 h4]; simp)))
    rw [h4]
    refine Ev.cases (fun h5 => Ev.eq cont ?_) (fun h5 => ?_)
    · rw [if_pos h5] at h3 ⊢; rw [decide_eq_true h3]; simp
    · rw [if_neg h5] at h3 ⊢
      rw [decide_eq_true h3]
      refine Ev.cases (fun h6 => Ev.some (by rw [decide_eq_false (by omega : ¬ p.f4.length = 0)]; simp)) (fun h6 => Ev.eq cont (by rw [decide_eq_true (by omega : p.f4.length = 0)]; simp))
  · by_cases h5 : p.f2 = true
    · rw [if_pos h5] at h3 ⊢; rw [decide_eq_false h3]; simp
    · rw [if_neg h5] at h3 ⊢; rw [decide_eq_false h3]; simp
theorem impl_isSynod.prop {n : Int} (hn : 1 ≤ n ∧ n ≤ 12) {l : List S54} (hl : okL54 l) {i : Nat} (hi : i < l.length) {q : Bool} (cont : Ev (fun k => impl_isSynod.l1 k n l (l.length : Int) ((i + 1 : Nat) : Int)) q) (p : S54) (hp : okE54 p) :
    Ev (fun k => impl_isSynod.l2 k n (i : Int) l (l.length : Int) (i : Int) p.f1 (p.f1.length : Int) 0 p.f0 p.f1 p.f2 p.f3 p.f4) (okProp n (i : Int) p && q) := by
  have o1 := hp.2.1
  have p1 := o1.1
  have ew : wrap64 (n - 1) = n - 1 := w64 (by omega) (by omega)
  refine Ev.eq (Ev.up (g := fun k j => impl_isSynod.l2 k n (i : Int) l (l.length : Int) (i : Int) p.f1 (p.f1.length : Int) j p.f0 p.f1 p.f2 p.f3 p.f4) p.f1.length (fun j => allFrom (okProm n (i : Int) p.f1) p.f1.length j && (allFrom (riseN n p.f4) p.f4.length 0 && finP n p) && q) ?_) rfl
  intro j hj jh
  refine Ev.step (fun k => by rw [impl_isSynod.l2]) ?_
  by_cases hjl : j < p.f1.length
  · have jh := jh hjl
    have e : rd_T73 p.f1 (j : Int) = p.f1[j] := getD_nat p.f1 _ hjl
    have hz : okLS (rd_T73 p.f1 (j : Int)).f2 := by rw [e]; exact o1.2 _ (List.getElem_mem hjl)
    rw [allFrom_step hjl, ew, w64_succ hjl (by omega)]
    generalize allFrom (okProm n (i : Int) p.f1) p.f1.length (j + 1) = u at jh ⊢
    unfold okProm
    have vote : Ev (fun k => (impl_isVoted.f k (rd_T73 p.f1 (j : Int)).f1 (rd_T73 p.f1 (j : Int)).f2 (i : Int)).bind fun t => if t = true then impl_isSynod.l2 k n (i : Int) l (l.length : Int) (i : Int) p.f1 (p.f1.length : Int) ((j + 1 : Nat) : Int) p.f0 p.f1 p.f2 p.f3 p.f4 else some false) (voted (rd_T73 p.f1 (j : Int)).f1 (rd_T73 p.f1 (j : Int)).f2 (i : Int) && u && (allFrom (riseN n p.f4) p.f4.length 0 && finP n p) && q) := by
      refine Ev.bind (impl_isVoted.ev _ _ _ hz) (Ev.cases (fun h => Ev.eq jh (by rw [h]; simp)) (fun h => Ev.some (by rw [Bool.eq_false_iff.2 h]; simp)))
    refine Ev.pos (by omega) (Ev.pos (by omega) (Ev.pos (by omega) (Ev.bindS (impl_in.ev _ _ _) ?_)))
    refine Ev.cases (fun h1 => ?_) (fun h1 => Ev.some (by rw [Bool.eq_false_iff.2 h1]; simp))
    rw [h1]
    refine Ev.cases (fun h2 => ?_) (fun h2 => ?_)
    · rw [w64 (by omega) (by omega), decide_eq_false (by omega : ¬ j = 0)]
      refine Ev.pos (by omega) (Ev.pos (by omega) (Ev.cases (fun h3 => Ev.some (by rw [decide_eq_false (by omega)]; simp)) (fun h3 => ?_)))
      rw [decide_eq_true (by omega : (rd_T73 p.f1 ((j : Int) - 1)).f0 < (rd_T73 p.f1 (j : Int)).f0)]
      exact Ev.eq vote (by simp)
    · rw [decide_eq_true (by omega : j = 0)]
      exact Ev.eq vote (by simp)
  · have : j = p.f1.length := by omega
    subst this
    refine Ev.neg (by omega) ?_
    rw [allFrom_end, Bool.true_and]
    refine Ev.cases (fun h => Ev.bind (impl_Proposer_fixed.ev _ _ _ _ _ o1) ?_) (fun h => ?_)
    · exact impl_isSynod.last hn hl hi cont p hp _ (by rw [if_pos h])
    · exact impl_isSynod.last hn hl hi cont p hp _ (by rw [if_neg h]; exact no_text)
theorem impl_isSynod.ev (a : List S70) (l : List S54) (ha : okL70 a) (hl : okL54 l) : Ev (fun k => impl_isSynod.f k a l) (goodSy a l) := by
  have ha1 := ha.1
  have hl1 := hl.1
  have no : Ev (fun k => impl_isSynod.j0 k (a.length : Int) true a l) false := by
    refine Ev.step (fun k => by rw [impl_isSynod.j0]) ?_
    exact Ev.pos rfl (Ev.now _)
  unfold impl_isSynod.f goodSy
  refine Ev.bindS (impl_in.ev _ _ _) (Ev.cases (fun h1 => ?_) (fun h1 => Ev.eq no (by rw [Bool.eq_false_iff.2 h1]; simp)))
  refine Ev.bindS (impl_in.ev _ _ _) ?_
  rw [h1]
  have hn := inB_iff.1 h1
  cases h2 : inB (l.length : Int) 1 8 with
  | false => exact Ev.eq no (by simp)
  | true =>
    refine Ev.step (fun k => by rw [impl_isSynod.j0]) ?_
    refine Ev.neg (by simp) ?_
    simp only [Bool.true_and]
    refine Ev.eq (Ev.up (g := fun k i => impl_isSynod.l0 k (a.length : Int) a (a.length : Int) i a l) a.length (fun i => (a.drop i).all (okAcc (l.length : Int)) && allFrom (fun i => okProp (a.length : Int) (i : Int) (rd_T54 l (i : Int))) l.length 0) ?_) (by simp)
    intro i hi ih
    refine Ev.step (fun k => by rw [impl_isSynod.l0]) ?_
    by_cases hlt : i < a.length
    · have ih := ih hlt
      have e : rd_T70 a (i : Int) = a[i] := getD_nat a _ hlt
      have hz : okLS (a[i]).f2 := ha.2 _ (List.getElem_mem hlt)
      rw [all_take_succ a _ hlt, e, w64_succ hlt (by omega)]
      generalize a[i] = z at hz ⊢
      generalize (a.drop (i + 1)).all (okAcc (l.length : Int)) = q at ih ⊢
      unfold okAcc
      refine Ev.pos (by omega) (Ev.pos (by omega) (Ev.pos (by omega) (Ev.bindS (impl_in.ev _ _ _) ?_)))
      refine Ev.cases (fun g1 => ?_) (fun g1 => Ev.some (by rw [Bool.eq_false_iff.2 g1]; simp))
      rw [g1]
      exact Ev.bind (impl_isVoted.ev _ _ _ hz) (Ev.cases (fun g2 => Ev.eq ih (by rw [g2]; simp)) (fun g2 => Ev.some (by rw [Bool.eq_false_iff.2 g2]; simp)))
    · refine Ev.neg (by omega) ?_
      rw [List.drop_of_length_le (by omega)]
      simp only [List.all_nil, Bool.true_and]
      refine Ev.eq (Ev.up (g := fun k i => impl_isSynod.l1 k (a.length : Int) l (l.length : Int) i) l.length (fun i => allFrom (fun i => okProp (a.length : Int) (i : Int) (rd_T54 l (i : Int))) l.length i) ?_) rfl
      intro j hj jh
      refine Ev.step (fun k => by rw [impl_isSynod.l1]) ?_
      by_cases hjl : j < l.length
      · have e : rd_T54 l (j : Int) = l[j] := getD_nat l _ hjl
        have hp : okE54 (rd_T54 l (j : Int)) := by rw [e]; exact hl.2 _ (List.getElem_mem hjl)
        rw [allFrom_step hjl]
        exact Ev.pos (by omega) (Ev.pos (by omega) (Ev.pos (by omega) (impl_isSynod.prop (by omega) hl hjl (jh hjl) _ hp)))
      · have : j = l.length := by omega
        subst this
        exact Ev.neg (by omega) (Ev.some (by rw [allFrom_end]))

def cl (s : ByteArray) : S57 := ⟨s, ⟨#[]⟩⟩
theorem less_by8 (x y : ByteArray) : (Op.bytesLess x.toList y.toList = true) = (StrSort.by8 x < StrSort.by8 y) := by
  rw [bytesLess_eq, Lib.toList_data, Lib.toList_data, decide_eq_true_eq]; rfl
theorem same_by8 (x y : ByteArray) : (x.toList = y.toList) = (StrSort.by8 x = StrSort.by8 y) := by
  rw [Lib.toList_data, Lib.toList_data]; rfl
theorem spec_l3Cells.ev (L : List ByteArray) (s : ByteArray) (hl : L.length ≤ 2000000) : Ev (fun k => spec_l3Cells.f k (L.map cl) s (⟨#[]⟩ : ByteArray)) ((StrSort.insU L s).map cl) := by
  unfold spec_l3Cells.f
  refine Ev.eq (Ev.up (g := fun k i => spec_l3Cells.l0 k (L.map cl) i s (⟨#[]⟩ : ByteArray)) L.length (fun i => (L.take i ++ StrSort.insU (L.drop i) s).map cl) ?_) (by simp)
  intro i hi ih
  refine Ev.step (fun k => by rw [spec_l3Cells.l0]) ?_
  by_cases hlt : i < L.length
  · have h2 := ih hlt
    have e : rd_T57 (L.map cl) (i : Int) = cl L[i] := by simp [rd_T57, hlt]
    have hd : L.drop i = L[i] :: L.drop (i + 1) := List.drop_eq_getElem_cons hlt
    refine Ev.pos (by simp; omega) (Ev.pos (by omega) ?_)
    rw [e]
    show Ev (fun k => if Op.bytesLess (L[i]).toList s.toList = true then _ else _) _
    simp only [less_by8]
    refine Ev.cases (fun hc => ?_) (fun hc => ?_)
    · rw [w64_succ hlt (by omega)]
      refine Ev.eq h2 ?_
      rw [hd]
      simp only [StrSort.insU, if_pos hc]
      rw [take_snoc L hlt, List.append_assoc]; rfl
    · refine Ev.pos (by simp; omega) (Ev.bindS rfl (Ev.pos (by simp; omega) (Ev.bindS rfl (Ev.pos (by simp; omega) (Ev.bindS rfl ?_)))))
      show Ev (fun k => if (L[i]).toList = s.toList then _ else _) _
      simp only [same_by8]
      refine Ev.cases (fun he => ?_) (fun he => ?_)
      · refine Ev.pos (by rw [w64_succ hlt (by omega)]; omega) (Ev.pos (by rw [w64_succ hlt (by omega)]; simp; omega) (Ev.bindS rfl (Ev.pos (by rw [w64_succ hlt (by omega)]; simp; omega) (Ev.some ?_))))
        rw [w64_succ hlt (by omega), hd]
        simp only [StrSort.insU, if_neg hc, if_pos he]
        simp [cl]
      · refine Ev.bindS rfl (Ev.pos (by simp; omega) (Ev.some ?_))
        rw [hd]
        simp only [StrSort.insU, if_neg hc, if_neg he]
        rw [← hd]
        simp [cl]
  · have : i = L.length := by omega
    subst this
    refine Ev.neg (by simp) (Ev.pos (by omega) (Ev.pos (by simp) (Ev.bindS rfl (Ev.pos (by simp; omega) (Ev.bindS rfl (Ev.pos (by simp; omega) (Ev.bindS rfl (Ev.bindS rfl (Ev.pos (by simp; omega) (Ev.some ?_))))))))))
    rw [List.take_of_length_le (by simp), List.drop_of_length_le (by simp)]
    simp [cl, StrSort.insU]

theorem laws_eqStringS.refl (x : List ByteArray) (hx : x.length ≤ 1048576) : Ev (fun k => laws_eqStringS.f k x x) true := by
  unfold laws_eqStringS.f
  refine Ev.pos rfl (Ev.eq (Ev.up (g := fun k i => laws_eqStringS.l0 k x x i) x.length (fun _ => true) ?_) rfl)
  intro i hi ih
  refine Ev.step (fun k => by rw [laws_eqStringS.l0]) ?_
  by_cases hlt : i < x.length
  · have h2 := ih hlt
    rw [w64_succ hlt (by omega)]
    exact Ev.pos (by omega) (Ev.pos (by omega) (Ev.pos (by omega) (Ev.pos rfl h2)))
  · exact Ev.neg (by omega) (Ev.now _)

theorem laws_markText.go : ∀ (n : Nat) (x : Int) (s : ByteArray), 0 ≤ x → x ≤ n → (s.size : Int) + x ≤ 9223372036854775806 → ∃ t, Ev (fun k => laws_markText.l0 k x s) t := by
  intro n
  induction n with
  | zero =>
    intro x s h0 h1 h2
    exact ⟨_, Ev.step (fun k => by rw [laws_markText.l0]) (Ev.neg (by omega) (Ev.pos (by omega) (Ev.now _)))⟩
  | succ n ih =>
    intro x s h0 h1 h2
    by_cases hx : x > 0
    · have hd : Int.tdiv x 10 = x / 10 := Int.tdiv_eq_ediv_of_nonneg h0
      have hw : wrap64 (Int.tdiv x 10) = x / 10 := by rw [hd]; unfold wrap64; omega
      have hs : ∀ y : Int, (strOfNums [y]).size = 1 := fun y => by simp [strOfNums]; rfl
      obtain ⟨t, ht⟩ := ih (x / 10) ((strOfNums [(wrap64 (48 + (Int.tmod x 10))) % 256]) ++ s) (by omega) (by omega) (by rw [ByteArray.size_append, hs]; omega)
      refine ⟨t, Ev.step (fun k => by rw [laws_markText.l0]) (Ev.pos hx ?_)⟩
      simp only [Option.bind_some]
      refine Ev.pos (by rw [hs]; omega) ?_
      rw [hw]
      exact ht
    · exact ⟨_, Ev.step (fun k => by rw [laws_markText.l0]) (Ev.neg hx (Ev.pos (by omega) (Ev.now _)))⟩
theorem laws_markText.all (x : Int) (h0 : 0 ≤ x) (h1 : x ≤ 9223372036854775806) : ∃ t, Ev (fun k => laws_markText.f k x) t := by
  by_cases hx : x ≤ 0
  · exact ⟨_, by unfold laws_markText.f; exact Ev.pos hx (Ev.now _)⟩
  · obtain ⟨t, ht⟩ := laws_markText.go x.toNat x ⟨#[]⟩ h0 (by omega) (by show ((0 : Nat) : Int) + x ≤ _; omega)
    exact ⟨t, by unfold laws_markText.f; exact Ev.neg hx ht⟩

def mc70 (x : S70) : Nat := 3
def ms70 : List S70 → Nat
  | [] => 0
  | x :: r => mc70 x + ms70 r
def mok70 (l : List S70) : Prop := ∀ x ∈ l, True
theorem laws_markAcceptorS.go (r : List S70) : mok70 r → ∀ (p q : List S70) (k0 : Int), 0 ≤ k0 → k0 + (ms70 r : Int) ≤ 9223372036854775807 → p.length + r.length ≤ 9223372036854775807 → q.length = p.length →
    ∃ r' : List S70, r'.length = r.length ∧ Ev (fun k => laws_markAcceptorS.l0 k (p ++ r) k0 (p.length : Int)) (k0 + (ms70 r : Int), p ++ r') := by
  induction r with
  | nil =>
    intro _ p q k0 h0 h1 h2 hq
    refine ⟨[], rfl, ?_⟩
    · exact Ev.step (fun k => by rw [laws_markAcceptorS.l0]) (Ev.neg (by simp) (Ev.some (by simp [ms70])))
  | cons x r ih =>
    intro hok p q k0 h0 h1 h2 hq
    have hx := hok x (List.mem_cons_self ..)
    have ih := ih (fun z hz => hok z (List.mem_cons_of_mem _ hz))
    have hms : ms70 (x :: r) = mc70 x + ms70 r := rfl
    simp only [mc70] at hms
    simp only [List.length_cons] at h2
    have e1 : wrap64 (k0 + 1) = k0 + 1 := w64 (by omega) (by omega)
    have e2 : wrap64 (k0 + 1 + 1) = k0 + 1 + 1 := w64 (by omega) (by omega)
    obtain ⟨t2, ht2⟩ := laws_markText.all (k0 + 1 + 1) (by omega) (by omega)
    have e3 : wrap64 (k0 + 1 + 1 + 1) = k0 + 1 + 1 + 1 := w64 (by omega) (by omega)
    obtain ⟨r', hr', hm⟩ := ih (p ++ [(⟨k0, k0 + 1, t2⟩ : S70)]) (q ++ [(⟨k0, k0 + 1, t2⟩ : S70)]) (k0 + 1 + 1 + 1) (by omega) (by omega) (by simp; omega) (by simp [hq])
    have ep : wrap64 ((p.length : Int) + 1) = (((p ++ [(⟨k0, k0 + 1, t2⟩ : S70)]).length : Nat) : Int) := by rw [w64 (by omega) (by omega)]; simp
    have eq : wrap64 ((q.length : Int) + 1) = (((q ++ [(⟨k0, k0 + 1, t2⟩ : S70)]).length : Nat) : Int) := by rw [w64 (by omega) (by omega)]; simp
    have rdp : ∀ (y : S70) (r : List S70), rd_T70 (p ++ y :: r) (p.length : Int) = y := fun y r => by simp [rd_T70]
    have rdq : rd_T70 (q ++ (⟨k0, k0 + 1, t2⟩ : S70) :: r') (q.length : Int) = (⟨k0, k0 + 1, t2⟩ : S70) := by simp [rd_T70]
    have stp : ∀ (y z : S70) (r : List S70), (p ++ y :: r).set (p.length : Int).toNat z = p ++ z :: r := fun y z r => by simp
    refine ⟨(⟨k0, k0 + 1, t2⟩ : S70) :: r', by simp [hr'], ?_⟩
    · refine Ev.step (fun k => by rw [laws_markAcceptorS.l0]) (Ev.pos (by simp; omega) (Ev.pos (by omega) ?_))
      simp only [Option.bind_some, rdp, stp]
      rw [e1, e2]
      refine Ev.bind ht2 ?_
      try dsimp only
      try simp only [Option.bind_some, rdp, stp]
      rw [e3]
      rw [ep]
      have e_ : p ++ (⟨k0, k0 + 1, t2⟩ : S70) :: r = (p ++ [(⟨k0, k0 + 1, t2⟩ : S70)]) ++ r := by simp
      first | rw [e_] | (simp only [stp]; rw [e_])
      exact Ev.eq hm (by rw [Prod.mk.injEq]; exact ⟨by omega, by simp⟩)
theorem laws_markAcceptorS.two (l : List S70) (k0 : Int) (h0 : 0 ≤ k0) (h1 : k0 + (ms70 l : Int) ≤ 9223372036854775807) (h2 : l.length ≤ 9223372036854775807) (h3 : mok70 l) : ∃ l' : List S70, l'.length = l.length ∧ Ev (fun k => laws_markAcceptorS.f k l k0) (k0 + (ms70 l : Int), l') := by
  obtain ⟨l', e, h4⟩ := laws_markAcceptorS.go l h3 [] [] k0 h0 h1 (by simpa using h2) rfl
  exact ⟨l', e, by simpa [laws_markAcceptorS.f] using h4⟩

def mc73 (x : S73) : Nat := 3
def ms73 : List S73 → Nat
  | [] => 0
  | x :: r => mc73 x + ms73 r
def mok73 (l : List S73) : Prop := ∀ x ∈ l, True
theorem laws_markPromiseS.go (r : List S73) : mok73 r → ∀ (p q : List S73) (k0 : Int), 0 ≤ k0 → k0 + (ms73 r : Int) ≤ 9223372036854775807 → p.length + r.length ≤ 9223372036854775807 → q.length = p.length →
    ∃ r' : List S73, r'.length = r.length ∧ Ev (fun k => laws_markPromiseS.l0 k (p ++ r) k0 (p.length : Int)) (k0 + (ms73 r : Int), p ++ r') := by
  induction r with
  | nil =>
    intro _ p q k0 h0 h1 h2 hq
    refine ⟨[], rfl, ?_⟩
    · exact Ev.step (fun k => by rw [laws_markPromiseS.l0]) (Ev.neg (by simp) (Ev.some (by simp [ms73])))
  | cons x r ih =>
    intro hok p q k0 h0 h1 h2 hq
    have hx := hok x (List.mem_cons_self ..)
    have ih := ih (fun z hz => hok z (List.mem_cons_of_mem _ hz))
    have hms : ms73 (x :: r) = mc73 x + ms73 r := rfl
    simp only [mc73] at hms
    simp only [List.length_cons] at h2
    have e1 : wrap64 (k0 + 1) = k0 + 1 := w64 (by omega) (by omega)
    have e2 : wrap64 (k0 + 1 + 1) = k0 + 1 + 1 := w64 (by omega) (by omega)
    obtain ⟨t2, ht2⟩ := laws_markText.all (k0 + 1 + 1) (by omega) (by omega)
    have e3 : wrap64 (k0 + 1 + 1 + 1) = k0 + 1 + 1 + 1 := w64 (by omega) (by omega)
    obtain ⟨r', hr', hm⟩ := ih (p ++ [(⟨k0, k0 + 1, t2⟩ : S73)]) (q ++ [(⟨k0, k0 + 1, t2⟩ : S73)]) (k0 + 1 + 1 + 1) (by omega) (by omega) (by simp; omega) (by simp [hq])
    have ep : wrap64 ((p.length : Int) + 1) = (((p ++ [(⟨k0, k0 + 1, t2⟩ : S73)]).length : Nat) : Int) := by rw [w64 (by omega) (by omega)]; simp
    have eq : wrap64 ((q.length : Int) + 1) = (((q ++ [(⟨k0, k0 + 1, t2⟩ : S73)]).length : Nat) : Int) := by rw [w64 (by omega) (by omega)]; simp
    have rdp : ∀ (y : S73) (r : List S73), rd_T73 (p ++ y :: r) (p.length : Int) = y := fun y r => by simp [rd_T73]
    have rdq : rd_T73 (q ++ (⟨k0, k0 + 1, t2⟩ : S73) :: r') (q.length : Int) = (⟨k0, k0 + 1, t2⟩ : S73) := by simp [rd_T73]
    have stp : ∀ (y z : S73) (r : List S73), (p ++ y :: r).set (p.length : Int).toNat z = p ++ z :: r := fun y z r => by simp
    refine ⟨(⟨k0, k0 + 1, t2⟩ : S73) :: r', by simp [hr'], ?_⟩
    · refine Ev.step (fun k => by rw [laws_markPromiseS.l0]) (Ev.pos (by simp; omega) (Ev.pos (by omega) ?_))
      simp only [Option.bind_some, rdp, stp]
      rw [e1, e2]
      refine Ev.bind ht2 ?_
      try dsimp only
      try simp only [Option.bind_some, rdp, stp]
      rw [e3]
      rw [ep]
      have e_ : p ++ (⟨k0, k0 + 1, t2⟩ : S73) :: r = (p ++ [(⟨k0, k0 + 1, t2⟩ : S73)]) ++ r := by simp
      first | rw [e_] | (simp only [stp]; rw [e_])
      exact Ev.eq hm (by rw [Prod.mk.injEq]; exact ⟨by omega, by simp⟩)
theorem laws_markPromiseS.two (l : List S73) (k0 : Int) (h0 : 0 ≤ k0) (h1 : k0 + (ms73 l : Int) ≤ 9223372036854775807) (h2 : l.length ≤ 9223372036854775807) (h3 : mok73 l) : ∃ l' : List S73, l'.length = l.length ∧ Ev (fun k => laws_markPromiseS.f k l k0) (k0 + (ms73 l : Int), l') := by
  obtain ⟨l', e, h4⟩ := laws_markPromiseS.go l h3 [] [] k0 h0 h1 (by simpa using h2) rfl
  exact ⟨l', e, by simpa [laws_markPromiseS.f] using h4⟩

theorem laws_markIntS.ev (l : List Int) (k0 : Int) (h0 : 0 ≤ k0) (h1 : k0 + l.length ≤ 9223372036854775807) : Ev (fun k => laws_markIntS.f k l k0) (k0 + l.length, marks k0 l.length) := by
  unfold laws_markIntS.f
  by_cases hb : (l.length : Int) ≤ 9223372036854775807
  · refine Ev.eq (Ev.congr (fun k => ?_) (Ev.up (g := fun k i => laws_markIntS.l0 k (marks k0 i.toNat ++ l.drop i.toNat) (k0 + i) i) l.length (fun _ => (k0 + l.length, marks k0 l.length)) ?_)) rfl
    · simp [marks]
    intro i hi ih
    refine Ev.step (fun k => by rw [laws_markIntS.l0]) ?_
    by_cases hlt : i < l.length
    · refine Ev.pos (by simp [marks_length]; omega) (Ev.pos (by omega) ?_)
      have h2 := ih hlt
      simp only [Int.toNat_natCast] at h2 ⊢
      rw [w64_succ hlt (by omega), w64 (by omega) (by omega), set_mark _ _ _ (marks_length _ _) hlt, ← marks_succ]
      refine Ev.congr (fun k => ?_) h2
      rw [show k0 + (i : Int) + 1 = k0 + ((i + 1 : Nat) : Int) by omega]
    · have : i = l.length := by omega
      subst this
      refine Ev.neg (by simp [marks_length]) (Ev.some ?_)
      simp
  · omega
theorem laws_markIntS.two (l : List Int) (k0 : Int) (h0 : 0 ≤ k0) (h1 : k0 + (l.length : Int) ≤ 9223372036854775807) (h2 : l.length ≤ 9223372036854775807) : ∃ l' : List Int, l'.length = l.length ∧ Ev (fun k => laws_markIntS.f k l k0) (k0 + (l.length : Int), l') :=
  ⟨marks k0 l.length, marks_length _ _, laws_markIntS.ev l k0 h0 (by omega)⟩

theorem laws_markStringS.go (r : List ByteArray) : ∀ (p : List ByteArray) (k0 : Int), 0 ≤ k0 → k0 + (r.length : Int) ≤ 9223372036854775806 → p.length + r.length ≤ 9223372036854775806 →
    ∃ r' : List ByteArray, r'.length = r.length ∧ Ev (fun k => laws_markStringS.l0 k (p ++ r) k0 (p.length : Int)) (k0 + (r.length : Int), p ++ r') := by
  induction r with
  | nil =>
    intro p k0 h0 h1 h2
    exact ⟨[], rfl, Ev.step (fun k => by rw [laws_markStringS.l0]) (Ev.neg (by simp) (Ev.some (by simp)))⟩
  | cons x r ih =>
    intro p k0 h0 h1 h2
    simp only [List.length_cons] at h1 h2
    obtain ⟨t, ht⟩ := laws_markText.all k0 h0 (by omega)
    obtain ⟨r', hr', hm⟩ := ih (p ++ [t]) (k0 + 1) (by omega) (by omega) (by simp; omega)
    have e1 : wrap64 (k0 + 1) = k0 + 1 := w64 (by omega) (by omega)
    have ep : wrap64 ((p.length : Int) + 1) = (((p ++ [t]).length : Nat) : Int) := by rw [w64 (by omega) (by omega)]; simp
    have stp : (p ++ x :: r).set (p.length : Int).toNat t = (p ++ [t]) ++ r := by simp
    refine ⟨t :: r', by simp [hr'], ?_⟩
    refine Ev.step (fun k => by rw [laws_markStringS.l0]) (Ev.pos (by simp; omega) (Ev.bind ht ?_))
    refine Ev.pos (by omega) ?_
    rw [stp, e1, ep]
    exact Ev.eq hm (by rw [Prod.mk.injEq]; exact ⟨by simp only [List.length_cons]; omega, by simp⟩)
theorem laws_markStringS.ev (l : List ByteArray) (k0 : Int) (h0 : 0 ≤ k0) (h1 : k0 + (l.length : Int) ≤ 9223372036854775806) (h2 : l.length ≤ 1048576) : ∃ l' : List ByteArray, l'.length = l.length ∧ Ev (fun k => laws_markStringS.f k l k0) (k0 + (l.length : Int), l') := by
  obtain ⟨l', e, h⟩ := laws_markStringS.go l [] k0 h0 h1 (by simp; omega)
  exact ⟨l', e, by simpa [laws_markStringS.f] using h⟩

theorem laws_heldStringS.go (r : List ByteArray) : ∀ (p : List ByteArray) (k0 : Int), 0 ≤ k0 → k0 + (r.length : Int) ≤ 9223372036854775806 → p.length + r.length ≤ 9223372036854775806 →
    ∃ r' : List ByteArray, Ev (fun k => laws_markStringS.l0 k (p ++ r) k0 (p.length : Int)) (k0 + (r.length : Int), p ++ r') ∧ ∀ q : List ByteArray, q.length = p.length → Ev (fun k => laws_heldStringS.l0 k (q ++ r') k0 (q.length : Int)) (k0 + (r.length : Int)) := by
  induction r with
  | nil =>
    intro p k0 h0 h1 h2
    exact ⟨[], Ev.step (fun k => by rw [laws_markStringS.l0]) (Ev.neg (by simp) (Ev.some (by simp))), fun q hq => Ev.step (fun k => by rw [laws_heldStringS.l0]) (Ev.neg (by simp) (Ev.some (by simp)))⟩
  | cons x r ih =>
    intro p k0 h0 h1 h2
    simp only [List.length_cons] at h1 h2
    obtain ⟨t, ht⟩ := laws_markText.all k0 h0 (by omega)
    obtain ⟨r', hm, hh⟩ := ih (p ++ [t]) (k0 + 1) (by omega) (by omega) (by simp; omega)
    have e1 : wrap64 (k0 + 1) = k0 + 1 := w64 (by omega) (by omega)
    have ep : ∀ q : List ByteArray, q.length = p.length → wrap64 ((q.length : Int) + 1) = (((q ++ [t]).length : Nat) : Int) := fun q hq => by rw [w64 (by omega) (by omega)]; simp
    have stp : (p ++ x :: r).set (p.length : Int).toNat t = (p ++ [t]) ++ r := by simp
    refine ⟨t :: r', ?_, fun q hq => ?_⟩
    · refine Ev.step (fun k => by rw [laws_markStringS.l0]) (Ev.pos (by simp; omega) (Ev.bind ht ?_))
      refine Ev.pos (by omega) ?_
      rw [stp, e1, ep p rfl]
      exact Ev.eq hm (by rw [Prod.mk.injEq]; exact ⟨by simp only [List.length_cons]; omega, by simp⟩)
    · have e2 : rdOf ByteArray.empty (q ++ t :: r') (q.length : Int) = t := by simp [rdOf]
      refine Ev.step (fun k => by rw [laws_heldStringS.l0]) (Ev.pos (by simp; omega) (Ev.pos (by omega) (Ev.bind ht ?_)))
      rw [e2]
      refine Ev.pos rfl ?_
      rw [e1, ep q hq]
      have := hh (q ++ [t]) (by simp [hq])
      refine Ev.eq (Ev.congr (fun k => ?_) this) (by simp only [List.length_cons]; omega)
      rw [List.append_assoc]; rfl
theorem laws_heldStringS.two (l : List ByteArray) (h : l.length ≤ 1048576) : ∃ l' : List ByteArray, Ev (fun k => laws_markStringS.f k l 1) (1 + (l.length : Int), l') ∧ Ev (fun k => laws_heldStringS.f k l' 1) (1 + (l.length : Int)) := by
  obtain ⟨l', h1, h2⟩ := laws_heldStringS.go l [] 1 (by omega) (by omega) (by simp; omega)
  exact ⟨l', by simpa [laws_markStringS.f] using h1, by simpa [laws_heldStringS.f] using h2 [] rfl⟩

theorem fold_length (xs : List ByteArray) : ∀ l : List ByteArray, (xs.foldl StrSort.insU l).length ≤ l.length + xs.length := by
  induction xs with
  | nil => intro l; simp
  | cons a xs ih =>
    intro l
    have h1 := ih (StrSort.insU l a)
    have h2 := StrSort.insU_length l a
    simp only [List.foldl_cons, List.length_cons]
    omega
/-- what is chosen, of these proposers -/
def wonL (n : Nat) (l : List S54) : List ByteArray := (l.filter (fun z => decide (2 * (z.f4.length : Int) > (n : Int)))).map (fun z => z.f3)
def vals (n : Nat) (l : List S54) : List ByteArray := (wonL n l).foldl StrSort.insU []
theorem wonL_length (n : Nat) (l : List S54) : (wonL n l).length ≤ l.length := by
  unfold wonL; rw [List.length_map]; exact List.length_filter_le _ _
theorem vals_length (n : Nat) (l : List S54) : (vals n l).length ≤ l.length := by
  have h1 := fold_length (wonL n l) []
  have h2 := wonL_length n l
  have e : (vals n l).length = ((wonL n l).foldl StrSort.insU []).length := rfl
  simp only [List.length_nil] at h1
  omega
theorem wonL_snoc (n : Nat) (l : List S54) {i : Nat} (h : i < l.length) : wonL n (l.take (i + 1)) = if 2 * ((l[i].f4.length : Nat) : Int) > (n : Int) then wonL n (l.take i) ++ [l[i].f3] else wonL n (l.take i) := by
  unfold wonL
  rw [take_snoc l h, List.filter_append, List.map_append]
  by_cases c : 2 * ((l[i].f4.length : Nat) : Int) > (n : Int)
  · rw [if_pos c, List.filter_cons, if_pos (decide_eq_true c)]; rfl
  · rw [if_neg c, List.filter_cons, if_neg (by simpa using c)]; simp
theorem vals_snoc (n : Nat) (l : List S54) {i : Nat} (h : i < l.length) : vals n (l.take (i + 1)) = if 2 * ((l[i].f4.length : Nat) : Int) > (n : Int) then StrSort.insU (vals n (l.take i)) (l[i].f3) else vals n (l.take i) := by
  unfold vals
  rw [wonL_snoc n l h]
  by_cases c : 2 * ((l[i].f4.length : Nat) : Int) > (n : Int)
  · rw [if_pos c, if_pos c, List.foldl_append]; rfl
  · rw [if_neg c, if_neg c]
def chosenR (a : List S70) (l : List S54) : List ByteArray × Bool := if goodSy a l = true then (vals a.length l, true) else ([], false)
theorem spec_ChosenIn.ev (a : List S70) (l : List S54) (ha : okL70 a) (hl : okL54 l) : Ev (fun k => spec_ChosenIn.f k a l) (chosenR a l) := by
  have h1 := hl.1
  unfold spec_ChosenIn.f chosenR
  refine Ev.bind (spec_GoodSynod.ev a l ha hl) ?_
  refine Ev.cases (fun h => ?_) (fun h => Ev.some (by rw [if_neg h]))
  rw [if_pos h]
  refine Ev.eq (Ev.up (g := fun k i => spec_ChosenIn.l0 k ((vals a.length (l.take i.toNat)).map cl) l (l.length : Int) i a l) l.length (fun _ => (vals a.length l, true)) ?_) rfl
  intro i hi ih
  refine Ev.step (fun k => by rw [spec_ChosenIn.l0]) ?_
  have hv := vals_length a.length (l.take i)
  have hv' : (vals a.length (l.take i)).length ≤ 1048576 := by
    have : (l.take i).length ≤ l.length := by simp; omega
    omega
  simp only [Int.toNat_natCast] at ih ⊢
  by_cases hlt : i < l.length
  · have h2 := ih hlt
    have e : rd_T54 l (i : Int) = l[i] := getD_nat l _ hlt
    have hb : l[i].f4.length ≤ 1048576 := (hl.2 _ (List.getElem_mem hlt)).2.2.2
    refine Ev.pos (by omega) (Ev.pos (by omega) (Ev.pos (by omega) ?_))
    rw [e, w64_succ hlt (by omega), w64 (x := 2 * ((l[i].f4.length : Nat) : Int)) (by omega) (by omega)]
    rw [vals_snoc a.length l hlt] at h2
    refine Ev.cases (fun c => ?_) (fun c => ?_)
    · rw [if_pos c] at h2
      exact Ev.bind (spec_l3Cells.ev _ _ (by omega)) h2
    · rw [if_neg c] at h2
      exact h2
  · have : i = l.length := by omega
    subst this
    rw [List.take_length] at hv' ⊢
    refine Ev.neg (by omega) ?_
    generalize vals a.length l = C at hv'
    have hC : ((C.map cl).length : Int) = (C.length : Int) := by simp
    rw [hC]
    refine Ev.eq (Ev.up (g := fun k j => spec_ChosenIn.l1 k (C.take j.toNat) (C.map cl) (C.length : Int) j) C.length (fun _ => (C, true)) ?_) rfl
    intro j hj jh
    refine Ev.step (fun k => by rw [spec_ChosenIn.l1]) ?_
    simp only [Int.toNat_natCast] at jh ⊢
    by_cases hjl : j < C.length
    · have h3 := jh hjl
      have e2 : rd_T57 (C.map cl) (j : Int) = cl C[j] := by simp [rd_T57, hjl]
      refine Ev.pos (by omega) (Ev.pos (by omega) (Ev.pos (by simp; omega) (Ev.pos (by simp; omega) ?_)))
      rw [e2, w64_succ hjl (by omega)]
      show Ev (fun k => spec_ChosenIn.l1 k (C.take j ++ [C[j]]) _ _ _) _
      rw [← take_snoc C hjl]
      exact h3
    · have : j = C.length := by omega
      subst this
      rw [List.take_length]
      exact Ev.neg (by omega) (Ev.now _)

theorem impl_ChosenIn.ev (a : List S70) (l : List S54) (ha : okL70 a) (hl : okL54 l) : Ev (fun k => impl_ChosenIn.f k a l) (chosenR a l) := by
  have h1 := hl.1
  unfold impl_ChosenIn.f chosenR
  refine Ev.bind (impl_isSynod.ev a l ha hl) ?_
  refine Ev.cases (fun h => ?_) (fun h => Ev.some (by rw [if_neg h]))
  rw [if_pos h]
  refine Ev.eq (Ev.up (g := fun k i => impl_ChosenIn.l0 k (wonL a.length (l.take i.toNat)) l (l.length : Int) i a l) l.length (fun _ => (vals a.length l, true)) ?_) rfl
  intro i hi ih
  refine Ev.step (fun k => by rw [impl_ChosenIn.l0]) ?_
  have hv := wonL_length a.length (l.take i)
  have hv' : (wonL a.length (l.take i)).length ≤ 1048576 := by
    have : (l.take i).length ≤ l.length := by simp; omega
    omega
  simp only [Int.toNat_natCast] at ih ⊢
  by_cases hlt : i < l.length
  · have h2 := ih hlt
    have e : rd_T54 l (i : Int) = l[i] := getD_nat l _ hlt
    have hb : l[i].f4.length ≤ 1048576 := (hl.2 _ (List.getElem_mem hlt)).2.2.2
    refine Ev.pos (by omega) (Ev.pos (by omega) (Ev.pos (by omega) ?_))
    rw [e, w64_succ hlt (by omega), w64 (x := 2 * ((l[i].f4.length : Nat) : Int)) (by omega) (by omega)]
    rw [wonL_snoc a.length l hlt] at h2
    refine Ev.cases (fun c => ?_) (fun c => ?_)
    · rw [if_pos c] at h2
      exact Ev.pos (by omega) h2
    · rw [if_neg c] at h2
      exact h2
  · have : i = l.length := by omega
    subst this
    rw [List.take_length] at hv' ⊢
    refine Ev.neg (by omega) (Ev.pos (by omega) (Ev.some ?_))
    rw [StrSort.cmpct_srt]; rfl

def mc54 (x : S54) : Nat := 3 + ms73 (x.f1) + (x.f4).length
def ms54 : List S54 → Nat
  | [] => 0
  | x :: r => mc54 x + ms54 r
def mok54 (l : List S54) : Prop := ∀ x ∈ l, x.f1.length ≤ 1048576 ∧ mok73 x.f1 ∧ x.f4.length ≤ 1048576
theorem laws_markProposerS.go (r : List S54) : mok54 r → ∀ (p q : List S54) (k0 : Int), 0 ≤ k0 → k0 + (ms54 r : Int) ≤ 9223372036854775807 → p.length + r.length ≤ 9223372036854775807 → q.length = p.length →
    ∃ r' : List S54, r'.length = r.length ∧ Ev (fun k => laws_markProposerS.l0 k (p ++ r) k0 (p.length : Int)) (k0 + (ms54 r : Int), p ++ r') := by
  induction r with
  | nil =>
    intro _ p q k0 h0 h1 h2 hq
    refine ⟨[], rfl, ?_⟩
    · exact Ev.step (fun k => by rw [laws_markProposerS.l0]) (Ev.neg (by simp) (Ev.some (by simp [ms54])))
  | cons x r ih =>
    intro hok p q k0 h0 h1 h2 hq
    have hx := hok x (List.mem_cons_self ..)
    have ih := ih (fun z hz => hok z (List.mem_cons_of_mem _ hz))
    have hms : ms54 (x :: r) = mc54 x + ms54 r := rfl
    simp only [mc54] at hms
    simp only [List.length_cons] at h2
    obtain ⟨hx1, hy1, hx4⟩ := hx
    obtain ⟨t0, ht0⟩ := laws_markText.all (k0) (by omega) (by omega)
    have e1 : wrap64 (k0 + 1) = k0 + 1 := w64 (by omega) (by omega)
    obtain ⟨l1, hl1, hm1⟩ := laws_markPromiseS.two x.f1 (k0 + 1) (by omega) (by omega) (by omega) hy1
    have e2 : wrap64 (k0 + 1 + (ms73 (x.f1) : Int) + 1) = k0 + 1 + (ms73 (x.f1) : Int) + 1 := w64 (by omega) (by omega)
    obtain ⟨t3, ht3⟩ := laws_markText.all (k0 + 1 + (ms73 (x.f1) : Int) + 1) (by omega) (by omega)
    have e3 : wrap64 (k0 + 1 + (ms73 (x.f1) : Int) + 1 + 1) = k0 + 1 + (ms73 (x.f1) : Int) + 1 + 1 := w64 (by omega) (by omega)
    obtain ⟨l4, hl4, hm4⟩ := laws_markIntS.two x.f4 (k0 + 1 + (ms73 (x.f1) : Int) + 1 + 1) (by omega) (by omega) (by omega)
    obtain ⟨r', hr', hm⟩ := ih (p ++ [(⟨t0, l1, ((Int.tmod (k0 + 1 + (ms73 (x.f1) : Int)) 3) == 0), t3, l4⟩ : S54)]) (q ++ [(⟨t0, l1, ((Int.tmod (k0 + 1 + (ms73 (x.f1) : Int)) 3) == 0), t3, l4⟩ : S54)]) (k0 + 1 + (ms73 (x.f1) : Int) + 1 + 1 + ((x.f4).length : Int)) (by omega) (by omega) (by simp; omega) (by simp [hq])
    have ep : wrap64 ((p.length : Int) + 1) = (((p ++ [(⟨t0, l1, ((Int.tmod (k0 + 1 + (ms73 (x.f1) : Int)) 3) == 0), t3, l4⟩ : S54)]).length : Nat) : Int) := by rw [w64 (by omega) (by omega)]; simp
    have eq : wrap64 ((q.length : Int) + 1) = (((q ++ [(⟨t0, l1, ((Int.tmod (k0 + 1 + (ms73 (x.f1) : Int)) 3) == 0), t3, l4⟩ : S54)]).length : Nat) : Int) := by rw [w64 (by omega) (by omega)]; simp
    have rdp : ∀ (y : S54) (r : List S54), rd_T54 (p ++ y :: r) (p.length : Int) = y := fun y r => by simp [rd_T54]
    have rdq : rd_T54 (q ++ (⟨t0, l1, ((Int.tmod (k0 + 1 + (ms73 (x.f1) : Int)) 3) == 0), t3, l4⟩ : S54) :: r') (q.length : Int) = (⟨t0, l1, ((Int.tmod (k0 + 1 + (ms73 (x.f1) : Int)) 3) == 0), t3, l4⟩ : S54) := by simp [rd_T54]
    have stp : ∀ (y z : S54) (r : List S54), (p ++ y :: r).set (p.length : Int).toNat z = p ++ z :: r := fun y z r => by simp
    refine ⟨(⟨t0, l1, ((Int.tmod (k0 + 1 + (ms73 (x.f1) : Int)) 3) == 0), t3, l4⟩ : S54) :: r', by simp [hr'], ?_⟩
    · refine Ev.step (fun k => by rw [laws_markProposerS.l0]) (Ev.pos (by simp; omega) (Ev.pos (by omega) ?_))
      simp only [Option.bind_some, rdp, stp]
      refine Ev.bind ht0 ?_
      try dsimp only
      try simp only [Option.bind_some, rdp, stp]
      rw [e1]
      refine Ev.bind hm1 ?_
      try dsimp only
      rw [e2]
      refine Ev.bind ht3 ?_
      try dsimp only
      try simp only [Option.bind_some, rdp, stp]
      rw [e3]
      refine Ev.bind hm4 ?_
      try dsimp only
      rw [ep]
      have e_ : p ++ (⟨t0, l1, ((Int.tmod (k0 + 1 + (ms73 (x.f1) : Int)) 3) == 0), t3, l4⟩ : S54) :: r = (p ++ [(⟨t0, l1, ((Int.tmod (k0 + 1 + (ms73 (x.f1) : Int)) 3) == 0), t3, l4⟩ : S54)]) ++ r := by simp
      first | rw [e_] | (simp only [stp]; rw [e_])
      exact Ev.eq hm (by rw [Prod.mk.injEq]; exact ⟨by omega, by simp⟩)
theorem laws_markProposerS.two (l : List S54) (k0 : Int) (h0 : 0 ≤ k0) (h1 : k0 + (ms54 l : Int) ≤ 9223372036854775807) (h2 : l.length ≤ 9223372036854775807) (h3 : mok54 l) : ∃ l' : List S54, l'.length = l.length ∧ Ev (fun k => laws_markProposerS.f k l k0) (k0 + (ms54 l : Int), l') := by
  obtain ⟨l', e, h4⟩ := laws_markProposerS.go l h3 [] [] k0 h0 h1 (by simpa using h2) rfl
  exact ⟨l', e, by simpa [laws_markProposerS.f] using h4⟩

theorem laws_markSynod.two (l0 : List S70) (l1 : List S54) (k0 : Int) (h0 : 0 ≤ k0) (h1 : k0 + (ms70 (l0) : Int) + (ms54 (l1) : Int) ≤ 9223372036854775807) (hl0 : l0.length ≤ 9223372036854775807) (ho0 : mok70 l0) (hl1 : l1.length ≤ 9223372036854775807) (ho1 : mok54 l1) : ∃ (m0 : List S70) (m1 : List S54), Ev (fun k => laws_markSynod.f k l0 l1 k0) (k0 + (ms70 (l0) : Int) + (ms54 (l1) : Int), m0, m1) := by
  obtain ⟨m0, e0, hm0⟩ := laws_markAcceptorS.two l0 (k0) (by omega) (by omega) hl0 ho0
  obtain ⟨m1, e1, hm1⟩ := laws_markProposerS.two l1 (k0 + (ms70 (l0) : Int)) (by omega) (by omega) hl1 ho1
  refine ⟨m0, m1, ?_⟩
  · unfold laws_markSynod.f
    exact Ev.bind hm0 (Ev.bind hm1 (Ev.now _))

theorem ms70_b (l : List S70) : ms70 l = 3 * l.length := by
  induction l with
  | nil => rfl
  | cons x r ih => simp only [ms70, mc70, List.length_cons, ih]; omega
theorem ms73_b (l : List S73) : ms73 l = 3 * l.length := by
  induction l with
  | nil => rfl
  | cons x r ih => simp only [ms73, mc73, List.length_cons, ih]; omega
theorem props_b (l : List S54) (h : ∀ w ∈ l, okE54 w) : ms54 l ≤ 4194307 * l.length ∧ mok54 l := by
  refine ⟨?_, fun w hw => ?_⟩
  · induction l with
    | nil => simp [ms54]
    | cons x r ih =>
      obtain ⟨_, h1, _, h2⟩ := h x (List.mem_cons_self ..)
      have := ih (fun w hw => h w (List.mem_cons_of_mem _ hw))
      have e := ms73_b x.f1
      have h3 := h1.1
      have h4 : x.f4.length ≤ 1048576 := h2
      simp only [ms54, mc54, List.length_cons, e]; omega
  · obtain ⟨_, h1, _, h2⟩ := h w hw
    exact ⟨h1.1, fun _ _ => trivial, h2⟩
theorem holds_ev (a : List S76) (l : List S80) (h1 : bigL76 a) (h2 : bigL80 l) : Ev (fun k => laws_FnExactChosenIn.f k a l) true := by
  obtain ⟨r, hr, _, hsz⟩ := laws_szSynod.ev a l 1048576 (by omega) (by omega) h1 h2
  unfold laws_FnExactChosenIn.f
  refine Ev.bind hr ?_
  try dsimp only
  refine Ev.cases (fun _ => Ev.now _) (fun hn => ?_)
  obtain ⟨o1, o2⟩ := hsz (by omega)
  have o3 := okL76_map o1
  have o4 := okL80_map o2
  refine Ev.bind (laws_toSynod.ev a l o1 o2) ?_
  try dsimp only
  have hs := spec_ChosenIn.ev _ _ o3 o4
  have hi := impl_ChosenIn.ev _ _ o3 o4
  have hq := laws_eqSynod.refl _ _ o3 o4
  obtain ⟨V, B, hV, hVB⟩ : ∃ V B, V.length ≤ 1048576 ∧ chosenR (a.map c76) (l.map c80) = (V, B) := by
    unfold chosenR
    split
    · exact ⟨_, _, Nat.le_trans (vals_length _ _) o4.1, rfl⟩
    · exact ⟨_, _, by simp, rfl⟩
  rw [hVB] at hs hi
  generalize a.map c76 = A at o3 hs hi hq ⊢
  generalize l.map c80 = L at o4 hs hi hq ⊢
  have he := laws_eqStringS.refl V hV
  obtain ⟨V', hm, hh⟩ := laws_heldStringS.two V hV
  obtain ⟨b1, b2⟩ := props_b L o4.2
  have b3 := o3.1
  have b4 := o4.1
  have b5 := ms70_b A
  obtain ⟨m0, m1, hx⟩ := laws_markSynod.two A L 1 (by omega) (by omega) (by omega) (fun _ _ => trivial) (by omega) b2
  refine Ev.bind hs ?_
  try dsimp only
  refine Ev.bind hi ?_
  try dsimp only
  refine Ev.iff he (Ev.pos rfl (Ev.iff hq (Ev.bind hx ?_)))
  try dsimp only
  refine Ev.pos (by omega) (Ev.bind hm ?_)
  try dsimp only
  refine Ev.bind hh ?_
  try dsimp only
  exact Ev.pos (by omega) (Ev.pos rfl (Ev.now _))

end Go.Proofs.Ytjpaoeeeiklfnaa.PSY
namespace Go.Proofs.Ytjpaoeeeiklfnaa.PureFnExactChosenIn
open Go.RowKit Go.Proofs.Ytjpaoeeeiklfnaa.PSY Go.Proofs.Ytjpaoeeeiklfnaa.Base Go.Proofs.Ytjpaoeeeiklfnaa.Open Go.Proofs.YtjpaoeeeiklfnaaW.PrintWords Go.Proofs.YtjpaoeeeiklfnaaW.PrintLast
theorem holds (l0_0 : List S76) (l0_1 : List S80) (w0 : ((l0_0.length ≤ 9223372036854775807 ∧ ∀ z ∈ l0_0, W76 z) ∧ (l0_1.length ≤ 9223372036854775807 ∧ ∀ z ∈ l0_1, W80 z))) : ∃ k, Go.Proofs.Ytjpaoeeeiklfnaa.PSY.laws_FnExactChosenIn.f k l0_0 l0_1 = some true := by
  obtain ⟨K, hK⟩ := (holds_ev _ _ ⟨w0.1.1, fun z hz => (w0.1.2 z hz).2.2⟩ ⟨w0.2.1, fun z hz => ⟨(w0.2.2 z hz).1, ⟨(w0.2.2 z hz).2.1.1, fun y hy => ((w0.2.2 z hz).2.1.2 y hy).2.2⟩, (w0.2.2 z hz).2.2.2.1, (w0.2.2 z hz).2.2.2.2.1⟩⟩)
  exact ⟨K, hK K (Nat.le_refl K)⟩
end Go.Proofs.Ytjpaoeeeiklfnaa.PureFnExactChosenIn
