/- What this text proves: laws.FnExactValueOf, told as plain functions of numbers and lists, answers true for all arguments.
   Conditions: the bounds that the typed reading gives. -/
import Derived.Test.YtcloilddgimamaaPCx3
import Derived.Test.YtcloilddgimamaaOpen
import Derived.Test.YtcloilddgimamaaBase
namespace Go.Proofs.Ytcloilddgimamaa.PC
open Go.RowKit Go.Proofs.Ytcloilddgimamaa.Base Go.Proofs.Ytcloilddgimamaa.Open Go.Proofs.YtcloilddgimamaaW.PrintWords Go.Proofs.YtcloilddgimamaaW.PrintLast Go.Proofs.YtcloilddgimamaaW.PrintMore
set_option linter.unusedVariables false
set_option linter.unusedSimpArgs false
/-- What is left of a size, -1 where nothing is. -/
def lessSz (a : Int) (n : Nat) : Int := if a < n then -1 else a - n
theorem laws_szIntS.ev (l : List Int) (a : Int) (h0 : 0 ≤ a) (h1 : a ≤ 1048576) (hl : l.length ≤ 9223372036854775807) : laws_szIntS.f l a = some (lessSz a l.length) := by
  unfold laws_szIntS.f lessSz
  rw [w64 (by omega) (by omega)]
  by_cases h : a < l.length
  · rw [if_pos (by omega), if_pos h]
  · rw [if_neg (by omega), if_neg h]

theorem laws_szCounter.ev (x y : List Int) (a : Int) (h0 : 0 ≤ a) (h1 : a ≤ 1048576) (hx : x.length ≤ 9223372036854775807) (hy : y.length ≤ 9223372036854775807) :
    ∃ r, laws_szCounter.f x y a = some r ∧ r ≤ a ∧ (0 ≤ r → x.length + y.length ≤ 1048576) := by
  unfold laws_szCounter.f
  rw [laws_szIntS.ev x _ (by omega) (by omega) hx]
  simp only [Option.bind_some]
  unfold lessSz
  by_cases h : a < x.length
  · exact ⟨-1, by simp [h], by omega, fun h => by omega⟩
  · rw [if_neg h, if_neg (by omega), laws_szIntS.ev y _ (by omega) (by omega) hy]
    simp only [Option.bind_some]
    unfold lessSz
    by_cases h2 : a - x.length < y.length
    · exact ⟨-1, by simp [h2], by omega, fun h => by omega⟩
    · exact ⟨_, by rw [if_neg h2, if_neg (by omega)], by omega, fun _ => by omega⟩

theorem spec_l1In.ev (n a b : Int) : spec_l1In.f n a b = some (inB n a b) := by
  unfold spec_l1In.f inB
  by_cases h : a ≤ n
  · rw [if_pos h]; simp [h]
  · rw [if_neg h]; simp [h]

def rowOk (l : List Int) : Bool := allFrom (fun i => inB (rd l i) 0 1000000) l.length 0 && decide (l.length = 6)
theorem spec_l14Row.ev (l : List Int) (hl : l.length ≤ 9223372036854775807) : Ev (fun k => spec_l14Row.f k l) (rowOk l) := by
  unfold spec_l14Row.f rowOk
  refine Ev.eq (Ev.up (g := fun k i => spec_l14Row.l0 k l l (l.length : Int) i) l.length (fun i => allFrom (fun i => inB (rd l i) 0 1000000) l.length i && decide (l.length = 6)) ?_) rfl
  intro i hi ih
  refine Ev.step (fun k => by rw [spec_l14Row.l0]) ?_
  by_cases hlt : i < l.length
  · refine Ev.pos (by omega) (Ev.pos (by omega) (Ev.pos (by omega) (Ev.bindS (spec_l1In.ev _ _ _) ?_)))
    rw [allFrom_step hlt, w64_succ hlt hl]
    have ih := ih hlt
    generalize allFrom (fun i => inB (rd l i) 0 1000000) l.length (i + 1) = q at ih ⊢
    refine Ev.cases (fun h => Ev.eq ih (by rw [h]; rfl)) (fun h => Ev.some (by simp at h; simp [h]))
  · have : i = l.length := by omega
    subst this
    refine Ev.neg (by omega) (Ev.some ?_)
    rw [allFrom_end, Bool.true_and]
    exact decide_eq_decide.2 (by omega)

def goodC (u d : List Int) : Bool := rowOk u && rowOk d
theorem goodC_at {u d : List Int} (h : goodC u d = true) : u.length = 6 ∧ d.length = 6 ∧ (∀ i : Nat, i < 6 → 0 ≤ rd u i ∧ rd u i ≤ 1000000) ∧ (∀ i : Nat, i < 6 → 0 ≤ rd d i ∧ rd d i ≤ 1000000) := by
  simp only [goodC, rowOk, Bool.and_eq_true, decide_eq_true_eq] at h
  obtain ⟨⟨h1, h2⟩, h3, h4⟩ := h
  refine ⟨h2, h4, fun i hi => ?_, fun i hi => ?_⟩
  · exact inB_iff.1 (allFrom_iff.1 h1 i (by omega) (by omega))
  · exact inB_iff.1 (allFrom_iff.1 h3 i (by omega) (by omega))
theorem goodC_of {u d : List Int} (h1 : u.length = 6) (h2 : d.length = 6) (h3 : ∀ i : Nat, i < 6 → 0 ≤ rd u i ∧ rd u i ≤ 1000000) (h4 : ∀ i : Nat, i < 6 → 0 ≤ rd d i ∧ rd d i ≤ 1000000) : goodC u d = true := by
  simp only [goodC, rowOk, Bool.and_eq_true, decide_eq_true_eq]
  exact ⟨⟨allFrom_iff.2 (fun j _ hj => inB_iff.2 (h3 j (by omega))), h1⟩, allFrom_iff.2 (fun j _ hj => inB_iff.2 (h4 j (by omega))), h2⟩
theorem spec_GoodCounter.ev (u d : List Int) (hu : u.length ≤ 9223372036854775807) (hd : d.length ≤ 9223372036854775807) : Ev (fun k => spec_GoodCounter.f k u d) (goodC u d) := by
  unfold spec_GoodCounter.f goodC
  refine Ev.bind (spec_l14Row.ev u hu) (Ev.cases (fun h1 => ?_) (fun h1 => Ev.some (by simp at h1; simp [h1])))
  exact Ev.bind (spec_l14Row.ev d hd) (Ev.some (by rw [h1]; rfl))

theorem laws_toIntS.ev (l : List Int) (hl : l.length ≤ 1048576) : Ev (fun k => laws_toIntS.f k l) l := by
  unfold laws_toIntS.f
  refine Ev.pos (by omega) (Ev.pos (by omega) ?_)
  refine Ev.eq (Ev.up (g := fun k i => laws_toIntS.l0 k l (l.take i.toNat ++ List.replicate (l.length - i.toNat) 0) i) l.length (fun _ => l) ?_) rfl
  intro i hi ih
  refine Ev.step (fun k => by rw [laws_toIntS.l0]) ?_
  by_cases hlt : i < l.length
  · refine Ev.pos (by omega) (Ev.pos (by omega) (Ev.pos (by simp; omega) ?_))
    rw [rd_get hlt, w64_succ hlt (by omega)]
    have h2 := ih hlt
    simp only [Int.toNat_natCast] at h2 ⊢
    rw [set_fill l 0 hlt]
    exact h2
  · refine Ev.neg (by omega) (Ev.some ?_)
    simp only [Int.toNat_natCast]
    have : i = l.length := by omega
    subst this
    simp

theorem laws_toCounter.ev (x y : List Int) (h : x.length + y.length ≤ 1048576) : Ev (fun k => laws_toCounter.f k x y) (x, y) := by
  unfold laws_toCounter.f
  exact Ev.bind (laws_toIntS.ev x (by omega)) (Ev.bind (laws_toIntS.ev y (by omega)) (Ev.now _))

theorem rowOk_any (l : List Int) : rowOk l = (decide ((l.length : Int) = 6) && !(l.any badCount)) := by
  rw [Bool.eq_iff_iff]
  simp only [rowOk, Bool.and_eq_true, decide_eq_true_eq, allFrom_iff, Bool.not_eq_true', List.any_eq_false, badCount, inB]
  constructor
  · rintro ⟨h1, h2⟩
    refine ⟨by omega, fun x hx => ?_⟩
    obtain ⟨i, hi, rfl⟩ := List.getElem_of_mem hx
    have := h1 i (by omega) hi
    rw [rd_get hi] at this
    simp at this ⊢; exact this
  · rintro ⟨h1, h2⟩
    refine ⟨fun j _ hj => ?_, by omega⟩
    have := h2 l[j] (List.getElem_mem hj)
    rw [rd_get hj]
    simp at this ⊢; exact this
theorem impl_isCounter.ev (u d : List Int) : impl_isCounter.f u d = some (goodC u d) := by
  unfold impl_isCounter.f goodC
  rw [rowOk_any, rowOk_any]
  congr 1
  cases decide ((u.length : Int) = 6) <;> cases decide ((d.length : Int) = 6) <;> simp

theorem laws_eqIntS.ev (x y : List Int) (hx : x.length ≤ 9223372036854775807) : Ev (fun k => laws_eqIntS.f k x y) (decide (x = y)) := by
  unfold laws_eqIntS.f
  refine Ev.cases (fun hl => ?_) (fun hl => Ev.some ?_)
  · have hl' : x.length = y.length := by omega
    refine Ev.eq (Ev.up (g := fun k i => laws_eqIntS.l0 k x y i) x.length (fun i => decide (x.drop i = y.drop i)) ?_) (by simp)
    intro i hi ih
    refine Ev.step (fun k => by rw [laws_eqIntS.l0]) ?_
    by_cases hlt : i < x.length
    · refine Ev.pos (by omega) (Ev.pos (by omega) (Ev.pos (by omega) ?_))
      rw [rd_get hlt, rd_get (by omega : i < y.length), w64_succ hlt hx]
      have e : decide (x.drop i = y.drop i) = (decide (x[i] = y[i]) && decide (x.drop (i + 1) = y.drop (i + 1))) := drop_eq_step hlt (by omega)
      rw [e]
      refine Ev.cases (fun he => ?_) (fun he => Ev.some (by rw [decide_eq_false he]; rfl))
      exact Ev.eq (ih hlt) (by rw [decide_eq_true he]; rfl)
    · refine Ev.neg (by omega) (Ev.some ?_)
      rw [List.drop_of_length_le (by omega), List.drop_of_length_le (by omega)]
      simp
  · have : x ≠ y := fun h => hl (by rw [h])
    simp [this]

theorem laws_eqCounter.ev (x y x' y' : List Int) (hx : x.length ≤ 9223372036854775807) (hy : y.length ≤ 9223372036854775807) : Ev (fun k => laws_eqCounter.f k x y x' y') (decide ((x, y) = (x', y'))) := by
  unfold laws_eqCounter.f
  refine Ev.bind (laws_eqIntS.ev x x' hx) (Ev.cases (fun h1 => ?_) (fun h1 => Ev.some (by simp at h1; simp [h1])))
  refine Ev.bind (laws_eqIntS.ev y y' hy) (Ev.cases (fun h2 => Ev.some ?_) (fun h2 => Ev.some (by simp at h2; simp [h2])))
  simp at h1 h2; simp [h1, h2]

def valC (u d : List Int) (i : Nat) : Int := sumTo (fun j => rd u j - rd d j) i
def valueC (u d : List Int) : Int × Bool := if goodC u d then (valC u d 6, true) else (0, false)
theorem valC_bound {u d : List Int} (h : goodC u d = true) : ∀ i : Nat, i ≤ 6 → -1000000 * i ≤ valC u d i ∧ valC u d i ≤ 1000000 * i := by
  obtain ⟨h1, h2, h3, h4⟩ := goodC_at h
  intro i
  induction i with
  | zero => intro _; simp [valC, sumTo]
  | succ i ih =>
    intro hi
    have := ih (by omega)
    have := h3 i (by omega)
    have := h4 i (by omega)
    have e : valC u d (i + 1) = valC u d i + (rd u i - rd d i) := rfl
    rw [e]; omega
theorem spec_ValueOf.ev (u d : List Int) (hu : u.length ≤ 9223372036854775807) (hd : d.length ≤ 9223372036854775807) : Ev (fun k => spec_ValueOf.f k u d) (valueC u d) := by
  unfold spec_ValueOf.f valueC
  refine Ev.bind (spec_GoodCounter.ev u d hu hd) (Ev.cases (fun h => ?_) (fun h => Ev.some (by rw [if_neg h])))
  obtain ⟨h1, h2, h3, h4⟩ := goodC_at h
  have hb := valC_bound h
  rw [if_pos h]
  refine Ev.eq (Ev.up (g := fun k i => spec_ValueOf.l0 k (valC u d i.toNat) (u.length : Int) i u d) 6 (fun _ => (valC u d 6, true)) ?_) rfl
  intro i hi ih
  refine Ev.step (fun k => by rw [spec_ValueOf.l0]) ?_
  by_cases hlt : i < 6
  · have b1 := hb i hi
    have b2 := hb (i + 1) (by omega)
    have b3 := h3 i hlt
    have b4 := h4 i hlt
    have e : valC u d (i + 1) = valC u d i + (rd u i - rd d i) := rfl
    have h2 := ih hlt
    simp only [Int.toNat_natCast] at h2 ⊢
    refine Ev.pos (by omega) (Ev.pos (by omega) (Ev.pos (by omega) (Ev.pos (by omega) ?_)))
    rw [w64 (x := rd u i - rd d i) (by omega) (by omega), ← e, w64 (by omega) (by omega), w64_succ hlt (by omega)]
    exact h2
  · have : i = 6 := by omega
    subst this
    exact Ev.neg (by omega) (Ev.some (by simp))

theorem impl_ValueOf.ev (u d : List Int) : Ev (fun k => impl_ValueOf.f k u d) (valueC u d) := by
  unfold impl_ValueOf.f valueC
  refine Ev.bindS (impl_isCounter.ev u d) (Ev.cases (fun h => ?_) (fun h => Ev.some (by rw [if_neg h])))
  obtain ⟨h1, h2, h3, h4⟩ := goodC_at h
  have hb := valC_bound h
  rw [if_pos h]
  refine Ev.eq (Ev.up (g := fun k i => impl_ValueOf.l0 k (valC u d i.toNat) u (u.length : Int) i u d) 6 (fun _ => (valC u d 6, true)) ?_) rfl
  intro i hi ih
  refine Ev.step (fun k => by rw [impl_ValueOf.l0]) ?_
  by_cases hlt : i < 6
  · have b1 := hb i hi
    have b2 := hb (i + 1) (by omega)
    have b3 := h3 i hlt
    have b4 := h4 i hlt
    have e : valC u d (i + 1) = valC u d i + (rd u i - rd d i) := rfl
    have h2 := ih hlt
    simp only [Int.toNat_natCast] at h2 ⊢
    refine Ev.pos (by omega) (Ev.pos (by omega) (Ev.pos (by omega) (Ev.pos (by omega) ?_)))
    rw [w64 (x := rd u i - rd d i) (by omega) (by omega), ← e, w64 (by omega) (by omega), w64_succ hlt (by omega)]
    exact h2
  · have : i = 6 := by omega
    subst this
    exact Ev.neg (by omega) (Ev.some (by simp))

theorem holds_ev (x y : List Int) (hx : x.length ≤ 9223372036854775807) (hy : y.length ≤ 9223372036854775807) : Ev (fun k => laws_FnExactValueOf.f k x y) true := by
  obtain ⟨r, hr, _, hsz⟩ := laws_szCounter.ev x y 1048576 (by omega) (by omega) hx hy
  unfold laws_FnExactValueOf.f
  refine Ev.bindS hr (Ev.cases (fun _ => Ev.now _) (fun hn => ?_))
  have tt := laws_toCounter.ev x y (hsz (by omega))
  refine Ev.bind tt (Ev.bind (spec_ValueOf.ev _ _ hx hy) (Ev.bind tt (Ev.bind (impl_ValueOf.ev _ _) ?_)))
  refine Ev.pos rfl (Ev.step (fun k => by rw [laws_FnExactValueOf.j0]) (Ev.neg (by simp) ?_))
  refine Ev.bind tt (Ev.bind (laws_eqCounter.ev _ _ _ _ hx hy) ?_)
  exact Ev.pos (decide_eq_true rfl) (Ev.now _)

end Go.Proofs.Ytcloilddgimamaa.PC
namespace Go.Proofs.Ytcloilddgimamaa.PureFnExactValueOf
open Go.RowKit Go.Proofs.Ytcloilddgimamaa.PC Go.Proofs.Ytcloilddgimamaa.Base Go.Proofs.Ytcloilddgimamaa.Open Go.Proofs.YtcloilddgimamaaW.PrintWords Go.Proofs.YtcloilddgimamaaW.PrintLast
theorem holds (l0_0 : List Int) (l0_1 : List Int) (w0 : ((l0_0.length ≤ 9223372036854775807 ∧ ∀ z ∈ l0_0, (Lit.int .i64 z).wf = true) ∧ (l0_1.length ≤ 9223372036854775807 ∧ ∀ z ∈ l0_1, (Lit.int .i64 z).wf = true))) : ∃ k, Go.Proofs.Ytcloilddgimamaa.PC.laws_FnExactValueOf.f k l0_0 l0_1 = some true := by
  exact (holds_ev _ _ w0.1.1 w0.2.1).rounds
end Go.Proofs.Ytcloilddgimamaa.PureFnExactValueOf
