/- What this text proves: laws.FnExactCountBy, told as plain functions of numbers and lists, answers true for all arguments.
   Conditions: the bounds that the typed reading gives. -/
import Derived.Test.YtcloilddgimamaaPCBx6
import Derived.Test.YtcloilddgimamaaOpen
import Derived.Test.YtcloilddgimamaaBase
namespace Go.Proofs.Ytcloilddgimamaa.PCB
open Go.RowKit Go.Proofs.Ytcloilddgimamaa.Base Go.Proofs.Ytcloilddgimamaa.Open Go.Proofs.YtcloilddgimamaaW.PrintWords Go.Proofs.YtcloilddgimamaaW.PrintLast Go.Proofs.YtcloilddgimamaaW.PrintMore
set_option linter.unusedVariables false
set_option linter.unusedSimpArgs false
theorem u3 : Opens Try.prog 3 (Kd.int .i64) (fun x => (Lit.int .i64 x).wf = true) := Opens.int Try.underlying3 (by kernel_rfl)
theorem u22 : Opens Try.prog 22 (Kd.slice 3 (Kd.int .i64)) (fun x => (x.length ≤ 9223372036854775807 ∧ ∀ z ∈ x, (Lit.int .i64 z).wf = true)) := Opens.slice Try.underlying22 (by kernel_rfl) u3
/-- The place of the first element at which p says yes, counted from i; -1 for none. -/
def idxN {α : Type} (p : α → Bool) : List α → Nat → Int
  | [], _ => -1
  | x :: r, i => if p x = true then (i : Int) else idxN p r (i + 1)
theorem idxO_val {α : Type} {F : α → Option Bool} {p : α → Bool} : ∀ (l : List α) (i : Nat), (∀ x ∈ l, F x = some (p x)) → idxO F l i = some (idxN p l i)
  | [], _, _ => rfl
  | x :: r, i, h => by
    simp only [idxO, idxN, h x (List.mem_cons_self ..), Option.bind_some]
    rw [idxO_val r (i + 1) (fun y hy => h y (List.mem_cons_of_mem _ hy))]
    split <;> rfl
theorem idxN_cons {α : Type} (p : α → Bool) (x : α) (r : List α) (i : Nat) : idxN p (x :: r) i = if p x = true then (i : Int) else idxN p r (i + 1) := rfl
theorem idxN_anyP {α : Type} (p : α → Bool) : ∀ (l : List α) (i : Nat), (idxN p l i ≥ 0) ↔ l.any p = true
  | [], _ => by simp [idxN]
  | x :: r, i => by
    rw [idxN_cons]
    by_cases h : p x = true
    · rw [if_pos h, List.any_cons, h]; simp
    · rw [if_neg h, List.any_cons, Bool.eq_false_iff.2 h, Bool.false_or]; exact idxN_anyP p r (i + 1)
theorem idxN_any {α : Type} (p : α → Bool) (l : List α) (i : Nat) : decide (idxN p l i ≥ 0) = l.any p := by
  rw [Bool.eq_iff_iff, decide_eq_true_iff]; exact idxN_anyP p l i
theorem idxN_ge {α : Type} (p : α → Bool) : ∀ (l : List α) (i : Nat), idxN p l i = -1 ∨ (i : Int) ≤ idxN p l i
  | [], _ => .inl rfl
  | x :: r, i => by
    simp only [idxN]
    split
    · exact .inr (Int.le_refl _)
    · rcases idxN_ge p r (i + 1) with h | h
      · exact .inl h
      · exact .inr (by omega)
theorem idxO_any {α : Type} {F : α → Option Bool} {p : α → Bool} {l : List α} (h : ∀ x ∈ l, F x = some (p x)) : ((idxO F l 0).bind fun i => some (decide (i ≥ 0))) = some (l.any p) := by
  rw [idxO_val l 0 h]; simp only [Option.bind_some]; rw [idxN_any]
theorem idxO_Ev {α : Type} {F : Nat → α → Option Bool} {p : α → Bool} : ∀ (l : List α) (i : Nat), (∀ x ∈ l, Ev (fun k => F k x) (p x)) → Ev (fun k => idxO (F k) l i) (idxN p l i)
  | [], _, _ => Ev.now _
  | x :: r, i, h => by
    show Ev (fun k => (F k x).bind fun b => if b = true then some (i : Int) else idxO (F k) r (i + 1)) _
    refine Ev.bind (h x (List.mem_cons_self ..)) ?_
    simp only [idxN]
    refine Ev.cases (fun hp => Ev.some (by rw [if_pos hp])) (fun hp => ?_)
    rw [if_neg hp]
    exact idxO_Ev r (i + 1) (fun y hy => h y (List.mem_cons_of_mem _ hy))
theorem idxAny_Ev {α : Type} {F : Nat → α → Option Bool} {p : α → Bool} {l : List α} (h : ∀ x ∈ l, Ev (fun k => F k x) (p x)) : Ev (fun k => (idxO (F k) l 0).bind fun i => some (decide (i ≥ 0))) (l.any p) := by
  refine Ev.bind (idxO_Ev l 0 h) (Ev.some ?_)
  exact idxN_any p l 0

/-- What is left of a size, -1 where nothing is. -/
def lessSz (a : Int) (n : Nat) : Int := if a < n then -1 else a - n
theorem laws_szIntS.ev (l : List Int) (a : Int) (h0 : 0 ≤ a) (h1 : a ≤ 1048576) (hl : l.length ≤ 9223372036854775807) : laws_szIntS.f l a = some (lessSz a l.length) := by
  unfold laws_szIntS.f lessSz
  rw [w64 (by omega) (by omega)]
  by_cases h : a < l.length
  · rw [if_pos (by omega), if_pos h]
  · rw [if_neg (by omega), if_neg h]

theorem laws_szCounter.ev (x y : List Int) (a : Int) (h0 : 0 ≤ a) (h1 : a ≤ 1048576) (hx : x.length ≤ 9223372036854775807) (hy : y.length ≤ 9223372036854775807) :
    ∃ r, laws_szCounter.f x y a = some r ∧ r ≤ a ∧ (0 ≤ r → x.length + y.length ≤ 1048576) := by
  unfold laws_szCounter.f
  rw [laws_szIntS.ev x _ (by omega) (by omega) hx]
  simp only [Option.bind_some]
  unfold lessSz
  by_cases h : a < x.length
  · exact ⟨-1, by simp [h], by omega, fun h => by omega⟩
  · rw [if_neg h, if_neg (by omega), laws_szIntS.ev y _ (by omega) (by omega) hy]
    simp only [Option.bind_some]
    unfold lessSz
    by_cases h2 : a - x.length < y.length
    · exact ⟨-1, by simp [h2], by omega, fun h => by omega⟩
    · exact ⟨_, by rw [if_neg h2, if_neg (by omega)], by omega, fun _ => by omega⟩

theorem laws_toIntS.ev (l : List Int) (hl : l.length ≤ 1048576) : Ev (fun k => laws_toIntS.f k l) l := by
  unfold laws_toIntS.f
  refine Ev.pos (by omega) (Ev.pos (by omega) ?_)
  refine Ev.eq (Ev.up (g := fun k i => laws_toIntS.l0 k l (l.take i.toNat ++ List.replicate (l.length - i.toNat) 0) i) l.length (fun _ => l) ?_) rfl
  intro i hi ih
  refine Ev.step (fun k => by rw [laws_toIntS.l0]) ?_
  by_cases hlt : i < l.length
  · refine Ev.pos (by omega) (Ev.pos (by omega) (Ev.pos (by simp; omega) ?_))
    rw [rd_get hlt, w64_succ hlt (by omega)]
    have h2 := ih hlt
    simp only [Int.toNat_natCast] at h2 ⊢
    rw [set_fill l 0 hlt]
    exact h2
  · refine Ev.neg (by omega) (Ev.some ?_)
    simp only [Int.toNat_natCast]
    have : i = l.length := by omega
    subst this
    simp

theorem laws_toCounter.ev (x y : List Int) (h : x.length + y.length ≤ 1048576) : Ev (fun k => laws_toCounter.f k x y) (x, y) := by
  unfold laws_toCounter.f
  exact Ev.bind (laws_toIntS.ev x (by omega)) (Ev.bind (laws_toIntS.ev y (by omega)) (Ev.now _))

theorem laws_eqIntS.ev (x y : List Int) (hx : x.length ≤ 9223372036854775807) : Ev (fun k => laws_eqIntS.f k x y) (decide (x = y)) := by
  unfold laws_eqIntS.f
  refine Ev.cases (fun hl => ?_) (fun hl => Ev.some ?_)
  · have hl' : x.length = y.length := by omega
    refine Ev.eq (Ev.up (g := fun k i => laws_eqIntS.l0 k x y i) x.length (fun i => decide (x.drop i = y.drop i)) ?_) (by simp)
    intro i hi ih
    refine Ev.step (fun k => by rw [laws_eqIntS.l0]) ?_
    by_cases hlt : i < x.length
    · refine Ev.pos (by omega) (Ev.pos (by omega) (Ev.pos (by omega) ?_))
      rw [rd_get hlt, rd_get (by omega : i < y.length), w64_succ hlt hx]
      have e : decide (x.drop i = y.drop i) = (decide (x[i] = y[i]) && decide (x.drop (i + 1) = y.drop (i + 1))) := drop_eq_step hlt (by omega)
      rw [e]
      refine Ev.cases (fun he => ?_) (fun he => Ev.some (by rw [decide_eq_false he]; rfl))
      exact Ev.eq (ih hlt) (by rw [decide_eq_true he]; rfl)
    · refine Ev.neg (by omega) (Ev.some ?_)
      rw [List.drop_of_length_le (by omega), List.drop_of_length_le (by omega)]
      simp
  · have : x ≠ y := fun h => hl (by rw [h])
    simp [this]

theorem laws_eqCounter.ev (x y x' y' : List Int) (hx : x.length ≤ 9223372036854775807) (hy : y.length ≤ 9223372036854775807) : Ev (fun k => laws_eqCounter.f k x y x' y') (decide ((x, y) = (x', y'))) := by
  unfold laws_eqCounter.f
  refine Ev.bind (laws_eqIntS.ev x x' hx) (Ev.cases (fun h1 => ?_) (fun h1 => Ev.some (by simp at h1; simp [h1])))
  refine Ev.bind (laws_eqIntS.ev y y' hy) (Ev.cases (fun h2 => Ev.some ?_) (fun h2 => Ev.some (by simp at h2; simp [h2])))
  simp at h1 h2; simp [h1, h2]

theorem laws_markIntS.ev (l : List Int) (k0 : Int) (h0 : 0 ≤ k0) (h1 : k0 + l.length ≤ 9223372036854775807) : Ev (fun k => laws_markIntS.f k l k0) (k0 + l.length, marks k0 l.length) := by
  unfold laws_markIntS.f
  by_cases hb : (l.length : Int) ≤ 9223372036854775807
  · refine Ev.eq (Ev.congr (fun k => ?_) (Ev.up (g := fun k i => laws_markIntS.l0 k (marks k0 i.toNat ++ l.drop i.toNat) (k0 + i) i) l.length (fun _ => (k0 + l.length, marks k0 l.length)) ?_)) rfl
    · simp [marks]
    intro i hi ih
    refine Ev.step (fun k => by rw [laws_markIntS.l0]) ?_
    by_cases hlt : i < l.length
    · refine Ev.pos (by simp [marks_length]; omega) (Ev.pos (by omega) ?_)
      have h2 := ih hlt
      simp only [Int.toNat_natCast] at h2 ⊢
      rw [w64_succ hlt (by omega), w64 (by omega) (by omega), set_mark _ _ _ (marks_length _ _) hlt, ← marks_succ]
      refine Ev.congr (fun k => ?_) h2
      rw [show k0 + (i : Int) + 1 = k0 + ((i + 1 : Nat) : Int) by omega]
    · have : i = l.length := by omega
      subst this
      refine Ev.neg (by simp [marks_length]) (Ev.some ?_)
      simp
  · omega

theorem laws_markCounter.ev (u d : List Int) (k0 : Int) (h0 : 0 ≤ k0) (h1 : k0 + u.length + d.length ≤ 9223372036854775807) : Ev (fun k => laws_markCounter.f k u d k0) (k0 + u.length + d.length, marks k0 u.length, marks (k0 + u.length) d.length) := by
  unfold laws_markCounter.f
  exact Ev.bind (laws_markIntS.ev u k0 h0 (by omega)) (Ev.bind (laws_markIntS.ev d (k0 + u.length) (by omega) (by omega)) (Ev.now _))

theorem laws_heldIntS.ev (n : Nat) (k0 : Int) (h0 : -9223372036854775808 ≤ k0) (h1 : k0 + n ≤ 9223372036854775807) (hn : n ≤ 9223372036854775807) : Ev (fun k => laws_heldIntS.f k (marks k0 n) k0) (k0 + n) := by
  unfold laws_heldIntS.f
  refine Ev.eq (Ev.congr (fun k => ?_) (Ev.up (g := fun k i => laws_heldIntS.l0 k (marks k0 n) (k0 + i) i) n (fun _ => k0 + (n : Int)) ?_)) rfl
  · simp
  intro i hi ih
  refine Ev.step (fun k => by rw [laws_heldIntS.l0]) ?_
  by_cases hlt : i < n
  · refine Ev.pos (by rw [marks_length]; omega) (Ev.pos (by omega) (Ev.pos (marks_get hlt) ?_))
    have h2 := ih hlt
    rw [w64_succ hlt hn, w64 (by omega) (by omega)]
    refine Ev.congr (fun k => ?_) h2
    rw [show k0 + (i : Int) + 1 = k0 + ((i + 1 : Nat) : Int) by omega]
  · have : i = n := by omega
    subst this
    exact Ev.neg (by rw [marks_length]; omega) (Ev.some rfl)

theorem laws_heldCounter.ev (n m : Nat) (k0 : Int) (h0 : 0 ≤ k0) (h1 : k0 + n + m ≤ 9223372036854775807) : Ev (fun k => laws_heldCounter.f k (marks k0 n) (marks (k0 + n) m) k0) (k0 + n + m) := by
  unfold laws_heldCounter.f
  exact Ev.bind (laws_heldIntS.ev n k0 (by omega) (by omega) (by omega)) (Ev.neg (by omega) (Ev.bind (laws_heldIntS.ev m (k0 + n) (by omega) (by omega) (by omega)) (Ev.neg (by omega) (Ev.now _))))

theorem spec_l1In.ev (n a b : Int) : spec_l1In.f n a b = some (inB n a b) := by
  unfold spec_l1In.f inB
  by_cases h : a ≤ n
  · rw [if_pos h]; simp [h]
  · rw [if_neg h]; simp [h]

def rowOk (l : List Int) : Bool := allFrom (fun i => inB (rd l i) 0 1000000) l.length 0 && decide (l.length = 6)
theorem spec_l14Row.ev (l : List Int) (hl : l.length ≤ 9223372036854775807) : Ev (fun k => spec_l14Row.f k l) (rowOk l) := by
  unfold spec_l14Row.f rowOk
  refine Ev.eq (Ev.up (g := fun k i => spec_l14Row.l0 k l l (l.length : Int) i) l.length (fun i => allFrom (fun i => inB (rd l i) 0 1000000) l.length i && decide (l.length = 6)) ?_) rfl
  intro i hi ih
  refine Ev.step (fun k => by rw [spec_l14Row.l0]) ?_
  by_cases hlt : i < l.length
  · refine Ev.pos (by omega) (Ev.pos (by omega) (Ev.pos (by omega) (Ev.bindS (spec_l1In.ev _ _ _) ?_)))
    rw [allFrom_step hlt, w64_succ hlt hl]
    have ih := ih hlt
    generalize allFrom (fun i => inB (rd l i) 0 1000000) l.length (i + 1) = q at ih ⊢
    refine Ev.cases (fun h => Ev.eq ih (by rw [h]; rfl)) (fun h => Ev.some (by simp at h; simp [h]))
  · have : i = l.length := by omega
    subst this
    refine Ev.neg (by omega) (Ev.some ?_)
    rw [allFrom_end, Bool.true_and]
    exact decide_eq_decide.2 (by omega)

def goodC (u d : List Int) : Bool := rowOk u && rowOk d
theorem goodC_at {u d : List Int} (h : goodC u d = true) : u.length = 6 ∧ d.length = 6 ∧ (∀ i : Nat, i < 6 → 0 ≤ rd u i ∧ rd u i ≤ 1000000) ∧ (∀ i : Nat, i < 6 → 0 ≤ rd d i ∧ rd d i ≤ 1000000) := by
  simp only [goodC, rowOk, Bool.and_eq_true, decide_eq_true_eq] at h
  obtain ⟨⟨h1, h2⟩, h3, h4⟩ := h
  refine ⟨h2, h4, fun i hi => ?_, fun i hi => ?_⟩
  · exact inB_iff.1 (allFrom_iff.1 h1 i (by omega) (by omega))
  · exact inB_iff.1 (allFrom_iff.1 h3 i (by omega) (by omega))
theorem goodC_of {u d : List Int} (h1 : u.length = 6) (h2 : d.length = 6) (h3 : ∀ i : Nat, i < 6 → 0 ≤ rd u i ∧ rd u i ≤ 1000000) (h4 : ∀ i : Nat, i < 6 → 0 ≤ rd d i ∧ rd d i ≤ 1000000) : goodC u d = true := by
  simp only [goodC, rowOk, Bool.and_eq_true, decide_eq_true_eq]
  exact ⟨⟨allFrom_iff.2 (fun j _ hj => inB_iff.2 (h3 j (by omega))), h1⟩, allFrom_iff.2 (fun j _ hj => inB_iff.2 (h4 j (by omega))), h2⟩
theorem spec_GoodCounter.ev (u d : List Int) (hu : u.length ≤ 9223372036854775807) (hd : d.length ≤ 9223372036854775807) : Ev (fun k => spec_GoodCounter.f k u d) (goodC u d) := by
  unfold spec_GoodCounter.f goodC
  refine Ev.bind (spec_l14Row.ev u hu) (Ev.cases (fun h1 => ?_) (fun h1 => Ev.some (by simp at h1; simp [h1])))
  exact Ev.bind (spec_l14Row.ev d hd) (Ev.some (by rw [h1]; rfl))

def cntU (u : List Int) (a b : Int) : List Int := if 0 < b then u.set a.toNat (rd u a + b) else u
def cntD (d : List Int) (a b : Int) : List Int := if b < 0 then d.set a.toNat (rd d a - b) else d
def countR (u d : List Int) (a b : Int) : List Int × List Int × Bool :=
  if goodC u d && (inB a 0 5 && inB b (-1000) 1000) then (if goodC (cntU u a b) (cntD d a b) then (cntU u a b, cntD d a b, true) else ([], [], false)) else ([], [], false)
theorem countR_len (u d : List Int) (a b : Int) : (countR u d a b).1.length ≤ 6 ∧ (countR u d a b).2.1.length ≤ 6 := by
  unfold countR
  split
  · split
    · rename_i _ h
      have g1 := goodC_at h
      simp only []; omega
    · exact ⟨Nat.zero_le _, Nat.zero_le _⟩
  · exact ⟨Nat.zero_le _, Nat.zero_le _⟩
theorem countR_bad {u d : List Int} {a b : Int} (h : (goodC u d && (inB a 0 5 && inB b (-1000) 1000)) = false) : countR u d a b = ([], [], false) := by unfold countR; rw [h]; rfl
theorem countR_good {u d : List Int} {a b : Int} (h : (goodC u d && (inB a 0 5 && inB b (-1000) 1000)) = true) : countR u d a b = if goodC (cntU u a b) (cntD d a b) then (cntU u a b, cntD d a b, true) else ([], [], false) := by unfold countR; rw [h]; rfl
theorem set_rd_self {l : List Int} {a : Int} (h0 : 0 ≤ a) (h : a < l.length) : l.set a.toNat (rd l a) = l := by
  have hn : a.toNat < l.length := by omega
  have : rd l a = l[a.toNat] := by unfold rd; simp [hn]
  rw [this, List.set_getElem_self]
theorem cntU_len (u : List Int) (a b : Int) : (cntU u a b).length = u.length := by unfold cntU; split <;> simp
theorem cntD_len (u : List Int) (a b : Int) : (cntD u a b).length = u.length := by unfold cntD; split <;> simp
theorem rd_in {l : List Int} {a : Int} (h0 : 0 ≤ a) (h5 : a ≤ 5) (h : ∀ i : Nat, i < 6 → 0 ≤ rd l i ∧ rd l i ≤ 1000000) : 0 ≤ rd l a ∧ rd l a ≤ 1000000 := by
  have := h a.toNat (by omega)
  rwa [show ((a.toNat : Nat) : Int) = a by omega] at this
theorem spec_CountBy.ev (u d : List Int) (a b : Int) (h1 : u.length ≤ 1048576) (h2 : d.length ≤ 1048576) : Ev (fun k => spec_CountBy.f k u d a b) (countR u d a b) := by
  have no : (goodC u d && (inB a 0 5 && inB b (-1000) 1000)) = false → Ev (fun k => spec_CountBy.j0 k a b true u d) (countR u d a b) := by
    intro hb
    rw [countR_bad hb]
    exact Ev.step (fun k => by rw [spec_CountBy.j0]) (Ev.pos rfl (Ev.now _))
  unfold spec_CountBy.f
  refine Ev.bind (spec_GoodCounter.ev u d (by omega) (by omega)) (Ev.cases (fun g1 => Ev.bindS (spec_l1In.ev a 0 5) (Ev.cases (fun g2 => Ev.bindS (spec_l1In.ev b (-1000) 1000) ?_) (fun g2 => no (by simp at g2; simp [g2])))) (fun g1 => ?_))
  · cases g3 : inB b (-1000) 1000 with
    | false => exact no (by simp [g3])
    | true =>
      have e1 := goodC_at g1
      have e2 := inB_iff.1 g2
      have e3 := inB_iff.1 g3
      have ru := rd_in e2.1 e2.2 e1.2.2.1
      have rdd := rd_in e2.1 e2.2 e1.2.2.2
      rw [countR_good (by simp [g1, g2, g3])]
      refine Ev.step (fun k => by rw [spec_CountBy.j0]) ?_
      refine Ev.neg (by simp) ?_
      refine Ev.bindS rfl ?_
      refine Ev.pos (by simp; omega) ?_
      refine Ev.bindS rfl ?_
      refine Ev.bindS rfl ?_
      refine Ev.pos (by simp; omega) ?_
      refine Ev.bindS rfl ?_
      simp only [List.nil_append]
      refine Ev.cases (fun hge => Ev.pos e2.1 (Ev.pos (by omega) (Ev.bindS rfl ?_))) (fun hge => Ev.pos e2.1 (Ev.pos (by omega) (Ev.bindS rfl ?_)))
      · have ec : u.set a.toNat (wrap64 (rd u a + b)) = cntU u a b := by
          rw [w64 (by omega) (by omega)]; unfold cntU
          split
          · rfl
          · rw [show b = 0 by omega, Int.add_zero]; exact set_rd_self e2.1 (by omega)
        have ed : cntD d a b = d := by unfold cntD; rw [if_neg (by omega)]
        rw [ec, ed]
        refine Ev.bind (spec_GoodCounter.ev _ _ (by rw [cntU_len]; omega) (by omega)) (Ev.cases (fun g => Ev.some (by rw [if_pos g])) (fun g => Ev.some (by rw [if_neg g])))
      · have ec : d.set a.toNat (wrap64 (rd d a - b)) = cntD d a b := by
          rw [w64 (by omega) (by omega)]; unfold cntD; rw [if_pos (by omega)]
        have ed : cntU u a b = u := by unfold cntU; rw [if_neg (by omega)]
        rw [ec, ed]
        refine Ev.bind (spec_GoodCounter.ev _ _ (by omega) (by rw [cntD_len]; omega)) (Ev.cases (fun g => Ev.some (by rw [if_pos g])) (fun g => Ev.some (by rw [if_neg g])))
  · exact no (by simp at g1; simp [g1])

theorem impl_in.ev (n a b : Int) : impl_in.f n a b = some (inB n a b) := by
  unfold impl_in.f inB
  by_cases h : a ≤ n
  · rw [if_pos h]; simp [h]
  · rw [if_neg h]; simp [h]

def badCount (x : Int) : Bool := !(inB x 0 1000000)
theorem impl_isCounter_1.ev (x : Int) : impl_isCounter_1.f x = some (badCount x) := by
  unfold impl_isCounter_1.f badCount
  rw [impl_in.ev]; rfl
theorem has_impl_isCounter_1.ev (l : List Int) : has_impl_isCounter_1.f l = some (l.any badCount) := idxO_any (fun x _ => impl_isCounter_1.ev x)

theorem rowOk_any (l : List Int) : rowOk l = (decide ((l.length : Int) = 6) && !(l.any badCount)) := by
  rw [Bool.eq_iff_iff]
  simp only [rowOk, Bool.and_eq_true, decide_eq_true_eq, allFrom_iff, Bool.not_eq_true', List.any_eq_false, badCount, inB]
  constructor
  · rintro ⟨h1, h2⟩
    refine ⟨by omega, fun x hx => ?_⟩
    obtain ⟨i, hi, rfl⟩ := List.getElem_of_mem hx
    have := h1 i (by omega) hi
    rw [rd_get hi] at this
    simp at this ⊢; exact this
  · rintro ⟨h1, h2⟩
    refine ⟨fun j _ hj => ?_, by omega⟩
    have := h2 l[j] (List.getElem_mem hj)
    rw [rd_get hj]
    simp at this ⊢; exact this
theorem impl_isCounter.ev (u d : List Int) : impl_isCounter.f u d = some (goodC u d) := by
  unfold impl_isCounter.f goodC
  rw [rowOk_any, rowOk_any, has_impl_isCounter_1.ev, has_impl_isCounter_1.ev]
  by_cases h1 : (u.length : Int) = 6
  · rw [if_pos h1, decide_eq_true h1]
    by_cases h2 : (d.length : Int) = 6
    · rw [if_pos h2, decide_eq_true h2]
      simp only [Option.bind_some]
      cases u.any badCount <;> simp
    · rw [if_neg h2, decide_eq_false h2]; simp
  · rw [if_neg h1, decide_eq_false h1]; simp

theorem impl_CountBy.ev (u d : List Int) (a b : Int) (h1 : u.length ≤ 1048576) (h2 : d.length ≤ 1048576) : Ev (fun k => impl_CountBy.f k u d a b) (countR u d a b) := by
  have no : (goodC u d && (inB a 0 5 && inB b (-1000) 1000)) = false → Ev (fun k => impl_CountBy.j0 k a b true u d) (countR u d a b) := by
    intro hb
    rw [countR_bad hb]
    exact Ev.step (fun k => by rw [impl_CountBy.j0]) (Ev.pos rfl (Ev.now _))
  unfold impl_CountBy.f
  refine Ev.bindS (impl_isCounter.ev u d) (Ev.cases (fun g1 => Ev.bindS (impl_in.ev a 0 5) (Ev.cases (fun g2 => Ev.bindS (impl_in.ev b (-1000) 1000) ?_) (fun g2 => no (by simp at g2; simp [g2])))) (fun g1 => ?_))
  · cases g3 : inB b (-1000) 1000 with
    | false => exact no (by simp [g3])
    | true =>
      have e1 := goodC_at g1
      have e2 := inB_iff.1 g2
      have e3 := inB_iff.1 g3
      have ru := rd_in e2.1 e2.2 e1.2.2.1
      have rdd := rd_in e2.1 e2.2 e1.2.2.2
      rw [countR_good (by simp [g1, g2, g3])]
      refine Ev.step (fun k => by rw [impl_CountBy.j0]) ?_
      refine Ev.neg (by simp) ?_
      refine Ev.bindS rfl ?_
      refine Ev.pos (by simp; omega) ?_
      refine Ev.bindS rfl ?_
      refine Ev.bindS rfl ?_
      refine Ev.pos (by simp; omega) ?_
      refine Ev.bindS rfl ?_
      simp only [List.nil_append]
      refine Ev.cases (fun hge => Ev.pos e2.1 (Ev.pos (by omega) (Ev.bindS rfl ?_))) (fun hge => Ev.pos e2.1 (Ev.pos (by omega) (Ev.bindS rfl ?_)))
      · have ec : u.set a.toNat (wrap64 (rd u a + b)) = cntU u a b := by
          rw [w64 (by omega) (by omega)]; unfold cntU; rw [if_pos (by omega)]
        have ed : cntD d a b = d := by unfold cntD; rw [if_neg (by omega)]
        rw [ec, ed]
        refine Ev.bindS (impl_isCounter.ev _ _) (Ev.cases (fun g => Ev.some (by rw [if_pos g])) (fun g => Ev.some (by rw [if_neg g])))
      · have ec : d.set a.toNat (wrap64 (rd d a - b)) = cntD d a b := by
          rw [w64 (by omega) (by omega)]; unfold cntD
          split
          · rfl
          · rw [show b = 0 by omega, Int.sub_zero]; exact set_rd_self e2.1 (by omega)
        have ed : cntU u a b = u := by unfold cntU; rw [if_neg (by omega)]
        rw [ec, ed]
        refine Ev.bindS (impl_isCounter.ev _ _) (Ev.cases (fun g => Ev.some (by rw [if_pos g])) (fun g => Ev.some (by rw [if_neg g])))
  · exact no (by simp at g1; simp [g1])

theorem holds_ev (u d : List Int) (a b : Int) (h1 : u.length ≤ 9223372036854775807) (h2 : d.length ≤ 9223372036854775807) : Ev (fun k => laws_FnExactCountBy.f k u d a b) true := by
  obtain ⟨q, hq, q1, ok1⟩ := laws_szCounter.ev u d 1048576 (by omega) (by omega) h1 h2
  unfold laws_FnExactCountBy.f
  refine Ev.bindS hq (Ev.cases (fun _ => Ev.now _) (fun hn => ?_))
  have o1 := ok1 (by omega)
  have t1 := laws_toCounter.ev u d o1
  have im := impl_CountBy.ev u d a b (by omega) (by omega)
  have sp := spec_CountBy.ev u d a b (by omega) (by omega)
  have hr := countR_len u d a b
  generalize countR u d a b = R at im sp hr
  have e1 := laws_eqCounter.ev R.1 R.2.1 R.1 R.2.1 (by omega) (by omega)
  refine Ev.bind t1 (Ev.bind sp (Ev.bind t1 (Ev.bind im (Ev.bind e1 (Ev.pos (decide_eq_true rfl) ?_)))))
  have hz : (R.2.2 != R.2.2) = false := by simp
  rw [hz]
  refine Ev.step (fun k => by rw [laws_FnExactCountBy.j0]) ?_
  refine Ev.neg (by simp) ?_
  refine Ev.bind t1 (Ev.bind (laws_eqCounter.ev u d u d (by omega) (by omega)) (Ev.pos (decide_eq_true rfl) ?_))
  refine Ev.bind (laws_markCounter.ev u d 1 (by omega) (by omega)) ?_
  refine Ev.neg (by simp only []; omega) ?_
  refine Ev.bind e1 (Ev.pos (decide_eq_true rfl) ?_)
  rw [hz]
  refine Ev.step (fun k => by rw [laws_FnExactCountBy.j1]) ?_
  refine Ev.neg (by simp) ?_
  refine Ev.bind (laws_markCounter.ev R.1 R.2.1 1 (by omega) (by omega)) (Ev.bind (laws_heldCounter.ev R.1.length R.2.1.length 1 (by omega) (by omega)) ?_)
  refine Ev.neg (by omega) (Ev.pos rfl ?_)
  refine Ev.bind t1 (Ev.bind im (Ev.bind e1 (Ev.pos (decide_eq_true rfl) ?_)))
  rw [hz]
  refine Ev.step (fun k => by rw [laws_FnExactCountBy.j2]) ?_
  refine Ev.neg (by simp) (Ev.bind (laws_heldCounter.ev R.1.length R.2.1.length 1 (by omega) (by omega)) ?_)
  exact Ev.neg (by omega) (Ev.pos rfl (Ev.now _))

end Go.Proofs.Ytcloilddgimamaa.PCB
namespace Go.Proofs.Ytcloilddgimamaa.PureFnExactCountBy
open Go.RowKit Go.Proofs.Ytcloilddgimamaa.PCB Go.Proofs.Ytcloilddgimamaa.Base Go.Proofs.Ytcloilddgimamaa.Open Go.Proofs.YtcloilddgimamaaW.PrintWords Go.Proofs.YtcloilddgimamaaW.PrintLast
theorem holds (l0_0 : List Int) (l0_1 : List Int) (a1 : Int) (a2 : Int) (w0 : ((l0_0.length ≤ 9223372036854775807 ∧ ∀ z ∈ l0_0, (Lit.int .i64 z).wf = true) ∧ (l0_1.length ≤ 9223372036854775807 ∧ ∀ z ∈ l0_1, (Lit.int .i64 z).wf = true))) (w1 : (Lit.int .i64 a1).wf = true) (w2 : (Lit.int .i64 a2).wf = true) : ∃ k, Go.Proofs.Ytcloilddgimamaa.PCB.laws_FnExactCountBy.f k l0_0 l0_1 a1 a2 = some true := by
  have _h := w1
  exact (holds_ev _ _ _ _ w0.1.1 w0.2.1).rounds
end Go.Proofs.Ytcloilddgimamaa.PureFnExactCountBy
