/- What this text proves: laws.FnExactMeetOf, told as plain functions of numbers and lists, answers true for all arguments.
   Conditions: the bounds that the typed reading gives. -/
import Derived.Test.YthbollaceiffpaaPMTx4
import Derived.Test.YthbollaceiffpaaOpen
import Derived.Test.YthbollaceiffpaaBase
namespace Go.Proofs.Ythbollaceiffpaa.PMT
open Go.RowKit Go.Proofs.Ythbollaceiffpaa.Base Go.Proofs.Ythbollaceiffpaa.Open Go.Proofs.YthbollaceiffpaaW.PrintWords Go.Proofs.YthbollaceiffpaaW.PrintLast Go.Proofs.YthbollaceiffpaaW.PrintMore
set_option linter.unusedVariables false
set_option linter.unusedSimpArgs false
theorem u3 : Opens Try.prog 3 (Kd.int .i64) (fun x => (Lit.int .i64 x).wf = true) := Opens.int Try.underlying3 (by kernel_rfl)
theorem u22 : Opens Try.prog 22 (Kd.slice 3 (Kd.int .i64)) (fun x => (x.length ≤ 9223372036854775807 ∧ ∀ z ∈ x, (Lit.int .i64 z).wf = true)) := Opens.slice Try.underlying22 (by kernel_rfl) u3
/-- The place of the first element at which p says yes, counted from i; -1 for none. -/
def idxN {α : Type} (p : α → Bool) : List α → Nat → Int
  | [], _ => -1
  | x :: r, i => if p x = true then (i : Int) else idxN p r (i + 1)
theorem idxO_val {α : Type} {F : α → Option Bool} {p : α → Bool} : ∀ (l : List α) (i : Nat), (∀ x ∈ l, F x = some (p x)) → idxO F l i = some (idxN p l i)
  | [], _, _ => rfl
  | x :: r, i, h => by
    simp only [idxO, idxN, h x (List.mem_cons_self ..), Option.bind_some]
    rw [idxO_val r (i + 1) (fun y hy => h y (List.mem_cons_of_mem _ hy))]
    split <;> rfl
theorem idxN_cons {α : Type} (p : α → Bool) (x : α) (r : List α) (i : Nat) : idxN p (x :: r) i = if p x = true then (i : Int) else idxN p r (i + 1) := rfl
theorem idxN_anyP {α : Type} (p : α → Bool) : ∀ (l : List α) (i : Nat), (idxN p l i ≥ 0) ↔ l.any p = true
  | [], _ => by simp [idxN]
  | x :: r, i => by
    rw [idxN_cons]
    by_cases h : p x = true
    · rw [if_pos h, List.any_cons, h]; simp
    · rw [if_neg h, List.any_cons, Bool.eq_false_iff.2 h, Bool.false_or]; exact idxN_anyP p r (i + 1)
theorem idxN_any {α : Type} (p : α → Bool) (l : List α) (i : Nat) : decide (idxN p l i ≥ 0) = l.any p := by
  rw [Bool.eq_iff_iff, decide_eq_true_iff]; exact idxN_anyP p l i
theorem idxN_ge {α : Type} (p : α → Bool) : ∀ (l : List α) (i : Nat), idxN p l i = -1 ∨ (i : Int) ≤ idxN p l i
  | [], _ => .inl rfl
  | x :: r, i => by
    simp only [idxN]
    split
    · exact .inr (Int.le_refl _)
    · rcases idxN_ge p r (i + 1) with h | h
      · exact .inl h
      · exact .inr (by omega)
theorem idxO_any {α : Type} {F : α → Option Bool} {p : α → Bool} {l : List α} (h : ∀ x ∈ l, F x = some (p x)) : ((idxO F l 0).bind fun i => some (decide (i ≥ 0))) = some (l.any p) := by
  rw [idxO_val l 0 h]; simp only [Option.bind_some]; rw [idxN_any]
theorem idxO_Ev {α : Type} {F : Nat → α → Option Bool} {p : α → Bool} : ∀ (l : List α) (i : Nat), (∀ x ∈ l, Ev (fun k => F k x) (p x)) → Ev (fun k => idxO (F k) l i) (idxN p l i)
  | [], _, _ => Ev.now _
  | x :: r, i, h => by
    show Ev (fun k => (F k x).bind fun b => if b = true then some (i : Int) else idxO (F k) r (i + 1)) _
    refine Ev.bind (h x (List.mem_cons_self ..)) ?_
    simp only [idxN]
    refine Ev.cases (fun hp => Ev.some (by rw [if_pos hp])) (fun hp => ?_)
    rw [if_neg hp]
    exact idxO_Ev r (i + 1) (fun y hy => h y (List.mem_cons_of_mem _ hy))
theorem idxAny_Ev {α : Type} {F : Nat → α → Option Bool} {p : α → Bool} {l : List α} (h : ∀ x ∈ l, Ev (fun k => F k x) (p x)) : Ev (fun k => (idxO (F k) l 0).bind fun i => some (decide (i ≥ 0))) (l.any p) := by
  refine Ev.bind (idxO_Ev l 0 h) (Ev.some ?_)
  exact idxN_any p l 0

def okLI (l : List Int) : Prop := l.length ≤ 1048576
def bigLI (l : List Int) : Prop := l.length ≤ 9223372036854775807
theorem laws_szIntS.ev (l : List Int) (a : Int) (h0 : 0 ≤ a) (h1 : a ≤ 1048576) (hb : bigLI l) : ∃ r, laws_szIntS.f l a = some r ∧ r ≤ a ∧ (0 ≤ r → okLI l) := by
  have hl : l.length ≤ 9223372036854775807 := hb
  unfold laws_szIntS.f
  rw [w64 (by omega) (by omega)]
  by_cases h : a < l.length
  · exact ⟨-1, by rw [if_pos (by omega)], by omega, fun h => by omega⟩
  · exact ⟨_, by rw [if_neg (by omega)], by omega, fun _ => (by unfold okLI; omega)⟩

theorem laws_szGroup.ev (x0 : List Int) (a : Int) (g0 : 0 ≤ a) (g1 : a ≤ 1048576) (h0 : bigLI x0) : ∃ r, laws_szGroup.f x0 a = some r ∧ r ≤ a ∧ (0 ≤ r → okLI x0) := by
  obtain ⟨r0, e0, b0, o0⟩ := laws_szIntS.ev x0 a g0 g1 h0
  by_cases c0 : r0 < 0
  · exact ⟨-1, by unfold laws_szGroup.f; rw [e0]; simp only [Option.bind_some]; rw [if_pos c0], by omega, fun h => by omega⟩
  exact ⟨r0, by unfold laws_szGroup.f; rw [e0]; simp only [Option.bind_some]; rw [if_neg c0], by omega, fun h => o0 (by omega)⟩

theorem laws_toIntS.ev0 (l : List Int) (hl : l.length ≤ 1048576) : Ev (fun k => laws_toIntS.f k l) l := by
  unfold laws_toIntS.f
  refine Ev.pos (by omega) (Ev.pos (by omega) ?_)
  refine Ev.eq (Ev.up (g := fun k i => laws_toIntS.l0 k l (l.take i.toNat ++ List.replicate (l.length - i.toNat) 0) i) l.length (fun _ => l) ?_) rfl
  intro i hi ih
  refine Ev.step (fun k => by rw [laws_toIntS.l0]) ?_
  by_cases hlt : i < l.length
  · refine Ev.pos (by omega) (Ev.pos (by omega) (Ev.pos (by simp; omega) ?_))
    rw [rd_get hlt, w64_succ hlt (by omega)]
    have h2 := ih hlt
    simp only [Int.toNat_natCast] at h2 ⊢
    rw [set_fill l 0 hlt]
    exact h2
  · refine Ev.neg (by omega) (Ev.some ?_)
    simp only [Int.toNat_natCast]
    have : i = l.length := by omega
    subst this
    simp
theorem laws_toIntS.ev (l : List Int) (hl : okLI l) : Ev (fun k => laws_toIntS.f k l) l := laws_toIntS.ev0 l hl

theorem laws_toGroup.ev (x0 : List Int) (h0 : okLI x0) : Ev (fun k => laws_toGroup.f k x0) (x0) := by
  unfold laws_toGroup.f
  exact Ev.bind (laws_toIntS.ev _ h0) (Ev.now _)

theorem laws_eqIntS.ev (x y : List Int) (hx : x.length ≤ 9223372036854775807) : Ev (fun k => laws_eqIntS.f k x y) (decide (x = y)) := by
  unfold laws_eqIntS.f
  refine Ev.cases (fun hl => ?_) (fun hl => Ev.some ?_)
  · have hl' : x.length = y.length := by omega
    refine Ev.eq (Ev.up (g := fun k i => laws_eqIntS.l0 k x y i) x.length (fun i => decide (x.drop i = y.drop i)) ?_) (by simp)
    intro i hi ih
    refine Ev.step (fun k => by rw [laws_eqIntS.l0]) ?_
    by_cases hlt : i < x.length
    · refine Ev.pos (by omega) (Ev.pos (by omega) (Ev.pos (by omega) ?_))
      rw [rd_get hlt, rd_get (by omega : i < y.length), w64_succ hlt hx]
      have e : decide (x.drop i = y.drop i) = (decide (x[i] = y[i]) && decide (x.drop (i + 1) = y.drop (i + 1))) := drop_eq_step hlt (by omega)
      rw [e]
      refine Ev.cases (fun he => ?_) (fun he => Ev.some (by rw [decide_eq_false he]; rfl))
      exact Ev.eq (ih hlt) (by rw [decide_eq_true he]; rfl)
    · refine Ev.neg (by omega) (Ev.some ?_)
      rw [List.drop_of_length_le (by omega), List.drop_of_length_le (by omega)]
      simp
  · have : x ≠ y := fun h => hl (by rw [h])
    simp [this]
theorem laws_eqIntS.refl (x : List Int) (hx : okLI x) : Ev (fun k => laws_eqIntS.f k x x) true := Ev.eq (laws_eqIntS.ev x x (by unfold okLI at hx; omega)) (by simp)

theorem laws_eqGroup.refl (x0 : List Int) (h0 : okLI x0) : Ev (fun k => laws_eqGroup.f k x0 x0) true := by
  unfold laws_eqGroup.f
  exact (Ev.bind (laws_eqIntS.refl _ h0) (Ev.pos rfl (Ev.now _)))

theorem impl_in.ev (n a b : Int) : impl_in.f n a b = some (inB n a b) := by
  unfold impl_in.f inB
  by_cases h : a ≤ n
  · rw [if_pos h]; simp [h]
  · rw [if_neg h]; simp [h]

def rise (l : List Int) (m : Int) (i : Nat) : Bool := inB (rd l i) 0 m && (decide (i = 0) || decide (rd l ((i : Int) - 1) < rd l i))
/-- A good group of n nodes. -/
def goodG (l : List Int) (n : Int) : Bool := inB n 1 12 && allFrom (rise l (wrap64 (n - 1))) l.length 0
theorem impl_areRising.ev (l : List Int) (n : Int) (hl : l.length ≤ 9223372036854775807) : Ev (fun k => impl_areRising.f k l n) (allFrom (rise l (wrap64 (n - 1))) l.length 0) := by
  unfold impl_areRising.f
  refine Ev.eq (Ev.up (g := fun k i => impl_areRising.l0 k l n l (l.length : Int) i) l.length (fun i => allFrom (rise l (wrap64 (n - 1))) l.length i) ?_) rfl
  intro i hi ih
  refine Ev.step (fun k => by rw [impl_areRising.l0]) ?_
  by_cases hlt : i < l.length
  · refine Ev.pos (by omega) (Ev.pos (by omega) (Ev.pos (by omega) (Ev.bindS (impl_in.ev _ _ _) ?_)))
    rw [allFrom_step hlt]
    have ih := ih hlt
    generalize allFrom (rise l (wrap64 (n - 1))) l.length (i + 1) = q at ih ⊢
    unfold rise
    refine Ev.cases (fun h1 => ?_) (fun h1 => Ev.some (by simp at h1; simp [h1]))
    rw [h1, w64_succ hlt hl]
    refine Ev.cases (fun h2 => ?_) (fun h2 => Ev.eq ih (by rw [decide_eq_true (by omega : i = 0)]; simp))
    rw [w64 (by omega) (by omega)]
    refine Ev.pos (by omega) (Ev.pos (by omega) (Ev.cases (fun h3 => Ev.some ?_) (fun h3 => Ev.eq ih ?_)))
    · rw [decide_eq_false (by omega : ¬ i = 0), decide_eq_false (by omega)]; simp
    · rw [decide_eq_true (by omega : rd l ((i : Int) - 1) < rd l i)]; simp
  · have : i = l.length := by omega
    subst this
    exact Ev.neg (by omega) (Ev.some (by rw [allFrom_end]))

theorem impl_isGroup.ev (l : List Int) (n : Int) (hl : l.length ≤ 9223372036854775807) : Ev (fun k => impl_isGroup.f k l n) (goodG l n) := by
  unfold impl_isGroup.f goodG
  refine Ev.bindS (impl_in.ev _ _ _) ?_
  refine Ev.cases (fun h1 => ?_) (fun h1 => Ev.some (by simp at h1; simp [h1]))
  exact Ev.bind (impl_areRising.ev l n hl) (Ev.some (by rw [h1]; rfl))

def meetR (l m : List Int) (n : Int) : List Int × Bool := if goodG l n && goodG m n then (l.filter (fun x => m.contains x), true) else ([], false)
theorem meetR_len (l m : List Int) (n : Int) : (meetR l m n).1.length ≤ l.length := by
  unfold meetR
  split
  · exact List.length_filter_le _ _
  · exact Nat.zero_le _
theorem impl_MeetOf.ev (l m : List Int) (n : Int) (hl : l.length ≤ 1048576) (hm : m.length ≤ 1048576) : Ev (fun k => impl_MeetOf.f k l m n) (meetR l m n) := by
  unfold impl_MeetOf.f meetR
  refine Ev.bind (impl_isGroup.ev l n (by omega)) (Ev.cases (fun g1 => Ev.bind (impl_isGroup.ev m n (by omega)) (Ev.cases (fun g2 => Ev.bindS (a := l.filter fun x => m.contains x) ?_ (Ev.some ?_)) (fun g2 => Ev.some ?_))) (fun g1 => Ev.some ?_))
  · unfold impl_meet.f; rw [if_pos ⟨hl, hm⟩]
  · rw [g1, g2]; rfl
  · rw [Bool.eq_false_iff.2 g2, Bool.and_false]; rfl
  · rw [Bool.eq_false_iff.2 g1]; rfl

theorem spec_l1In.ev (n a b : Int) : spec_l1In.f n a b = some (inB n a b) := by
  unfold spec_l1In.f inB
  by_cases h : a ≤ n
  · rw [if_pos h]; simp [h]
  · rw [if_neg h]; simp [h]

theorem spec_l8Nodes.ev (n : Int) : spec_l8Nodes.f n = some (inB n 1 12) := by
  unfold spec_l8Nodes.f; rw [spec_l1In.ev]; rfl

theorem spec_GoodGroup.ev (l : List Int) (n : Int) (hl : l.length ≤ 9223372036854775807) : Ev (fun k => spec_GoodGroup.f k l n) (goodG l n) := by
  unfold spec_GoodGroup.f goodG
  refine Ev.eq (Ev.up (g := fun k i => spec_GoodGroup.l0 k n l (l.length : Int) i l) l.length (fun i => inB n 1 12 && allFrom (rise l (wrap64 (n - 1))) l.length i) ?_) rfl
  intro i hi ih
  refine Ev.step (fun k => by rw [spec_GoodGroup.l0]) ?_
  by_cases hlt : i < l.length
  · refine Ev.pos (by omega) (Ev.pos (by omega) (Ev.pos (by omega) (Ev.bindS (spec_l1In.ev _ _ _) ?_)))
    rw [allFrom_step hlt]
    have ih := ih hlt
    generalize allFrom (rise l (wrap64 (n - 1))) l.length (i + 1) = q at ih ⊢
    unfold rise
    refine Ev.cases (fun h1 => ?_) (fun h1 => Ev.some (by simp at h1; simp [h1]))
    rw [h1, w64_succ hlt hl]
    refine Ev.cases (fun h2 => ?_) (fun h2 => Ev.eq ih (by rw [decide_eq_true (by omega : i = 0)]; simp))
    rw [w64 (by omega) (by omega)]
    refine Ev.pos (by omega) (Ev.pos (by omega) (Ev.cases (fun h3 => Ev.some ?_) (fun h3 => Ev.eq ih ?_)))
    · rw [decide_eq_false (by omega : ¬ i = 0), decide_eq_false (by omega)]; simp
    · rw [decide_eq_true (by omega : rd l ((i : Int) - 1) < rd l i)]; simp
  · have : i = l.length := by omega
    subst this
    refine Ev.neg (by omega) (Ev.bindS (spec_l8Nodes.ev _) (Ev.some ?_))
    rw [allFrom_end]; simp

theorem spec_l1Has.ev (l : List Int) (a : Int) (hl : l.length ≤ 1048576) : Ev (fun k => spec_l1Has.f k l a) (l.contains a) := by
  unfold spec_l1Has.f
  refine Ev.eq (Ev.up (g := fun k i => spec_l1Has.l0 k a l (l.length : Int) i) l.length (fun i => (l.drop i).contains a) ?_) (by simp)
  intro i hi ih
  refine Ev.step (fun k => by rw [spec_l1Has.l0]) ?_
  by_cases hlt : i < l.length
  · rw [List.drop_eq_getElem_cons hlt, List.contains_cons, w64_succ hlt (by omega), rd_get hlt]
    refine Ev.pos (by omega) (Ev.pos (by omega) (Ev.pos (by omega) (Ev.cases (fun h => Ev.some ?_) (fun h => Ev.eq (ih hlt) ?_))))
    · have : (a == l[i]) = true := by simpa using h.symm
      rw [this]; rfl
    · have : (a == l[i]) = false := by simpa using fun e => h e.symm
      rw [this]; rfl
  · exact Ev.neg (by omega) (Ev.some (by rw [List.drop_of_length_le (by omega)]; rfl))

def meetL (a b : List Int) : List Int := a.filter fun x => b.contains x
theorem spec_l8Meet.ev (a b : List Int) (ha : a.length ≤ 1048576) (hb : b.length ≤ 1048576) : Ev (fun k => spec_l8Meet.f k a b) (meetL a b) := by
  unfold spec_l8Meet.f
  refine Ev.eq (Ev.up (g := fun k i => spec_l8Meet.l0 k a (a.length : Int) i b (meetL (a.take i.toNat) b)) a.length (fun _ => meetL a b) ?_) rfl
  intro i hi ih
  refine Ev.step (fun k => by rw [spec_l8Meet.l0]) ?_
  by_cases hlt : i < a.length
  · have ih := ih hlt
    simp only [Int.toNat_natCast] at ih ⊢
    have hlen : (meetL (a.take i) b).length ≤ i := Nat.le_trans (List.length_filter_le _ _) (by simp; omega)
    have e : meetL (a.take (i + 1)) b = meetL (a.take i) b ++ (if b.contains a[i] = true then [a[i]] else []) := by
      unfold meetL
      rw [take_snoc a hlt, List.filter_append]
      by_cases h : b.contains a[i] = true
      · rw [if_pos h]; simp only [List.filter_cons, h, if_true, List.filter_nil]
      · rw [if_neg h]; simp only [List.filter_cons, h, List.filter_nil]; rfl
    rw [e] at ih
    rw [rd_get hlt, w64_succ hlt (by omega)]
    refine Ev.pos (by omega) (Ev.pos (by omega) (Ev.pos (by omega) (Ev.bind (spec_l1Has.ev b a[i] hb) (Ev.cases (fun h => ?_) (fun h => ?_)))))
    · rw [if_pos h] at ih; exact Ev.pos (by omega) ih
    · rw [if_neg h, List.append_nil] at ih; exact ih
  · have : i = a.length := by omega
    subst this
    exact Ev.neg (by omega) (Ev.some (by simp))

theorem spec_MeetOf.ev (l m : List Int) (n : Int) (hl : l.length ≤ 1048576) (hm : m.length ≤ 1048576) : Ev (fun k => spec_MeetOf.f k l m n) (meetR l m n) := by
  unfold spec_MeetOf.f meetR
  refine Ev.bind (spec_GoodGroup.ev l n (by omega)) (Ev.cases (fun g1 => Ev.bind (spec_GoodGroup.ev m n (by omega)) (Ev.cases (fun g2 => Ev.bind (spec_l8Meet.ev l m hl hm) (Ev.some ?_)) (fun g2 => Ev.some ?_))) (fun g1 => Ev.some ?_))
  · rw [g1, g2]; rfl
  · rw [Bool.eq_false_iff.2 g2, Bool.and_false]; rfl
  · rw [Bool.eq_false_iff.2 g1]; rfl

theorem laws_markIntS.ev (l : List Int) (k0 : Int) (h0 : 0 ≤ k0) (h1 : k0 + l.length ≤ 9223372036854775807) : Ev (fun k => laws_markIntS.f k l k0) (k0 + l.length, marks k0 l.length) := by
  unfold laws_markIntS.f
  by_cases hb : (l.length : Int) ≤ 9223372036854775807
  · refine Ev.eq (Ev.congr (fun k => ?_) (Ev.up (g := fun k i => laws_markIntS.l0 k (marks k0 i.toNat ++ l.drop i.toNat) (k0 + i) i) l.length (fun _ => (k0 + l.length, marks k0 l.length)) ?_)) rfl
    · simp [marks]
    intro i hi ih
    refine Ev.step (fun k => by rw [laws_markIntS.l0]) ?_
    by_cases hlt : i < l.length
    · refine Ev.pos (by simp [marks_length]; omega) (Ev.pos (by omega) ?_)
      have h2 := ih hlt
      simp only [Int.toNat_natCast] at h2 ⊢
      rw [w64_succ hlt (by omega), w64 (by omega) (by omega), set_mark _ _ _ (marks_length _ _) hlt, ← marks_succ]
      refine Ev.congr (fun k => ?_) h2
      rw [show k0 + (i : Int) + 1 = k0 + ((i + 1 : Nat) : Int) by omega]
    · have : i = l.length := by omega
      subst this
      refine Ev.neg (by simp [marks_length]) (Ev.some ?_)
      simp
  · omega

theorem laws_markGroup.ev (l : List Int) (k0 : Int) (h0 : 0 ≤ k0) (h1 : k0 + l.length ≤ 9223372036854775807) : Ev (fun k => laws_markGroup.f k l k0) (k0 + l.length, marks k0 l.length) := by
  unfold laws_markGroup.f
  exact Ev.bind (laws_markIntS.ev l k0 h0 h1) (Ev.now _)

theorem laws_heldIntS.ev (n : Nat) (k0 : Int) (h0 : -9223372036854775808 ≤ k0) (h1 : k0 + n ≤ 9223372036854775807) (hn : n ≤ 9223372036854775807) : Ev (fun k => laws_heldIntS.f k (marks k0 n) k0) (k0 + n) := by
  unfold laws_heldIntS.f
  refine Ev.eq (Ev.congr (fun k => ?_) (Ev.up (g := fun k i => laws_heldIntS.l0 k (marks k0 n) (k0 + i) i) n (fun _ => k0 + (n : Int)) ?_)) rfl
  · simp
  intro i hi ih
  refine Ev.step (fun k => by rw [laws_heldIntS.l0]) ?_
  by_cases hlt : i < n
  · refine Ev.pos (by rw [marks_length]; omega) (Ev.pos (by omega) (Ev.pos (marks_get hlt) ?_))
    have h2 := ih hlt
    rw [w64_succ hlt hn, w64 (by omega) (by omega)]
    refine Ev.congr (fun k => ?_) h2
    rw [show k0 + (i : Int) + 1 = k0 + ((i + 1 : Nat) : Int) by omega]
  · have : i = n := by omega
    subst this
    exact Ev.neg (by rw [marks_length]; omega) (Ev.some rfl)

theorem laws_heldGroup.ev (n : Nat) (k0 : Int) (h0 : 0 ≤ k0) (h1 : k0 + n ≤ 9223372036854775807) (hn : n ≤ 9223372036854775807) : Ev (fun k => laws_heldGroup.f k (marks k0 n) k0) (k0 + n) := by
  unfold laws_heldGroup.f
  exact Ev.bind (laws_heldIntS.ev n k0 (by omega) h1 hn) (Ev.neg (by omega) (Ev.now _))

theorem holds_ev (l m : List Int) (n : Int) (hl : bigLI l) (hm : bigLI m) : Ev (fun k => laws_FnExactMeetOf.f k l m n) true := by
  obtain ⟨q, hq, q1, ok1⟩ := laws_szGroup.ev l 1048576 (by omega) (by omega) hl
  unfold laws_FnExactMeetOf.f
  refine Ev.bindS hq (Ev.cases (fun _ => Ev.now _) (fun hn => ?_))
  obtain ⟨q', hq', _, ok2⟩ := laws_szGroup.ev m q (by omega) (by omega) hm
  refine Ev.bindS hq' (Ev.cases (fun _ => Ev.now _) (fun hn' => ?_))
  have o1 := ok1 (by omega)
  have o2 := ok2 (by omega)
  have h1 : l.length ≤ 1048576 := o1
  have h2 : m.length ≤ 1048576 := o2
  have t1 := laws_toGroup.ev l o1
  have t2 := laws_toGroup.ev m o2
  have im := impl_MeetOf.ev l m n h1 h2
  have sp := spec_MeetOf.ev l m n h1 h2
  have hr := meetR_len l m n
  generalize meetR l m n = R at im sp hr
  have or : okLI R.1 := by unfold okLI; omega
  refine Ev.bind t1 (Ev.bind t2 (Ev.bind sp (Ev.bind t1 (Ev.bind t2 (Ev.bind im (Ev.bind (laws_eqGroup.refl R.1 or) (Ev.pos rfl ?_)))))))
  have hz : (R.2 != R.2) = false := by simp
  rw [hz]
  refine Ev.step (fun k => by rw [laws_FnExactMeetOf.j0]) ?_
  refine Ev.neg (by simp) ?_
  refine Ev.bind t1 (Ev.bind (laws_eqGroup.refl l o1) (Ev.pos rfl (Ev.bind t2 (Ev.bind (laws_eqGroup.refl m o2) (Ev.pos rfl ?_)))))
  refine Ev.bind (laws_markGroup.ev l 1 (by omega) (by omega)) (Ev.bind (laws_markGroup.ev m (1 + l.length) (by omega) (by omega)) ?_)
  refine Ev.neg (show ¬ ((1 : Int) + l.length + m.length < 0) by omega) ?_
  refine Ev.bind (laws_eqGroup.refl R.1 or) (Ev.pos rfl ?_)
  refine Ev.step (fun k => by rw [laws_FnExactMeetOf.j1]) ?_
  refine Ev.neg (by simp) ?_
  refine Ev.bind (laws_markGroup.ev R.1 1 (by omega) (by omega)) (Ev.bind (laws_heldGroup.ev R.1.length 1 (by omega) (by omega) (by omega)) ?_)
  refine Ev.neg (show ¬ ((1 : Int) + R.1.length < 0) by omega) (Ev.pos rfl ?_)
  refine Ev.bind t1 (Ev.bind t2 (Ev.bind im (Ev.bind (laws_eqGroup.refl R.1 or) (Ev.pos rfl ?_))))
  rw [hz]
  refine Ev.step (fun k => by rw [laws_FnExactMeetOf.j2]) ?_
  refine Ev.neg (by simp) (Ev.bind (laws_heldGroup.ev R.1.length 1 (by omega) (by omega) (by omega)) ?_)
  exact Ev.neg (show ¬ ((1 : Int) + R.1.length < 0) by omega) (Ev.pos rfl (Ev.now _))

end Go.Proofs.Ythbollaceiffpaa.PMT
namespace Go.Proofs.Ythbollaceiffpaa.PureFnExactMeetOf
open Go.RowKit Go.Proofs.Ythbollaceiffpaa.PMT Go.Proofs.Ythbollaceiffpaa.Base Go.Proofs.Ythbollaceiffpaa.Open Go.Proofs.YthbollaceiffpaaW.PrintWords Go.Proofs.YthbollaceiffpaaW.PrintLast
theorem holds (l0_0 : List Int) (l1_0 : List Int) (a2 : Int) (w0 : ((l0_0.length ≤ 9223372036854775807 ∧ ∀ z ∈ l0_0, (Lit.int .i64 z).wf = true))) (w1 : ((l1_0.length ≤ 9223372036854775807 ∧ ∀ z ∈ l1_0, (Lit.int .i64 z).wf = true))) (w2 : (Lit.int .i64 a2).wf = true) : ∃ k, Go.Proofs.Ythbollaceiffpaa.PMT.laws_FnExactMeetOf.f k l0_0 l1_0 a2 = some true := by
  have _h := w2
  exact (holds_ev l0_0 l1_0 a2 w0.1 w1.1).rounds
end Go.Proofs.Ythbollaceiffpaa.PureFnExactMeetOf
