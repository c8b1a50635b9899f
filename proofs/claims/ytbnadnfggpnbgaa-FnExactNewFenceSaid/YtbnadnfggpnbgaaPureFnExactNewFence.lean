/- What this text proves: laws.FnExactNewFence, told as plain functions of numbers and lists, answers true for all arguments.
   Conditions: the bounds that the typed reading gives. -/
import Derived.Test.YtbnadnfggpnbgaaPNFx5
import Derived.Test.YtbnadnfggpnbgaaOpen
import Derived.Test.YtbnadnfggpnbgaaBase
namespace Go.Proofs.Ytbnadnfggpnbgaa.PNF
open Go.RowKit Go.Proofs.Ytbnadnfggpnbgaa.Base Go.Proofs.Ytbnadnfggpnbgaa.Open Go.Proofs.YtbnadnfggpnbgaaW.PrintWords Go.Proofs.YtbnadnfggpnbgaaW.PrintLast Go.Proofs.YtbnadnfggpnbgaaW.PrintMore
set_option linter.unusedVariables false
set_option linter.unusedSimpArgs false
theorem op3 : Opens Try.prog 3 (Kd.int .i64) (fun x => (Lit.int .i64 x).wf = true) := Opens.int Try.underlying3 (by kernel_rfl)
theorem spec_l1In.ev (n a b : Int) : spec_l1In.f n a b = some (inB n a b) := by
  unfold spec_l1In.f inB
  by_cases h : a ≤ n
  · rw [if_pos h]; simp [h]
  · rw [if_neg h]; simp [h]

def nmem (i : Nat) : S71 := ⟨i, 1, [], 0⟩
def newFenceP (m : Int) : Int × Int × List S71 × List Int × Bool := if inB m 1 8 = true then (1, 0, (List.range m.toNat).map nmem, [], true) else (0, 0, [], [], false)
theorem range_snoc (i : Nat) : (List.range i).map nmem ++ [nmem i] = (List.range (i + 1)).map nmem := by simp [List.range_succ]
theorem spec_NewFence.go (n : Nat) (hn : n ≤ 8) : Ev (fun k => spec_NewFence.l0 k (n : Int) 0 1 0 []) (1, 0, (List.range n).map nmem, [], true) := by
  refine Ev.eq (Ev.congr (fun k => ?_) (Ev.up (g := fun k i => spec_NewFence.l0 k (n : Int) i 1 0 ((List.range i.toNat).map nmem)) n (fun _ => (1, 0, (List.range n).map nmem, [], true)) ?_)) rfl
  · simp
  intro i hi ih
  refine Ev.step (fun k => by rw [spec_NewFence.l0]) ?_
  by_cases hlt : i < n
  · refine Ev.pos (by omega) (Ev.pos (by simp; omega) ?_)
    rw [w64_succ hlt (by omega)]
    have h2 := ih hlt
    simp only [Int.toNat_natCast] at h2 ⊢
    rw [← range_snoc] at h2
    exact h2
  · have : i = n := by omega
    subst this
    exact Ev.neg (by omega) (Ev.some (by simp))
theorem spec_NewFence.ev (m : Int) : Ev (fun k => spec_NewFence.f k m) (newFenceP m) := by
  unfold spec_NewFence.f newFenceP
  refine Ev.bindS (spec_l1In.ev _ _ _) ?_
  cases hin : inB m 1 8 with
  | false => exact Ev.neg (by simp) (Ev.some (by simp))
  | true =>
    have h := inB_iff.1 hin
    obtain ⟨n, rfl⟩ : ∃ n : Nat, m = n := ⟨m.toNat, by omega⟩
    exact Ev.pos rfl (Ev.eq (spec_NewFence.go n (by omega)) (by simp))

theorem impl_in.ev (n a b : Int) : impl_in.f n a b = some (inB n a b) := by
  unfold impl_in.f inB
  by_cases h : a ≤ n
  · rw [if_pos h]; simp [h]
  · rw [if_neg h]; simp [h]

theorem impl_newFence.go (n : Nat) (hn : n ≤ 8) : Ev (fun k => impl_newFence.f k (n : Int)) (1, 0, (List.range n).map nmem, []) := by
  unfold impl_newFence.f
  refine Ev.eq (Ev.congr (fun k => ?_) (Ev.up (g := fun k i => impl_newFence.l0 k (n : Int) i 1 0 ((List.range i.toNat).map nmem)) n (fun _ => (1, 0, (List.range n).map nmem, [])) ?_)) rfl
  · simp
  intro i hi ih
  refine Ev.step (fun k => by rw [impl_newFence.l0]) ?_
  by_cases hlt : i < n
  · refine Ev.pos (by omega) (Ev.pos (by simp; omega) ?_)
    rw [w64_succ hlt (by omega)]
    have h2 := ih hlt
    simp only [Int.toNat_natCast] at h2 ⊢
    rw [← range_snoc] at h2
    exact h2
  · have : i = n := by omega
    subst this
    exact Ev.neg (by omega) (Ev.some (by simp))

theorem impl_NewFence.ev (m : Int) : Ev (fun k => impl_NewFence.f k m) (newFenceP m) := by
  unfold impl_NewFence.f newFenceP
  refine Ev.bindS (impl_in.ev _ _ _) ?_
  cases hin : inB m 1 8 with
  | false => exact Ev.neg (by simp) (Ev.some (by simp))
  | true =>
    have h := inB_iff.1 hin
    obtain ⟨n, rfl⟩ : ∃ n : Nat, m = n := ⟨m.toNat, by omega⟩
    exact Ev.pos rfl (Ev.bind (impl_newFence.go n (by omega)) (Ev.some (by simp)))

def okLI (l : List Int) : Prop := l.length ≤ 1048576
def bigLI (l : List Int) : Prop := l.length ≤ 9223372036854775807
theorem laws_eqIntS.ev (x y : List Int) (hx : x.length ≤ 9223372036854775807) : Ev (fun k => laws_eqIntS.f k x y) (decide (x = y)) := by
  unfold laws_eqIntS.f
  refine Ev.cases (fun hl => ?_) (fun hl => Ev.some ?_)
  · have hl' : x.length = y.length := by omega
    refine Ev.eq (Ev.up (g := fun k i => laws_eqIntS.l0 k x y i) x.length (fun i => decide (x.drop i = y.drop i)) ?_) (by simp)
    intro i hi ih
    refine Ev.step (fun k => by rw [laws_eqIntS.l0]) ?_
    by_cases hlt : i < x.length
    · refine Ev.pos (by omega) (Ev.pos (by omega) (Ev.pos (by omega) ?_))
      rw [rd_get hlt, rd_get (by omega : i < y.length), w64_succ hlt hx]
      have e : decide (x.drop i = y.drop i) = (decide (x[i] = y[i]) && decide (x.drop (i + 1) = y.drop (i + 1))) := drop_eq_step hlt (by omega)
      rw [e]
      refine Ev.cases (fun he => ?_) (fun he => Ev.some (by rw [decide_eq_false he]; rfl))
      exact Ev.eq (ih hlt) (by rw [decide_eq_true he]; rfl)
    · refine Ev.neg (by omega) (Ev.some ?_)
      rw [List.drop_of_length_le (by omega), List.drop_of_length_le (by omega)]
      simp
  · have : x ≠ y := fun h => hl (by rw [h])
    simp [this]
theorem laws_eqIntS.refl (x : List Int) (hx : okLI x) : Ev (fun k => laws_eqIntS.f k x x) true := Ev.eq (laws_eqIntS.ev x x (by unfold okLI at hx; omega)) (by simp)

theorem laws_eqMember.refl (x0 : Int) (x1 : Int) (x2 : List Int) (x3 : Int) (h2 : okLI x2) : Ev (fun k => laws_eqMember.f k x0 x1 x2 x3 x0 x1 x2 x3) true := by
  unfold laws_eqMember.f
  exact (Ev.pos rfl (Ev.pos rfl (Ev.bind (laws_eqIntS.refl _ h2) (Ev.pos rfl (Ev.pos rfl (Ev.now _))))))

def okE71 (z : S71) : Prop := okLI z.f2
def okL71 (l : List S71) : Prop := l.length ≤ 1048576 ∧ ∀ z ∈ l, okE71 z
def bigE71 (z : S71) : Prop := bigLI z.f2
def bigL71 (l : List S71) : Prop := l.length ≤ 9223372036854775807 ∧ ∀ z ∈ l, bigE71 z
theorem laws_eqMemberS.refl (x : List S71) (hx : okL71 x) : Ev (fun k => laws_eqMemberS.f k x x) true := by
  unfold laws_eqMemberS.f
  refine Ev.pos rfl (Ev.eq (Ev.up (g := fun k i => laws_eqMemberS.l0 k x x i) x.length (fun _ => true) ?_) rfl)
  intro i hi ih
  refine Ev.step (fun k => by rw [laws_eqMemberS.l0]) ?_
  by_cases hlt : i < x.length
  · have e : rd_T71 x (i : Int) = x[i] := getD_nat x _ hlt
    have h3 := hx.2 _ (List.getElem_mem hlt)
    have h1 := hx.1
    rw [e, w64_succ hlt (by omega)]
    exact Ev.pos (by omega) (Ev.pos (by omega) (Ev.pos (by omega) (Ev.bind (laws_eqMember.refl (x[i].f0) (x[i].f1) (x[i].f2) (x[i].f3) (h3)) (Ev.pos rfl (ih hlt)))))
  · exact Ev.neg (by omega) (Ev.now _)

theorem laws_eqFence.refl (x0 : Int) (x1 : Int) (x2 : List (S71)) (x3 : List Int) (h2 : okL71 x2) (h3 : okLI x3) : Ev (fun k => laws_eqFence.f k x0 x1 x2 x3 x0 x1 x2 x3) true := by
  unfold laws_eqFence.f
  exact (Ev.pos rfl (Ev.pos rfl (Ev.bind (laws_eqMemberS.refl _ h2) (Ev.pos rfl (Ev.bind (laws_eqIntS.refl _ h3) (Ev.pos rfl (Ev.now _)))))))

theorem laws_markIntS.ev (l : List Int) (k0 : Int) (h0 : 0 ≤ k0) (h1 : k0 + l.length ≤ 9223372036854775807) : Ev (fun k => laws_markIntS.f k l k0) (k0 + l.length, marks k0 l.length) := by
  unfold laws_markIntS.f
  by_cases hb : (l.length : Int) ≤ 9223372036854775807
  · refine Ev.eq (Ev.congr (fun k => ?_) (Ev.up (g := fun k i => laws_markIntS.l0 k (marks k0 i.toNat ++ l.drop i.toNat) (k0 + i) i) l.length (fun _ => (k0 + l.length, marks k0 l.length)) ?_)) rfl
    · simp [marks]
    intro i hi ih
    refine Ev.step (fun k => by rw [laws_markIntS.l0]) ?_
    by_cases hlt : i < l.length
    · refine Ev.pos (by simp [marks_length]; omega) (Ev.pos (by omega) ?_)
      have h2 := ih hlt
      simp only [Int.toNat_natCast] at h2 ⊢
      rw [w64_succ hlt (by omega), w64 (by omega) (by omega), set_mark _ _ _ (marks_length _ _) hlt, ← marks_succ]
      refine Ev.congr (fun k => ?_) h2
      rw [show k0 + (i : Int) + 1 = k0 + ((i + 1 : Nat) : Int) by omega]
    · have : i = l.length := by omega
      subst this
      refine Ev.neg (by simp [marks_length]) (Ev.some ?_)
      simp
  · omega

theorem laws_heldIntS.ev (n : Nat) (k0 : Int) (h0 : -9223372036854775808 ≤ k0) (h1 : k0 + n ≤ 9223372036854775807) (hn : n ≤ 9223372036854775807) : Ev (fun k => laws_heldIntS.f k (marks k0 n) k0) (k0 + n) := by
  unfold laws_heldIntS.f
  refine Ev.eq (Ev.congr (fun k => ?_) (Ev.up (g := fun k i => laws_heldIntS.l0 k (marks k0 n) (k0 + i) i) n (fun _ => k0 + (n : Int)) ?_)) rfl
  · simp
  intro i hi ih
  refine Ev.step (fun k => by rw [laws_heldIntS.l0]) ?_
  by_cases hlt : i < n
  · refine Ev.pos (by rw [marks_length]; omega) (Ev.pos (by omega) (Ev.pos (marks_get hlt) ?_))
    have h2 := ih hlt
    rw [w64_succ hlt hn, w64 (by omega) (by omega)]
    refine Ev.congr (fun k => ?_) h2
    rw [show k0 + (i : Int) + 1 = k0 + ((i + 1 : Nat) : Int) by omega]
  · have : i = n := by omega
    subst this
    exact Ev.neg (by rw [marks_length]; omega) (Ev.some rfl)
theorem laws_markIntS.two (l : List Int) (k0 : Int) (h0 : 0 ≤ k0) (h1 : k0 + (l.length : Int) ≤ 9223372036854775807) (h2 : l.length ≤ 9223372036854775807) : ∃ l' : List Int, l'.length = l.length ∧ Ev (fun k => laws_markIntS.f k l k0) (k0 + (l.length : Int), l') ∧ Ev (fun k => laws_heldIntS.f k l' k0) (k0 + (l.length : Int)) :=
  ⟨marks k0 l.length, marks_length _ _, laws_markIntS.ev l k0 h0 (by omega), laws_heldIntS.ev l.length k0 (by omega) (by omega) (by omega)⟩

def mc71 (x : S71) : Nat := 3 + (x.f2).length
def ms71 : List S71 → Nat
  | [] => 0
  | x :: r => mc71 x + ms71 r
def mok71 (l : List S71) : Prop := ∀ x ∈ l, x.f2.length ≤ 1048576
theorem laws_markMemberS.go (r : List S71) : mok71 r → ∀ (p q : List S71) (k0 : Int), 0 ≤ k0 → k0 + (ms71 r : Int) ≤ 9223372036854775807 → p.length + r.length ≤ 9223372036854775807 → q.length = p.length →
    ∃ r' : List S71, r'.length = r.length ∧ Ev (fun k => laws_markMemberS.l0 k (p ++ r) k0 (p.length : Int)) (k0 + (ms71 r : Int), p ++ r') ∧ Ev (fun k => laws_heldMemberS.l0 k (q ++ r') k0 (q.length : Int)) (k0 + (ms71 r : Int)) := by
  induction r with
  | nil =>
    intro _ p q k0 h0 h1 h2 hq
    refine ⟨[], rfl, ?_, ?_⟩
    · exact Ev.step (fun k => by rw [laws_markMemberS.l0]) (Ev.neg (by simp) (Ev.some (by simp [ms71])))
    · exact Ev.step (fun k => by rw [laws_heldMemberS.l0]) (Ev.neg (by simp) (Ev.some (by simp [ms71])))
  | cons x r ih =>
    intro hok p q k0 h0 h1 h2 hq
    have hx := hok x (List.mem_cons_self ..)
    have ih := ih (fun z hz => hok z (List.mem_cons_of_mem _ hz))
    have hms : ms71 (x :: r) = mc71 x + ms71 r := rfl
    simp only [mc71] at hms
    simp only [List.length_cons] at h2
    have hx2 := hx
    have e1 : wrap64 (k0 + 1) = k0 + 1 := w64 (by omega) (by omega)
    have e2 : wrap64 (k0 + 1 + 1) = k0 + 1 + 1 := w64 (by omega) (by omega)
    obtain ⟨l2, hl2, hm2, hh2⟩ := laws_markIntS.two x.f2 (k0 + 1 + 1) (by omega) (by omega) (by omega)
    have e3 : wrap64 (k0 + 1 + 1 + ((x.f2).length : Int) + 1) = k0 + 1 + 1 + ((x.f2).length : Int) + 1 := w64 (by omega) (by omega)
    obtain ⟨r', hr', hm, hh⟩ := ih (p ++ [(⟨k0, k0 + 1, l2, k0 + 1 + 1 + ((x.f2).length : Int)⟩ : S71)]) (q ++ [(⟨k0, k0 + 1, l2, k0 + 1 + 1 + ((x.f2).length : Int)⟩ : S71)]) (k0 + 1 + 1 + ((x.f2).length : Int) + 1) (by omega) (by omega) (by simp; omega) (by simp [hq])
    have ep : wrap64 ((p.length : Int) + 1) = (((p ++ [(⟨k0, k0 + 1, l2, k0 + 1 + 1 + ((x.f2).length : Int)⟩ : S71)]).length : Nat) : Int) := by rw [w64 (by omega) (by omega)]; simp
    have eq : wrap64 ((q.length : Int) + 1) = (((q ++ [(⟨k0, k0 + 1, l2, k0 + 1 + 1 + ((x.f2).length : Int)⟩ : S71)]).length : Nat) : Int) := by rw [w64 (by omega) (by omega)]; simp
    have rdp : ∀ (y : S71) (r : List S71), rd_T71 (p ++ y :: r) (p.length : Int) = y := fun y r => by simp [rd_T71]
    have rdq : rd_T71 (q ++ (⟨k0, k0 + 1, l2, k0 + 1 + 1 + ((x.f2).length : Int)⟩ : S71) :: r') (q.length : Int) = (⟨k0, k0 + 1, l2, k0 + 1 + 1 + ((x.f2).length : Int)⟩ : S71) := by simp [rd_T71]
    have stp : ∀ (y z : S71) (r : List S71), (p ++ y :: r).set (p.length : Int).toNat z = p ++ z :: r := fun y z r => by simp
    refine ⟨(⟨k0, k0 + 1, l2, k0 + 1 + 1 + ((x.f2).length : Int)⟩ : S71) :: r', by simp [hr'], ?_, ?_⟩
    · refine Ev.step (fun k => by rw [laws_markMemberS.l0]) (Ev.pos (by simp; omega) (Ev.pos (by omega) ?_))
      simp only [Option.bind_some, rdp, stp]
      rw [e1, e2]
      refine Ev.bind hm2 ?_
      dsimp only
      rw [e3]
      rw [ep]
      have e_ : p ++ (⟨k0, k0 + 1, l2, k0 + 1 + 1 + ((x.f2).length : Int)⟩ : S71) :: r = (p ++ [(⟨k0, k0 + 1, l2, k0 + 1 + 1 + ((x.f2).length : Int)⟩ : S71)]) ++ r := by simp
      first | rw [e_] | (simp only [stp]; rw [e_])
      exact Ev.eq hm (by rw [Prod.mk.injEq]; exact ⟨by omega, by simp⟩)
    · refine Ev.step (fun k => by rw [laws_heldMemberS.l0]) (Ev.pos (by simp; omega) (Ev.pos (by omega) ?_))
      rw [rdq]
      refine Ev.pos rfl ?_
      try rw [e1]
      refine Ev.pos rfl ?_
      try rw [e2]
      refine Ev.bind hh2 (Ev.neg (by omega) ?_)
      refine Ev.pos rfl ?_
      try rw [e3]
      rw [eq]
      have e_ : q ++ (⟨k0, k0 + 1, l2, k0 + 1 + 1 + ((x.f2).length : Int)⟩ : S71) :: r' = (q ++ [(⟨k0, k0 + 1, l2, k0 + 1 + 1 + ((x.f2).length : Int)⟩ : S71)]) ++ r' := by simp
      rw [e_]
      exact Ev.eq hh (by omega)
theorem laws_markMemberS.two (l : List S71) (k0 : Int) (h0 : 0 ≤ k0) (h1 : k0 + (ms71 l : Int) ≤ 9223372036854775807) (h2 : l.length ≤ 9223372036854775807) (h3 : mok71 l) : ∃ l' : List S71, l'.length = l.length ∧ Ev (fun k => laws_markMemberS.f k l k0) (k0 + (ms71 l : Int), l') ∧ Ev (fun k => laws_heldMemberS.f k l' k0) (k0 + (ms71 l : Int)) := by
  obtain ⟨l', e, h4, h5⟩ := laws_markMemberS.go l h3 [] [] k0 h0 h1 (by simpa using h2) rfl
  exact ⟨l', e, by simpa [laws_markMemberS.f] using h4, by simpa [laws_heldMemberS.f] using h5⟩

theorem laws_markFence.two (a0 : Int) (a1 : Int) (l2 : List S71) (l3 : List Int) (k0 : Int) (h0 : 0 ≤ k0) (h1 : k0 + (ms71 (l2) : Int) + ((l3).length : Int) ≤ 9223372036854775807) (hl2 : l2.length ≤ 9223372036854775807) (ho2 : mok71 l2) (hl3 : l3.length ≤ 9223372036854775807) : ∃ (m2 : List S71) (m3 : List Int), Ev (fun k => laws_markFence.f k a0 a1 l2 l3 k0) (k0 + (ms71 (l2) : Int) + ((l3).length : Int), m2, m3) ∧ Ev (fun k => laws_heldFence.f k a0 a1 m2 m3 k0) (k0 + (ms71 (l2) : Int) + ((l3).length : Int)) := by
  obtain ⟨m2, e2, hm2, hh2⟩ := laws_markMemberS.two l2 (k0) (by omega) (by omega) hl2 ho2
  obtain ⟨m3, e3, hm3, hh3⟩ := laws_markIntS.two l3 (k0 + (ms71 (l2) : Int)) (by omega) (by omega) hl3
  refine ⟨m2, m3, ?_, ?_⟩
  · unfold laws_markFence.f
    exact Ev.bind hm2 (Ev.bind hm3 (Ev.now _))
  · unfold laws_heldFence.f
    exact Ev.bind hh2 (Ev.neg (by omega) (Ev.bind hh3 (Ev.neg (by omega) (Ev.now _))))

theorem mems_bare (l : List S71) (h : ∀ w ∈ l, w.f2 = []) : ms71 l = 3 * l.length ∧ mok71 l ∧ (∀ w ∈ l, okE71 w) := by
  refine ⟨?_, fun w hw => ?_, fun w hw => ?_⟩
  · induction l with
    | nil => rfl
    | cons x r ih =>
      have e2 := h x (List.mem_cons_self ..)
      have := ih (fun w hw => h w (List.mem_cons_of_mem _ hw))
      simp only [ms71, mc71, List.length_cons, this, e2, List.length_nil]; omega
  · rw [h w hw]; simp
  · unfold okE71 okLI; rw [h w hw]; simp
theorem newFenceP_ok (m : Int) : (newFenceP m).2.2.1.length ≤ 8 ∧ (newFenceP m).2.2.2.1 = [] ∧ (∀ w ∈ (newFenceP m).2.2.1, w.f2 = []) := by
  unfold newFenceP
  split
  · rename_i h
    have := inB_iff.1 h
    refine ⟨by simp; omega, rfl, fun w hw => ?_⟩
    simp only [List.mem_map] at hw
    obtain ⟨p, _, rfl⟩ := hw
    rfl
  · exact ⟨by simp, rfl, fun w hw => by simp at hw⟩
theorem holds_ev (m : Int) : Ev (fun k => laws_FnExactNewFence.f k m) true := by
  unfold laws_FnExactNewFence.f
  refine Ev.bind (spec_NewFence.ev m) ?_
  have hI := impl_NewFence.ev m
  obtain ⟨h1, h2, h3⟩ := newFenceP_ok m
  generalize newFenceP m = N at hI h1 h2 h3 ⊢
  obtain ⟨a, b, ms, en, ok⟩ := N
  dsimp only at h1 h2 h3 ⊢
  subst h2
  obtain ⟨w1, w2, w3⟩ := mems_bare ms h3
  refine Ev.bind hI ?_
  dsimp only
  refine Ev.bind (laws_eqFence.refl a b ms [] ⟨by omega, w3⟩ (by unfold okLI; simp)) ?_
  obtain ⟨m0, m1, hx, hh⟩ := laws_markFence.two a b ms [] 1 (by omega) (by simp; omega) (by omega) w2 (by simp)
  refine Ev.bind hx ?_
  dsimp only
  refine Ev.bind hh ?_
  exact Ev.pos ⟨rfl, rfl, rfl, by omega⟩ (Ev.now _)

end Go.Proofs.Ytbnadnfggpnbgaa.PNF
namespace Go.Proofs.Ytbnadnfggpnbgaa.PureFnExactNewFence
open Go.RowKit Go.Proofs.Ytbnadnfggpnbgaa.PNF Go.Proofs.Ytbnadnfggpnbgaa.Base Go.Proofs.Ytbnadnfggpnbgaa.Open Go.Proofs.YtbnadnfggpnbgaaW.PrintWords Go.Proofs.YtbnadnfggpnbgaaW.PrintLast
theorem holds (a0 : Int) (w0 : (Lit.int .i64 a0).wf = true) : ∃ k, Go.Proofs.Ytbnadnfggpnbgaa.PNF.laws_FnExactNewFence.f k a0 = some true := by
  have _h := w0
  exact (holds_ev a0).rounds
end Go.Proofs.Ytbnadnfggpnbgaa.PureFnExactNewFence
