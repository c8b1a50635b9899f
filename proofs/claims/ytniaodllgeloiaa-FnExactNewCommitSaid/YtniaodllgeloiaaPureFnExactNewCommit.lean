/- What this text proves: laws.FnExactNewCommit, told as plain functions of numbers and lists, answers true for all arguments.
   Conditions: the bounds that the typed reading gives. -/
import Derived.Test.YtniaodllgeloiaaPNCx6
import Derived.Test.YtniaodllgeloiaaOpen
import Derived.Test.YtniaodllgeloiaaBase
namespace Go.Proofs.Ytniaodllgeloiaa.PNC
open Go.RowKit Go.Proofs.Ytniaodllgeloiaa.Base Go.Proofs.Ytniaodllgeloiaa.Open Go.Proofs.YtniaodllgeloiaaW.PrintWords Go.Proofs.YtniaodllgeloiaaW.PrintLast Go.Proofs.YtniaodllgeloiaaW.PrintMore
set_option linter.unusedVariables false
set_option linter.unusedSimpArgs false
theorem op3 : Opens Try.prog 3 (Kd.int .i64) (fun x => (Lit.int .i64 x).wf = true) := Opens.int Try.underlying3 (by kernel_rfl)
theorem op33 : Opens Try.prog 33 (Kd.slice 3 (Kd.int .i64)) (fun x => (x.length ≤ 9223372036854775807 ∧ ∀ z ∈ x, (Lit.int .i64 z).wf = true)) := Opens.slice Try.underlying33 (by kernel_rfl) op3
theorem laws_eqReplica.refl (x0 : Bool) (x1 : Int) : laws_eqReplica.f x0 x1 x0 x1 = some true := by
  unfold laws_eqReplica.f; simp

def okE67 (z : S67) : Prop := True
def okL67 (l : List S67) : Prop := l.length ≤ 1048576 ∧ ∀ z ∈ l, okE67 z
def bigE67 (z : S67) : Prop := True
def bigL67 (l : List S67) : Prop := l.length ≤ 9223372036854775807 ∧ ∀ z ∈ l, bigE67 z
theorem laws_eqReplicaS.refl (x : List S67) (hx : okL67 x) : Ev (fun k => laws_eqReplicaS.f k x x) true := by
  unfold laws_eqReplicaS.f
  refine Ev.pos rfl (Ev.eq (Ev.up (g := fun k i => laws_eqReplicaS.l0 k x x i) x.length (fun _ => true) ?_) rfl)
  intro i hi ih
  refine Ev.step (fun k => by rw [laws_eqReplicaS.l0]) ?_
  by_cases hlt : i < x.length
  · have e : rd_T67 x (i : Int) = x[i] := getD_nat x _ hlt
    have h3 := hx.2 _ (List.getElem_mem hlt)
    have h1 := hx.1
    rw [e, w64_succ hlt (by omega)]
    exact Ev.pos (by omega) (Ev.pos (by omega) (Ev.pos (by omega) (Ev.bindS (laws_eqReplica.refl (x[i].f0) (x[i].f1)) (Ev.pos rfl (ih hlt)))))
  · exact Ev.neg (by omega) (Ev.now _)

theorem laws_eqShard.refl (x0 : List (S67)) (h0 : okL67 x0) : Ev (fun k => laws_eqShard.f k x0 x0) true := by
  unfold laws_eqShard.f
  exact (Ev.bind (laws_eqReplicaS.refl _ h0) (Ev.pos rfl (Ev.now _)))

def okE65 (z : S65) : Prop := okL67 z.f0
def okL65 (l : List S65) : Prop := l.length ≤ 1048576 ∧ ∀ z ∈ l, okE65 z
def bigE65 (z : S65) : Prop := bigL67 z.f0
def bigL65 (l : List S65) : Prop := l.length ≤ 9223372036854775807 ∧ ∀ z ∈ l, bigE65 z
theorem laws_eqShardS.refl (x : List S65) (hx : okL65 x) : Ev (fun k => laws_eqShardS.f k x x) true := by
  unfold laws_eqShardS.f
  refine Ev.pos rfl (Ev.eq (Ev.up (g := fun k i => laws_eqShardS.l0 k x x i) x.length (fun _ => true) ?_) rfl)
  intro i hi ih
  refine Ev.step (fun k => by rw [laws_eqShardS.l0]) ?_
  by_cases hlt : i < x.length
  · have e : rd_T65 x (i : Int) = x[i] := getD_nat x _ hlt
    have h3 := hx.2 _ (List.getElem_mem hlt)
    have h1 := hx.1
    rw [e, w64_succ hlt (by omega)]
    exact Ev.pos (by omega) (Ev.pos (by omega) (Ev.pos (by omega) (Ev.bind (laws_eqShard.refl (x[i].f0) (h3)) (Ev.pos rfl (ih hlt)))))
  · exact Ev.neg (by omega) (Ev.now _)

theorem laws_eqCommit.refl (x0 : List (S65)) (x1 : Int) (x2 : Int) (h0 : okL65 x0) : Ev (fun k => laws_eqCommit.f k x0 x1 x2 x0 x1 x2) true := by
  unfold laws_eqCommit.f
  exact (Ev.bind (laws_eqShardS.refl _ h0) (Ev.pos rfl (Ev.pos rfl (Ev.pos rfl (Ev.now _)))))

theorem spec_l1In.ev (n a b : Int) : spec_l1In.f n a b = some (inB n a b) := by
  unfold spec_l1In.f inB
  by_cases h : a ≤ n
  · rw [if_pos h]; simp [h]
  · rw [if_neg h]; simp [h]

def nsh (n : Int) : S65 := ⟨List.replicate n.toNat z67⟩
def newC (l : List Int) : Bool := inB l.length 1 4 && l.all (fun a => inB a 1 5)
def newCommitP (l : List Int) : List S65 × Int × Int × Bool := if newC l = true then (l.map nsh, 0, 0, true) else ([], 0, 0, false)
theorem spec_NewCommit.go (l : List Int) (hn : l.length ≤ 4) : ∀ (m i : Nat) (ss : List S65), i + m = l.length → ss.length ≤ i →
    Ev (fun k => spec_NewCommit.l0 k l (l.length : Int) (i : Int) ss 0 0) (if (l.drop i).all (fun a => inB a 1 5) = true then (ss ++ (l.drop i).map nsh, 0, 0, true) else ([], 0, 0, false)) := by
  intro m
  induction m with
  | zero =>
    intro i ss h1 h2
    refine Ev.step (fun k => by rw [spec_NewCommit.l0]) (Ev.neg (by omega) (Ev.some ?_))
    rw [List.drop_of_length_le (by omega)]; simp
  | succ m ih =>
    intro i ss h1 h2
    have hlt : i < l.length := by omega
    refine Ev.step (fun k => by rw [spec_NewCommit.l0]) (Ev.pos (by omega) (Ev.pos (by omega) (Ev.pos (by omega) (Ev.bindS (spec_l1In.ev _ _ _) ?_))))
    rw [rd_get hlt, List.drop_eq_getElem_cons hlt, List.all_cons]
    cases hin : inB l[i] 1 5 with
    | false => exact Ev.neg (by simp) (Ev.some (by simp))
    | true =>
      have hb := inB_iff.1 hin
      refine Ev.pos rfl (Ev.pos (by omega) (Ev.pos (by omega) (Ev.pos (by omega) ?_)))
      rw [w64_succ hlt (by omega)]
      refine Ev.eq (ih (i + 1) (ss ++ [nsh l[i]]) (by omega) (by simp; omega)) ?_
      simp only [List.map_cons, List.append_assoc, List.cons_append, List.nil_append, Bool.true_and]
theorem spec_NewCommit.ev (l : List Int) : Ev (fun k => spec_NewCommit.f k l) (newCommitP l) := by
  unfold spec_NewCommit.f newCommitP newC
  refine Ev.bindS (spec_l1In.ev _ _ _) ?_
  cases hin : inB l.length 1 4 with
  | false => exact Ev.neg (by simp) (Ev.some (by simp))
  | true =>
    have h := inB_iff.1 hin
    refine Ev.pos rfl (Ev.eq (spec_NewCommit.go l (by omega) l.length 0 [] (by omega) (by simp)) ?_)
    simp

def okLI (l : List Int) : Prop := l.length ≤ 1048576
def bigLI (l : List Int) : Prop := l.length ≤ 9223372036854775807
theorem laws_toIntS.ev0 (l : List Int) (hl : l.length ≤ 1048576) : Ev (fun k => laws_toIntS.f k l) l := by
  unfold laws_toIntS.f
  refine Ev.pos (by omega) (Ev.pos (by omega) ?_)
  refine Ev.eq (Ev.up (g := fun k i => laws_toIntS.l0 k l (l.take i.toNat ++ List.replicate (l.length - i.toNat) 0) i) l.length (fun _ => l) ?_) rfl
  intro i hi ih
  refine Ev.step (fun k => by rw [laws_toIntS.l0]) ?_
  by_cases hlt : i < l.length
  · refine Ev.pos (by omega) (Ev.pos (by omega) (Ev.pos (by simp; omega) ?_))
    rw [rd_get hlt, w64_succ hlt (by omega)]
    have h2 := ih hlt
    simp only [Int.toNat_natCast] at h2 ⊢
    rw [set_fill l 0 hlt]
    exact h2
  · refine Ev.neg (by omega) (Ev.some ?_)
    simp only [Int.toNat_natCast]
    have : i = l.length := by omega
    subst this
    simp
theorem laws_toIntS.ev (l : List Int) (hl : okLI l) : Ev (fun k => laws_toIntS.f k l) l := laws_toIntS.ev0 l hl

theorem impl_in.ev (n a b : Int) : impl_in.f n a b = some (inB n a b) := by
  unfold impl_in.f inB
  by_cases h : a ≤ n
  · rw [if_pos h]; simp [h]
  · rw [if_neg h]; simp [h]

theorem impl_newCommit.go (l : List Int) (hn : l.length ≤ 4) : ∀ (m i : Nat) (ss : List S65), i + m = l.length → ss.length ≤ i →
    Ev (fun k => impl_newCommit.l0 k l (l.length : Int) (i : Int) ss 0 0) (if (l.drop i).all (fun a => inB a 1 5) = true then (ss ++ (l.drop i).map nsh, 0, 0, true) else ([], 0, 0, false)) := by
  intro m
  induction m with
  | zero =>
    intro i ss h1 h2
    refine Ev.step (fun k => by rw [impl_newCommit.l0]) (Ev.neg (by omega) (Ev.some ?_))
    rw [List.drop_of_length_le (by omega)]; simp
  | succ m ih =>
    intro i ss h1 h2
    have hlt : i < l.length := by omega
    refine Ev.step (fun k => by rw [impl_newCommit.l0]) (Ev.pos (by omega) (Ev.pos (by omega) (Ev.pos (by omega) (Ev.bindS (impl_in.ev _ _ _) ?_))))
    rw [rd_get hlt, List.drop_eq_getElem_cons hlt, List.all_cons]
    cases hin : inB l[i] 1 5 with
    | false => exact Ev.neg (by simp) (Ev.some (by simp))
    | true =>
      have hb := inB_iff.1 hin
      refine Ev.pos rfl (Ev.pos (by omega) (Ev.pos (by omega) (Ev.pos (by omega) ?_)))
      rw [w64_succ hlt (by omega)]
      refine Ev.eq (ih (i + 1) (ss ++ [nsh l[i]]) (by omega) (by simp; omega)) ?_
      simp only [List.map_cons, List.append_assoc, List.cons_append, List.nil_append, Bool.true_and]
theorem impl_newCommit.ev (l : List Int) : Ev (fun k => impl_newCommit.f k l) (newCommitP l) := by
  unfold impl_newCommit.f newCommitP newC
  refine Ev.bindS (impl_in.ev _ _ _) ?_
  cases hin : inB l.length 1 4 with
  | false => exact Ev.neg (by simp) (Ev.some (by simp))
  | true =>
    have h := inB_iff.1 hin
    refine Ev.pos rfl (Ev.eq (impl_newCommit.go l (by omega) l.length 0 [] (by omega) (by simp)) ?_)
    simp

theorem impl_NewCommit.ev (l : List Int) : Ev (fun k => impl_NewCommit.f k l) (newCommitP l) := by
  unfold impl_NewCommit.f
  exact Ev.eq (Ev.bind (impl_newCommit.ev l) (Ev.now _)) rfl

theorem laws_eqIntS.ev (x y : List Int) (hx : x.length ≤ 9223372036854775807) : Ev (fun k => laws_eqIntS.f k x y) (decide (x = y)) := by
  unfold laws_eqIntS.f
  refine Ev.cases (fun hl => ?_) (fun hl => Ev.some ?_)
  · have hl' : x.length = y.length := by omega
    refine Ev.eq (Ev.up (g := fun k i => laws_eqIntS.l0 k x y i) x.length (fun i => decide (x.drop i = y.drop i)) ?_) (by simp)
    intro i hi ih
    refine Ev.step (fun k => by rw [laws_eqIntS.l0]) ?_
    by_cases hlt : i < x.length
    · refine Ev.pos (by omega) (Ev.pos (by omega) (Ev.pos (by omega) ?_))
      rw [rd_get hlt, rd_get (by omega : i < y.length), w64_succ hlt hx]
      have e : decide (x.drop i = y.drop i) = (decide (x[i] = y[i]) && decide (x.drop (i + 1) = y.drop (i + 1))) := drop_eq_step hlt (by omega)
      rw [e]
      refine Ev.cases (fun he => ?_) (fun he => Ev.some (by rw [decide_eq_false he]; rfl))
      exact Ev.eq (ih hlt) (by rw [decide_eq_true he]; rfl)
    · refine Ev.neg (by omega) (Ev.some ?_)
      rw [List.drop_of_length_le (by omega), List.drop_of_length_le (by omega)]
      simp
  · have : x ≠ y := fun h => hl (by rw [h])
    simp [this]
theorem laws_eqIntS.refl (x : List Int) (hx : okLI x) : Ev (fun k => laws_eqIntS.f k x x) true := Ev.eq (laws_eqIntS.ev x x (by unfold okLI at hx; omega)) (by simp)

theorem laws_markIntS.ev (l : List Int) (k0 : Int) (h0 : 0 ≤ k0) (h1 : k0 + l.length ≤ 9223372036854775807) : Ev (fun k => laws_markIntS.f k l k0) (k0 + l.length, marks k0 l.length) := by
  unfold laws_markIntS.f
  by_cases hb : (l.length : Int) ≤ 9223372036854775807
  · refine Ev.eq (Ev.congr (fun k => ?_) (Ev.up (g := fun k i => laws_markIntS.l0 k (marks k0 i.toNat ++ l.drop i.toNat) (k0 + i) i) l.length (fun _ => (k0 + l.length, marks k0 l.length)) ?_)) rfl
    · simp [marks]
    intro i hi ih
    refine Ev.step (fun k => by rw [laws_markIntS.l0]) ?_
    by_cases hlt : i < l.length
    · refine Ev.pos (by simp [marks_length]; omega) (Ev.pos (by omega) ?_)
      have h2 := ih hlt
      simp only [Int.toNat_natCast] at h2 ⊢
      rw [w64_succ hlt (by omega), w64 (by omega) (by omega), set_mark _ _ _ (marks_length _ _) hlt, ← marks_succ]
      refine Ev.congr (fun k => ?_) h2
      rw [show k0 + (i : Int) + 1 = k0 + ((i + 1 : Nat) : Int) by omega]
    · have : i = l.length := by omega
      subst this
      refine Ev.neg (by simp [marks_length]) (Ev.some ?_)
      simp
  · omega

def mc67 (x : S67) : Nat := 2
def ms67 : List S67 → Nat
  | [] => 0
  | x :: r => mc67 x + ms67 r
def mok67 (l : List S67) : Prop := ∀ x ∈ l, True
theorem laws_markReplicaS.go (r : List S67) : mok67 r → ∀ (p q : List S67) (k0 : Int), 0 ≤ k0 → k0 + (ms67 r : Int) ≤ 9223372036854775807 → p.length + r.length ≤ 9223372036854775807 → q.length = p.length →
    ∃ r' : List S67, r'.length = r.length ∧ Ev (fun k => laws_markReplicaS.l0 k (p ++ r) k0 (p.length : Int)) (k0 + (ms67 r : Int), p ++ r') ∧ Ev (fun k => laws_heldReplicaS.l0 k (q ++ r') k0 (q.length : Int)) (k0 + (ms67 r : Int)) := by
  induction r with
  | nil =>
    intro _ p q k0 h0 h1 h2 hq
    refine ⟨[], rfl, ?_, ?_⟩
    · exact Ev.step (fun k => by rw [laws_markReplicaS.l0]) (Ev.neg (by simp) (Ev.some (by simp [ms67])))
    · exact Ev.step (fun k => by rw [laws_heldReplicaS.l0]) (Ev.neg (by simp) (Ev.some (by simp [ms67])))
  | cons x r ih =>
    intro hok p q k0 h0 h1 h2 hq
    have hx := hok x (List.mem_cons_self ..)
    have ih := ih (fun z hz => hok z (List.mem_cons_of_mem _ hz))
    have hms : ms67 (x :: r) = mc67 x + ms67 r := rfl
    simp only [mc67] at hms
    simp only [List.length_cons] at h2
    have e1 : wrap64 (k0 + 1) = k0 + 1 := w64 (by omega) (by omega)
    have e2 : wrap64 (k0 + 1 + 1) = k0 + 1 + 1 := w64 (by omega) (by omega)
    obtain ⟨r', hr', hm, hh⟩ := ih (p ++ [(⟨((Int.tmod (k0) 3) == 0), k0 + 1⟩ : S67)]) (q ++ [(⟨((Int.tmod (k0) 3) == 0), k0 + 1⟩ : S67)]) (k0 + 1 + 1) (by omega) (by omega) (by simp; omega) (by simp [hq])
    have ep : wrap64 ((p.length : Int) + 1) = (((p ++ [(⟨((Int.tmod (k0) 3) == 0), k0 + 1⟩ : S67)]).length : Nat) : Int) := by rw [w64 (by omega) (by omega)]; simp
    have eq : wrap64 ((q.length : Int) + 1) = (((q ++ [(⟨((Int.tmod (k0) 3) == 0), k0 + 1⟩ : S67)]).length : Nat) : Int) := by rw [w64 (by omega) (by omega)]; simp
    have rdp : ∀ (y : S67) (r : List S67), rd_T67 (p ++ y :: r) (p.length : Int) = y := fun y r => by simp [rd_T67]
    have rdq : rd_T67 (q ++ (⟨((Int.tmod (k0) 3) == 0), k0 + 1⟩ : S67) :: r') (q.length : Int) = (⟨((Int.tmod (k0) 3) == 0), k0 + 1⟩ : S67) := by simp [rd_T67]
    have stp : ∀ (y z : S67) (r : List S67), (p ++ y :: r).set (p.length : Int).toNat z = p ++ z :: r := fun y z r => by simp
    refine ⟨(⟨((Int.tmod (k0) 3) == 0), k0 + 1⟩ : S67) :: r', by simp [hr'], ?_, ?_⟩
    · refine Ev.step (fun k => by rw [laws_markReplicaS.l0]) (Ev.pos (by simp; omega) (Ev.pos (by omega) ?_))
      simp only [Option.bind_some, rdp, stp]
      rw [e1, e2, ep]
      have e_ : p ++ (⟨((Int.tmod (k0) 3) == 0), k0 + 1⟩ : S67) :: r = (p ++ [(⟨((Int.tmod (k0) 3) == 0), k0 + 1⟩ : S67)]) ++ r := by simp
      first | rw [e_] | (simp only [stp]; rw [e_])
      exact Ev.eq hm (by rw [Prod.mk.injEq]; exact ⟨by omega, by simp⟩)
    · refine Ev.step (fun k => by rw [laws_heldReplicaS.l0]) (Ev.pos (by simp; omega) (Ev.pos (by omega) ?_))
      rw [rdq]
      refine Ev.neg (by simp) ?_
      try rw [e1]
      refine Ev.pos rfl ?_
      try rw [e2]
      rw [eq]
      have e_ : q ++ (⟨((Int.tmod (k0) 3) == 0), k0 + 1⟩ : S67) :: r' = (q ++ [(⟨((Int.tmod (k0) 3) == 0), k0 + 1⟩ : S67)]) ++ r' := by simp
      rw [e_]
      exact Ev.eq hh (by omega)
theorem laws_markReplicaS.two (l : List S67) (k0 : Int) (h0 : 0 ≤ k0) (h1 : k0 + (ms67 l : Int) ≤ 9223372036854775807) (h2 : l.length ≤ 9223372036854775807) (h3 : mok67 l) : ∃ l' : List S67, l'.length = l.length ∧ Ev (fun k => laws_markReplicaS.f k l k0) (k0 + (ms67 l : Int), l') ∧ Ev (fun k => laws_heldReplicaS.f k l' k0) (k0 + (ms67 l : Int)) := by
  obtain ⟨l', e, h4, h5⟩ := laws_markReplicaS.go l h3 [] [] k0 h0 h1 (by simpa using h2) rfl
  exact ⟨l', e, by simpa [laws_markReplicaS.f] using h4, by simpa [laws_heldReplicaS.f] using h5⟩

def mc65 (x : S65) : Nat := 0 + ms67 (x.f0)
def ms65 : List S65 → Nat
  | [] => 0
  | x :: r => mc65 x + ms65 r
def mok65 (l : List S65) : Prop := ∀ x ∈ l, x.f0.length ≤ 1048576 ∧ mok67 x.f0
theorem laws_markShardS.go (r : List S65) : mok65 r → ∀ (p q : List S65) (k0 : Int), 0 ≤ k0 → k0 + (ms65 r : Int) ≤ 9223372036854775807 → p.length + r.length ≤ 9223372036854775807 → q.length = p.length →
    ∃ r' : List S65, r'.length = r.length ∧ Ev (fun k => laws_markShardS.l0 k (p ++ r) k0 (p.length : Int)) (k0 + (ms65 r : Int), p ++ r') ∧ Ev (fun k => laws_heldShardS.l0 k (q ++ r') k0 (q.length : Int)) (k0 + (ms65 r : Int)) := by
  induction r with
  | nil =>
    intro _ p q k0 h0 h1 h2 hq
    refine ⟨[], rfl, ?_, ?_⟩
    · exact Ev.step (fun k => by rw [laws_markShardS.l0]) (Ev.neg (by simp) (Ev.some (by simp [ms65])))
    · exact Ev.step (fun k => by rw [laws_heldShardS.l0]) (Ev.neg (by simp) (Ev.some (by simp [ms65])))
  | cons x r ih =>
    intro hok p q k0 h0 h1 h2 hq
    have hx := hok x (List.mem_cons_self ..)
    have ih := ih (fun z hz => hok z (List.mem_cons_of_mem _ hz))
    have hms : ms65 (x :: r) = mc65 x + ms65 r := rfl
    simp only [mc65] at hms
    simp only [List.length_cons] at h2
    obtain ⟨hx0, hy0⟩ := hx
    obtain ⟨l0, hl0, hm0, hh0⟩ := laws_markReplicaS.two x.f0 (k0) (by omega) (by omega) (by omega) hy0
    obtain ⟨r', hr', hm, hh⟩ := ih (p ++ [(⟨l0⟩ : S65)]) (q ++ [(⟨l0⟩ : S65)]) (k0 + (ms67 (x.f0) : Int)) (by omega) (by omega) (by simp; omega) (by simp [hq])
    have ep : wrap64 ((p.length : Int) + 1) = (((p ++ [(⟨l0⟩ : S65)]).length : Nat) : Int) := by rw [w64 (by omega) (by omega)]; simp
    have eq : wrap64 ((q.length : Int) + 1) = (((q ++ [(⟨l0⟩ : S65)]).length : Nat) : Int) := by rw [w64 (by omega) (by omega)]; simp
    have rdp : ∀ (y : S65) (r : List S65), rd_T65 (p ++ y :: r) (p.length : Int) = y := fun y r => by simp [rd_T65]
    have rdq : rd_T65 (q ++ (⟨l0⟩ : S65) :: r') (q.length : Int) = (⟨l0⟩ : S65) := by simp [rd_T65]
    have stp : ∀ (y z : S65) (r : List S65), (p ++ y :: r).set (p.length : Int).toNat z = p ++ z :: r := fun y z r => by simp
    refine ⟨(⟨l0⟩ : S65) :: r', by simp [hr'], ?_, ?_⟩
    · refine Ev.step (fun k => by rw [laws_markShardS.l0]) (Ev.pos (by simp; omega) (Ev.pos (by omega) ?_))
      simp only [Option.bind_some, rdp, stp]
      refine Ev.bind hm0 ?_
      dsimp only
      rw [ep]
      have e_ : p ++ (⟨l0⟩ : S65) :: r = (p ++ [(⟨l0⟩ : S65)]) ++ r := by simp
      first | rw [e_] | (simp only [stp]; rw [e_])
      exact Ev.eq hm (by rw [Prod.mk.injEq]; exact ⟨by omega, by simp⟩)
    · refine Ev.step (fun k => by rw [laws_heldShardS.l0]) (Ev.pos (by simp; omega) (Ev.pos (by omega) ?_))
      rw [rdq]
      refine Ev.bind hh0 (Ev.neg (by omega) ?_)
      rw [eq]
      have e_ : q ++ (⟨l0⟩ : S65) :: r' = (q ++ [(⟨l0⟩ : S65)]) ++ r' := by simp
      rw [e_]
      exact Ev.eq hh (by omega)
theorem laws_markShardS.two (l : List S65) (k0 : Int) (h0 : 0 ≤ k0) (h1 : k0 + (ms65 l : Int) ≤ 9223372036854775807) (h2 : l.length ≤ 9223372036854775807) (h3 : mok65 l) : ∃ l' : List S65, l'.length = l.length ∧ Ev (fun k => laws_markShardS.f k l k0) (k0 + (ms65 l : Int), l') ∧ Ev (fun k => laws_heldShardS.f k l' k0) (k0 + (ms65 l : Int)) := by
  obtain ⟨l', e, h4, h5⟩ := laws_markShardS.go l h3 [] [] k0 h0 h1 (by simpa using h2) rfl
  exact ⟨l', e, by simpa [laws_markShardS.f] using h4, by simpa [laws_heldShardS.f] using h5⟩

theorem laws_markCommit.two (l0 : List S65) (a1 : Int) (a2 : Int) (k0 : Int) (h0 : 0 ≤ k0) (h1 : k0 + (ms65 (l0) : Int) ≤ 9223372036854775807) (hl0 : l0.length ≤ 9223372036854775807) (ho0 : mok65 l0) : ∃ (m0 : List S65), Ev (fun k => laws_markCommit.f k l0 a1 a2 k0) (k0 + (ms65 (l0) : Int), m0) ∧ Ev (fun k => laws_heldCommit.f k m0 a1 a2 k0) (k0 + (ms65 (l0) : Int)) := by
  obtain ⟨m0, e0, hm0, hh0⟩ := laws_markShardS.two l0 (k0) (by omega) (by omega) hl0 ho0
  refine ⟨m0, ?_, ?_⟩
  · unfold laws_markCommit.f
    exact Ev.bind hm0 (Ev.now _)
  · unfold laws_heldCommit.f
    exact Ev.bind hh0 (Ev.neg (by omega) (Ev.now _))

theorem ms67_len (l : List S67) : ms67 l = 2 * l.length := by
  induction l with
  | nil => rfl
  | cons x r ih => simp only [ms67, mc67, List.length_cons, ih]; omega
theorem shs_ok (l : List S65) (h : ∀ w ∈ l, w.f0.length ≤ 5) : ms65 l ≤ 10 * l.length ∧ mok65 l ∧ (∀ w ∈ l, okE65 w) := by
  refine ⟨?_, fun w hw => ?_, fun w hw => ?_⟩
  · induction l with
    | nil => simp [ms65]
    | cons x r ih =>
      have e2 := h x (List.mem_cons_self ..)
      have := ih (fun w hw => h w (List.mem_cons_of_mem _ hw))
      simp only [ms65, mc65, List.length_cons, ms67_len]; omega
  · have := h w hw; exact ⟨by omega, fun _ _ => trivial⟩
  · have := h w hw; exact ⟨by omega, fun _ _ => trivial⟩
theorem newCommitP_ok (l : List Int) : (newCommitP l).1.length ≤ 4 ∧ (∀ w ∈ (newCommitP l).1, w.f0.length ≤ 5) := by
  unfold newCommitP
  split
  · rename_i h
    unfold newC at h
    obtain ⟨h1, h2⟩ := Bool.and_eq_true_iff.1 h
    have := inB_iff.1 h1
    refine ⟨by simp; omega, fun w hw => ?_⟩
    simp only [List.mem_map] at hw
    obtain ⟨p, hp, rfl⟩ := hw
    have := inB_iff.1 (List.all_eq_true.1 h2 p hp)
    simp [nsh]; omega
  · exact ⟨by simp, fun w hw => by simp at hw⟩
theorem holds_ev (l : List Int) : Ev (fun k => laws_FnExactNewCommit.f k l) true := by
  unfold laws_FnExactNewCommit.f
  refine Ev.cases (fun h => Ev.some rfl) (fun h => ?_)
  refine Ev.bind (laws_toIntS.ev l (by unfold okLI; omega)) ?_
  refine Ev.bind (spec_NewCommit.ev l) ?_
  have hI := impl_NewCommit.ev l
  obtain ⟨h1, h3⟩ := newCommitP_ok l
  generalize newCommitP l = N at hI h1 h3 ⊢
  obtain ⟨ss, a, b, ok⟩ := N
  dsimp only at h1 h3 ⊢
  obtain ⟨w1, w2, w3⟩ := shs_ok ss h3
  refine Ev.bind hI ?_
  dsimp only
  refine Ev.bind (laws_eqCommit.refl ss a b ⟨by omega, w3⟩) ?_
  refine Ev.bind (laws_eqIntS.refl l (by unfold okLI; omega)) ?_
  refine Ev.bind (laws_markIntS.ev l 1 (by omega) (by omega)) ?_
  dsimp only
  obtain ⟨m0, hx, hh⟩ := laws_markCommit.two ss a b 1 (by omega) (by omega) (by omega) w2
  refine Ev.bind hx ?_
  dsimp only
  refine Ev.bind hh ?_
  exact Ev.pos ⟨rfl, rfl, rfl, by omega, rfl, by omega⟩ (Ev.now _)

end Go.Proofs.Ytniaodllgeloiaa.PNC
namespace Go.Proofs.Ytniaodllgeloiaa.PureFnExactNewCommit
open Go.RowKit Go.Proofs.Ytniaodllgeloiaa.PNC Go.Proofs.Ytniaodllgeloiaa.Base Go.Proofs.Ytniaodllgeloiaa.Open Go.Proofs.YtniaodllgeloiaaW.PrintWords Go.Proofs.YtniaodllgeloiaaW.PrintLast
theorem holds (l0 : List Int) (w0 : (l0.length ≤ 9223372036854775807 ∧ ∀ z ∈ l0, (Lit.int .i64 z).wf = true)) : ∃ k, Go.Proofs.Ytniaodllgeloiaa.PNC.laws_FnExactNewCommit.f k l0 = some true := by
  have _h := w0
  exact (holds_ev l0).rounds
end Go.Proofs.Ytniaodllgeloiaa.PureFnExactNewCommit
