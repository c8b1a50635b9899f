/- What this text proves: laws.FnExactNewRegister, told as plain functions of numbers and lists, answers true for all arguments.
   Conditions: the bounds that the typed reading gives. -/
import Derived.Test.YtipfikmbldgliaaPNRx5
import Derived.Test.YtipfikmbldgliaaOpen
import Derived.Test.YtipfikmbldgliaaBase
namespace Go.Proofs.Ytipfikmbldgliaa.PNR
open Go.RowKit Go.Proofs.Ytipfikmbldgliaa.Base Go.Proofs.Ytipfikmbldgliaa.Open Go.Proofs.YtipfikmbldgliaaW.PrintWords Go.Proofs.YtipfikmbldgliaaW.PrintLast Go.Proofs.YtipfikmbldgliaaW.PrintMore
set_option linter.unusedVariables false
set_option linter.unusedSimpArgs false
theorem op3 : Opens Try.prog 3 (Kd.int .i64) (fun x => (Lit.int .i64 x).wf = true) := Opens.int Try.underlying3 (by kernel_rfl)
theorem spec_l1In.ev (n a b : Int) : spec_l1In.f n a b = some (inB n a b) := by
  unfold spec_l1In.f inB
  by_cases h : a ≤ n
  · rw [if_pos h]; simp [h]
  · rw [if_neg h]; simp [h]

theorem spec_l8Nodes.ev (n : Int) : spec_l8Nodes.f n = some (inB n 1 12) := by
  unfold spec_l8Nodes.f; rw [spec_l1In.ev]; rfl

def newRegP (m : Int) : Int × List S40 × List S83 × Bool := if inB m 1 12 = true then (0, List.replicate m.toNat z40, [], true) else (0, [], [], false)
theorem spec_NewRegister.ev (m : Int) : spec_NewRegister.f m = some (newRegP m) := by
  unfold spec_NewRegister.f newRegP
  rw [spec_l8Nodes.ev]
  simp only [Option.bind_some]
  cases hin : inB m 1 12 with
  | false => simp
  | true =>
    have h := inB_iff.1 hin
    rw [if_pos rfl, if_pos (by omega), if_pos (by omega), if_pos rfl]

theorem impl_in.ev (n a b : Int) : impl_in.f n a b = some (inB n a b) := by
  unfold impl_in.f inB
  by_cases h : a ≤ n
  · rw [if_pos h]; simp [h]
  · rw [if_neg h]; simp [h]

theorem impl_NewRegister.ev (m : Int) : impl_NewRegister.f m = some (newRegP m) := by
  unfold impl_NewRegister.f newRegP
  rw [impl_in.ev]
  simp only [Option.bind_some]
  cases hin : inB m 1 12 with
  | false => simp
  | true =>
    have h := inB_iff.1 hin
    rw [if_pos rfl, if_pos (by omega), if_pos (by omega), if_pos rfl]

theorem laws_eqCopy.refl (x0 : Int) (x1 : Int) (x2 : ByteArray) : laws_eqCopy.f x0 x1 x2 x0 x1 x2 = some true := by
  unfold laws_eqCopy.f; simp

def okLS (s : ByteArray) : Prop := s.size ≤ 1048576
def bigLS (s : ByteArray) : Prop := s.size ≤ 9223372036854775807
def okE40 (z : S40) : Prop := okLS z.f2
def okL40 (l : List S40) : Prop := l.length ≤ 1048576 ∧ ∀ z ∈ l, okE40 z
def bigE40 (z : S40) : Prop := bigLS z.f2
def bigL40 (l : List S40) : Prop := l.length ≤ 9223372036854775807 ∧ ∀ z ∈ l, bigE40 z
theorem laws_eqCopyS.refl (x : List S40) (hx : okL40 x) : Ev (fun k => laws_eqCopyS.f k x x) true := by
  unfold laws_eqCopyS.f
  refine Ev.pos rfl (Ev.eq (Ev.up (g := fun k i => laws_eqCopyS.l0 k x x i) x.length (fun _ => true) ?_) rfl)
  intro i hi ih
  refine Ev.step (fun k => by rw [laws_eqCopyS.l0]) ?_
  by_cases hlt : i < x.length
  · have e : rd_T40 x (i : Int) = x[i] := getD_nat x _ hlt
    have h3 := hx.2 _ (List.getElem_mem hlt)
    have h1 := hx.1
    rw [e, w64_succ hlt (by omega)]
    exact Ev.pos (by omega) (Ev.pos (by omega) (Ev.pos (by omega) (Ev.bindS (laws_eqCopy.refl (x[i].f0) (x[i].f1) (x[i].f2)) (Ev.pos rfl (ih hlt)))))
  · exact Ev.neg (by omega) (Ev.now _)

def okLI (l : List Int) : Prop := l.length ≤ 1048576
def bigLI (l : List Int) : Prop := l.length ≤ 9223372036854775807
theorem laws_eqIntS.ev (x y : List Int) (hx : x.length ≤ 9223372036854775807) : Ev (fun k => laws_eqIntS.f k x y) (decide (x = y)) := by
  unfold laws_eqIntS.f
  refine Ev.cases (fun hl => ?_) (fun hl => Ev.some ?_)
  · have hl' : x.length = y.length := by omega
    refine Ev.eq (Ev.up (g := fun k i => laws_eqIntS.l0 k x y i) x.length (fun i => decide (x.drop i = y.drop i)) ?_) (by simp)
    intro i hi ih
    refine Ev.step (fun k => by rw [laws_eqIntS.l0]) ?_
    by_cases hlt : i < x.length
    · refine Ev.pos (by omega) (Ev.pos (by omega) (Ev.pos (by omega) ?_))
      rw [rd_get hlt, rd_get (by omega : i < y.length), w64_succ hlt hx]
      have e : decide (x.drop i = y.drop i) = (decide (x[i] = y[i]) && decide (x.drop (i + 1) = y.drop (i + 1))) := drop_eq_step hlt (by omega)
      rw [e]
      refine Ev.cases (fun he => ?_) (fun he => Ev.some (by rw [decide_eq_false he]; rfl))
      exact Ev.eq (ih hlt) (by rw [decide_eq_true he]; rfl)
    · refine Ev.neg (by omega) (Ev.some ?_)
      rw [List.drop_of_length_le (by omega), List.drop_of_length_le (by omega)]
      simp
  · have : x ≠ y := fun h => hl (by rw [h])
    simp [this]
theorem laws_eqIntS.refl (x : List Int) (hx : okLI x) : Ev (fun k => laws_eqIntS.f k x x) true := Ev.eq (laws_eqIntS.ev x x (by unfold okLI at hx; omega)) (by simp)

theorem laws_eqRegOp.refl (x0 : Int) (x1 : Bool) (x2 : ByteArray) (x3 : Int) (x4 : List Int) (x5 : Int) (x6 : Int) (x7 : ByteArray) (x8 : Int) (x9 : Int) (h4 : okLI x4) : Ev (fun k => laws_eqRegOp.f k x0 x1 x2 x3 x4 x5 x6 x7 x8 x9 x0 x1 x2 x3 x4 x5 x6 x7 x8 x9) true := by
  unfold laws_eqRegOp.f
  exact (Ev.pos rfl (Ev.neg (by simp) (Ev.pos rfl (Ev.pos rfl (Ev.bind (laws_eqIntS.refl _ h4) (Ev.pos rfl (Ev.bindS (laws_eqCopy.refl _ _ _) (Ev.pos rfl (Ev.pos rfl (Ev.pos rfl (Ev.now _)))))))))))

def okE83 (z : S83) : Prop := okLS z.f2 ∧ okLI z.f4
def okL83 (l : List S83) : Prop := l.length ≤ 1048576 ∧ ∀ z ∈ l, okE83 z
def bigE83 (z : S83) : Prop := bigLS z.f2 ∧ bigLI z.f4
def bigL83 (l : List S83) : Prop := l.length ≤ 9223372036854775807 ∧ ∀ z ∈ l, bigE83 z
theorem laws_eqRegOpS.refl (x : List S83) (hx : okL83 x) : Ev (fun k => laws_eqRegOpS.f k x x) true := by
  unfold laws_eqRegOpS.f
  refine Ev.pos rfl (Ev.eq (Ev.up (g := fun k i => laws_eqRegOpS.l0 k x x i) x.length (fun _ => true) ?_) rfl)
  intro i hi ih
  refine Ev.step (fun k => by rw [laws_eqRegOpS.l0]) ?_
  by_cases hlt : i < x.length
  · have e : rd_T83 x (i : Int) = x[i] := getD_nat x _ hlt
    have h3 := hx.2 _ (List.getElem_mem hlt)
    have h1 := hx.1
    rw [e, w64_succ hlt (by omega)]
    exact Ev.pos (by omega) (Ev.pos (by omega) (Ev.pos (by omega) (Ev.bind (laws_eqRegOp.refl (x[i].f0) (x[i].f1) (x[i].f2) (x[i].f3) (x[i].f4) (x[i].f5.f0) (x[i].f5.f1) (x[i].f5.f2) (x[i].f6) (x[i].f7) (h3.2)) (Ev.pos rfl (ih hlt)))))
  · exact Ev.neg (by omega) (Ev.now _)

theorem laws_eqRegister.refl (x0 : Int) (x1 : List (S40)) (x2 : List (S83)) (h1 : okL40 x1) (h2 : okL83 x2) : Ev (fun k => laws_eqRegister.f k x0 x1 x2 x0 x1 x2) true := by
  unfold laws_eqRegister.f
  exact (Ev.pos rfl (Ev.bind (laws_eqCopyS.refl _ h1) (Ev.pos rfl (Ev.bind (laws_eqRegOpS.refl _ h2) (Ev.pos rfl (Ev.now _))))))

theorem laws_markText.go : ∀ (n : Nat) (x : Int) (s : ByteArray), 0 ≤ x → x ≤ n → (s.size : Int) + x ≤ 9223372036854775806 → ∃ t, Ev (fun k => laws_markText.l0 k x s) t := by
  intro n
  induction n with
  | zero =>
    intro x s h0 h1 h2
    exact ⟨_, Ev.step (fun k => by rw [laws_markText.l0]) (Ev.neg (by omega) (Ev.pos (by omega) (Ev.now _)))⟩
  | succ n ih =>
    intro x s h0 h1 h2
    by_cases hx : x > 0
    · have hd : Int.tdiv x 10 = x / 10 := Int.tdiv_eq_ediv_of_nonneg h0
      have hw : wrap64 (Int.tdiv x 10) = x / 10 := by rw [hd]; unfold wrap64; omega
      have hs : ∀ y : Int, (strOfNums [y]).size = 1 := fun y => by simp [strOfNums]; rfl
      obtain ⟨t, ht⟩ := ih (x / 10) ((strOfNums [(wrap64 (48 + (Int.tmod x 10))) % 256]) ++ s) (by omega) (by omega) (by rw [ByteArray.size_append, hs]; omega)
      refine ⟨t, Ev.step (fun k => by rw [laws_markText.l0]) (Ev.pos hx ?_)⟩
      simp only [Option.bind_some]
      refine Ev.pos (by rw [hs]; omega) ?_
      rw [hw]
      exact ht
    · exact ⟨_, Ev.step (fun k => by rw [laws_markText.l0]) (Ev.neg hx (Ev.pos (by omega) (Ev.now _)))⟩
theorem laws_markText.all (x : Int) (h0 : 0 ≤ x) (h1 : x ≤ 9223372036854775806) : ∃ t, Ev (fun k => laws_markText.f k x) t := by
  by_cases hx : x ≤ 0
  · exact ⟨_, by unfold laws_markText.f; exact Ev.pos hx (Ev.now _)⟩
  · obtain ⟨t, ht⟩ := laws_markText.go x.toNat x ⟨#[]⟩ h0 (by omega) (by show ((0 : Nat) : Int) + x ≤ _; omega)
    exact ⟨t, by unfold laws_markText.f; exact Ev.neg hx ht⟩

def mc40 (x : S40) : Nat := 3
def ms40 : List S40 → Nat
  | [] => 0
  | x :: r => mc40 x + ms40 r
def mok40 (l : List S40) : Prop := ∀ x ∈ l, True
theorem laws_markCopyS.go (r : List S40) : mok40 r → ∀ (p q : List S40) (k0 : Int), 0 ≤ k0 → k0 + (ms40 r : Int) ≤ 9223372036854775807 → p.length + r.length ≤ 9223372036854775807 → q.length = p.length →
    ∃ r' : List S40, r'.length = r.length ∧ Ev (fun k => laws_markCopyS.l0 k (p ++ r) k0 (p.length : Int)) (k0 + (ms40 r : Int), p ++ r') ∧ Ev (fun k => laws_heldCopyS.l0 k (q ++ r') k0 (q.length : Int)) (k0 + (ms40 r : Int)) := by
  induction r with
  | nil =>
    intro _ p q k0 h0 h1 h2 hq
    refine ⟨[], rfl, ?_, ?_⟩
    · exact Ev.step (fun k => by rw [laws_markCopyS.l0]) (Ev.neg (by simp) (Ev.some (by simp [ms40])))
    · exact Ev.step (fun k => by rw [laws_heldCopyS.l0]) (Ev.neg (by simp) (Ev.some (by simp [ms40])))
  | cons x r ih =>
    intro hok p q k0 h0 h1 h2 hq
    have hx := hok x (List.mem_cons_self ..)
    have ih := ih (fun z hz => hok z (List.mem_cons_of_mem _ hz))
    have hms : ms40 (x :: r) = mc40 x + ms40 r := rfl
    simp only [mc40] at hms
    simp only [List.length_cons] at h2
    have e1 : wrap64 (k0 + 1) = k0 + 1 := w64 (by omega) (by omega)
    have e2 : wrap64 (k0 + 1 + 1) = k0 + 1 + 1 := w64 (by omega) (by omega)
    obtain ⟨t2, ht2⟩ := laws_markText.all (k0 + 1 + 1) (by omega) (by omega)
    have e3 : wrap64 (k0 + 1 + 1 + 1) = k0 + 1 + 1 + 1 := w64 (by omega) (by omega)
    obtain ⟨r', hr', hm, hh⟩ := ih (p ++ [(⟨k0, k0 + 1, t2⟩ : S40)]) (q ++ [(⟨k0, k0 + 1, t2⟩ : S40)]) (k0 + 1 + 1 + 1) (by omega) (by omega) (by simp; omega) (by simp [hq])
    have ep : wrap64 ((p.length : Int) + 1) = (((p ++ [(⟨k0, k0 + 1, t2⟩ : S40)]).length : Nat) : Int) := by rw [w64 (by omega) (by omega)]; simp
    have eq : wrap64 ((q.length : Int) + 1) = (((q ++ [(⟨k0, k0 + 1, t2⟩ : S40)]).length : Nat) : Int) := by rw [w64 (by omega) (by omega)]; simp
    have rdp : ∀ (y : S40) (r : List S40), rd_T40 (p ++ y :: r) (p.length : Int) = y := fun y r => by simp [rd_T40]
    have rdq : rd_T40 (q ++ (⟨k0, k0 + 1, t2⟩ : S40) :: r') (q.length : Int) = (⟨k0, k0 + 1, t2⟩ : S40) := by simp [rd_T40]
    have stp : ∀ (y z : S40) (r : List S40), (p ++ y :: r).set (p.length : Int).toNat z = p ++ z :: r := fun y z r => by simp
    refine ⟨(⟨k0, k0 + 1, t2⟩ : S40) :: r', by simp [hr'], ?_, ?_⟩
    · refine Ev.step (fun k => by rw [laws_markCopyS.l0]) (Ev.pos (by simp; omega) (Ev.pos (by omega) ?_))
      simp only [Option.bind_some, rdp, stp]
      rw [e1, e2]
      refine Ev.bind ht2 ?_
      try dsimp only
      try simp only [Option.bind_some, rdp, stp]
      rw [e3]
      rw [ep]
      have e_ : p ++ (⟨k0, k0 + 1, t2⟩ : S40) :: r = (p ++ [(⟨k0, k0 + 1, t2⟩ : S40)]) ++ r := by simp
      first | rw [e_] | (simp only [stp]; rw [e_])
      exact Ev.eq hm (by rw [Prod.mk.injEq]; exact ⟨by omega, by simp⟩)
    · refine Ev.step (fun k => by rw [laws_heldCopyS.l0]) (Ev.pos (by simp; omega) (Ev.pos (by omega) ?_))
      rw [rdq]
      refine Ev.pos rfl ?_
      try rw [e1]
      refine Ev.pos rfl ?_
      try rw [e2]
      refine Ev.bind ht2 ?_
      refine Ev.pos rfl ?_
      try rw [e3]
      rw [eq]
      have e_ : q ++ (⟨k0, k0 + 1, t2⟩ : S40) :: r' = (q ++ [(⟨k0, k0 + 1, t2⟩ : S40)]) ++ r' := by simp
      rw [e_]
      exact Ev.eq hh (by omega)
theorem laws_markCopyS.two (l : List S40) (k0 : Int) (h0 : 0 ≤ k0) (h1 : k0 + (ms40 l : Int) ≤ 9223372036854775807) (h2 : l.length ≤ 9223372036854775807) (h3 : mok40 l) : ∃ l' : List S40, l'.length = l.length ∧ Ev (fun k => laws_markCopyS.f k l k0) (k0 + (ms40 l : Int), l') ∧ Ev (fun k => laws_heldCopyS.f k l' k0) (k0 + (ms40 l : Int)) := by
  obtain ⟨l', e, h4, h5⟩ := laws_markCopyS.go l h3 [] [] k0 h0 h1 (by simpa using h2) rfl
  exact ⟨l', e, by simpa [laws_markCopyS.f] using h4, by simpa [laws_heldCopyS.f] using h5⟩

theorem laws_markRegister.two (a : Int) (c : List S40) (k0 : Int) (h0 : 0 ≤ k0) (h1 : k0 + (ms40 c : Int) ≤ 9223372036854775807) (h2 : c.length ≤ 1048576) (h3 : mok40 c) :
    ∃ m : List S40, Ev (fun k => laws_markRegister.f k a c [] k0) (k0 + (ms40 c : Int), m, []) ∧ Ev (fun k => laws_heldRegister.f k a m [] k0) (k0 + (ms40 c : Int)) := by
  obtain ⟨m, e, hm, hh⟩ := laws_markCopyS.two c k0 h0 h1 (by omega) h3
  refine ⟨m, ?_, ?_⟩
  · unfold laws_markRegister.f
    have hr : ∀ n x, laws_markRegOpS.f n [] x = some (x, []) := fun n x => rfl
    refine Ev.bind hm ?_
    simp only [hr, Option.bind_some]
    exact Ev.now _
  · unfold laws_heldRegister.f
    exact Ev.bind hh (Ev.neg (by omega) (Ev.bindS (a := k0 + (ms40 c : Int)) rfl (Ev.neg (by omega) (Ev.now _))))

theorem ms40_len (l : List S40) : ms40 l = 3 * l.length := by
  induction l with
  | nil => rfl
  | cons x r ih => simp only [ms40, mc40, List.length_cons, ih]; omega
theorem newRegP_ok (m : Int) : (newRegP m).2.1.length ≤ 12 ∧ (newRegP m).2.2.1 = [] ∧ (∀ z ∈ (newRegP m).2.1, okE40 z) := by
  unfold newRegP
  split
  · rename_i h
    have := inB_iff.1 h
    refine ⟨by simp; omega, rfl, fun z hz => ?_⟩
    rw [(List.mem_replicate.1 hz).2]
    unfold okE40 okLS z40; decide
  · exact ⟨by simp, rfl, fun z hz => by simp at hz⟩
theorem holds_ev (m : Int) : Ev (fun k => laws_FnExactNewRegister.f k m) true := by
  unfold laws_FnExactNewRegister.f
  refine Ev.bindS (spec_NewRegister.ev m) ?_
  have hI := impl_NewRegister.ev m
  obtain ⟨h1, h2, h5⟩ := newRegP_ok m
  generalize newRegP m = N at hI h1 h2 h5 ⊢
  obtain ⟨a, c, ops, ok⟩ := N
  dsimp only at h1 h2 h5 ⊢
  subst h2
  have h4 := ms40_len c
  refine Ev.bindS hI ?_
  dsimp only
  refine Ev.bind (laws_eqRegister.refl a c [] ⟨by omega, h5⟩ ⟨by simp, fun z hz => by simp at hz⟩) ?_
  obtain ⟨m0, hx, hh⟩ := laws_markRegister.two a c 1 (by omega) (by omega) (by omega) (fun _ _ => trivial)
  refine Ev.bind hx ?_
  dsimp only
  refine Ev.bind hh ?_
  exact Ev.pos ⟨rfl, rfl, rfl, by omega⟩ (Ev.now _)

end Go.Proofs.Ytipfikmbldgliaa.PNR
namespace Go.Proofs.Ytipfikmbldgliaa.PureFnExactNewRegister
open Go.RowKit Go.Proofs.Ytipfikmbldgliaa.PNR Go.Proofs.Ytipfikmbldgliaa.Base Go.Proofs.Ytipfikmbldgliaa.Open Go.Proofs.YtipfikmbldgliaaW.PrintWords Go.Proofs.YtipfikmbldgliaaW.PrintLast
theorem holds (a0 : Int) (w0 : (Lit.int .i64 a0).wf = true) : ∃ k, Go.Proofs.Ytipfikmbldgliaa.PNR.laws_FnExactNewRegister.f k a0 = some true := by
  have _h := w0
  exact (holds_ev a0).rounds
end Go.Proofs.Ytipfikmbldgliaa.PureFnExactNewRegister
