/- What this text proves: laws.FnExactNewNet, told as plain functions of numbers and lists, answers true for all arguments.
   Conditions: the bounds that the typed reading gives. -/
import Derived.Test.YtipfikmbldgliaaPNNx8
import Derived.Test.YtipfikmbldgliaaOpen
import Derived.Test.YtipfikmbldgliaaBase
namespace Go.Proofs.Ytipfikmbldgliaa.PNN
open Go.RowKit Go.Proofs.Ytipfikmbldgliaa.Base Go.Proofs.Ytipfikmbldgliaa.Open Go.Proofs.YtipfikmbldgliaaW.PrintWords Go.Proofs.YtipfikmbldgliaaW.PrintLast Go.Proofs.YtipfikmbldgliaaW.PrintMore
set_option linter.unusedVariables false
set_option linter.unusedSimpArgs false
theorem op3 : Opens Try.prog 3 (Kd.int .i64) (fun x => (Lit.int .i64 x).wf = true) := Opens.int Try.underlying3 (by kernel_rfl)
theorem op49 : Opens Try.prog 49 (Kd.slice 3 (Kd.int .i64)) (fun x => (x.length ≤ 9223372036854775807 ∧ ∀ z ∈ x, (Lit.int .i64 z).wf = true)) := Opens.slice Try.underlying49 (by kernel_rfl) op3
theorem spec_l1In.ev (n a b : Int) : spec_l1In.f n a b = some (inB n a b) := by
  unfold spec_l1In.f inB
  by_cases h : a ≤ n
  · rw [if_pos h]; simp [h]
  · rw [if_neg h]; simp [h]

/-- The pairs of a row from b on, m of them, the own one left out. -/
def rowP (a b : Nat) : Nat → List (Nat × Nat)
  | 0 => []
  | m + 1 => if a = b then rowP a (b + 1) m else (a, b) :: rowP a (b + 1) m
/-- The pairs of the rows from a on, m of them. -/
def allP (k a : Nat) : Nat → List (Nat × Nat)
  | 0 => []
  | m + 1 => rowP a 0 k ++ allP k (a + 1) m
def nbk (a : Int) : S92 := ⟨a, false, 0⟩
def nway (p : Nat × Nat) : S95 := ⟨p.1, p.2, [], false, []⟩
theorem rowP_len (a b m : Nat) : (rowP a b m).length ≤ m := by
  induction m generalizing b with
  | zero => simp [rowP]
  | succ m ih => unfold rowP; have := ih (b + 1); split <;> simp <;> omega
theorem allP_le (k : Nat) : ∀ m a, (allP k a m).length ≤ m * k := by
  intro m
  induction m with
  | zero => intro a; simp [allP]
  | succ m ih => intro a; have h1 := ih (a + 1); have h2 := rowP_len a 0 k; simp only [allP, List.length_append, Nat.succ_mul]; omega
def newB (l : List Int) : Bool := inB l.length 2 5 && l.all (fun a => inB a 0 1000000)
def newNetP (l : List Int) : List S92 × List S95 × Bool := if newB l = true then (l.map nbk, (allP l.length 0 l.length).map nway, true) else ([], [], false)
theorem spec_NewNet.row (l : List Int) (hn : l.length ≤ 5) (i : Nat) (r : List S92 × List S95 × Bool) : ∀ (m b : Nat) (bs : List S92) (ws : List S95), b + m = l.length → ws.length + m ≤ 1000 →
    Ev (fun k => spec_NewNet.l0 k l l (l.length : Int) (wrap64 ((i : Int) + 1)) bs (ws ++ (rowP i b m).map nway)) r → Ev (fun k => spec_NewNet.l1 k l (i : Int) l (l.length : Int) (i : Int) (l.length : Int) (b : Int) bs ws) r := by
  intro m
  induction m with
  | zero =>
    intro b bs ws h1 h2 h3
    refine Ev.step (fun k => by rw [spec_NewNet.l1]) (Ev.neg (by omega) ?_)
    simpa [rowP] using h3
  | succ m ih =>
    intro b bs ws h1 h2 h3
    refine Ev.step (fun k => by rw [spec_NewNet.l1]) (Ev.pos (by omega) ?_)
    have eb : wrap64 ((b : Int) + 1) = ((b + 1 : Nat) : Int) := w64_succ (n := l.length) (by omega) (by omega)
    by_cases e : i = b
    · subst e
      refine Ev.pos rfl ?_
      rw [eb]
      exact ih (i + 1) bs ws (by omega) (by omega) (by simpa [rowP] using h3)
    · refine Ev.neg (by omega) (Ev.pos (by omega) ?_)
      rw [eb]
      refine ih (b + 1) bs _ (by omega) (by simp; omega) ?_
      simpa [rowP, e, nway] using h3
theorem spec_NewNet.all (l : List Int) (hn : l.length ≤ 5) : ∀ (m i : Nat) (bs : List S92) (ws : List S95), i + m = l.length → bs.length ≤ i → ws.length ≤ 5 * i →
    Ev (fun k => spec_NewNet.l0 k l l (l.length : Int) (i : Int) bs ws) (if (l.drop i).all (fun a => inB a 0 1000000) = true then (bs ++ (l.drop i).map nbk, ws ++ (allP l.length i m).map nway, true) else ([], [], false)) := by
  intro m
  induction m with
  | zero =>
    intro i bs ws h1 h2 h3
    refine Ev.step (fun k => by rw [spec_NewNet.l0]) (Ev.neg (by omega) (Ev.some ?_))
    rw [List.drop_of_length_le (by omega)]; simp [allP]
  | succ m ih =>
    intro i bs ws h1 h2 h3
    have hlt : i < l.length := by omega
    refine Ev.step (fun k => by rw [spec_NewNet.l0]) (Ev.pos (by omega) (Ev.pos (by omega) (Ev.pos (by omega) (Ev.bindS (spec_l1In.ev _ _ _) ?_))))
    rw [rd_get hlt, List.drop_eq_getElem_cons hlt, List.all_cons]
    cases hin : inB l[i] 0 1000000 with
    | false => exact Ev.neg (by simp) (Ev.some (by simp))
    | true =>
      refine Ev.pos rfl (Ev.pos (by omega) ?_)
      refine spec_NewNet.row l hn i _ l.length 0 _ _ (by omega) (by omega) ?_
      rw [w64_succ hlt (by omega)]
      have hr : (rowP i 0 l.length).length ≤ l.length := rowP_len i 0 l.length
      refine Ev.eq (ih (i + 1) (bs ++ [nbk l[i]]) (ws ++ (rowP i 0 l.length).map nway) (by omega) (by simp; omega) (by simp; omega)) ?_
      simp only [allP, List.map_cons, List.map_append, List.append_assoc, List.cons_append, List.nil_append, Bool.true_and]
theorem spec_NewNet.ev (l : List Int) : Ev (fun k => spec_NewNet.f k l) (newNetP l) := by
  unfold spec_NewNet.f newNetP newB
  refine Ev.bindS (spec_l1In.ev _ _ _) ?_
  cases hin : inB l.length 2 5 with
  | false => exact Ev.neg (by simp) (Ev.some (by simp))
  | true =>
    have h := inB_iff.1 hin
    refine Ev.pos rfl (Ev.eq (spec_NewNet.all l (by omega) l.length 0 [] [] (by omega) (by simp) (by simp)) ?_)
    simp

def okLI (l : List Int) : Prop := l.length ≤ 1048576
def bigLI (l : List Int) : Prop := l.length ≤ 9223372036854775807
theorem laws_toIntS.ev0 (l : List Int) (hl : l.length ≤ 1048576) : Ev (fun k => laws_toIntS.f k l) l := by
  unfold laws_toIntS.f
  refine Ev.pos (by omega) (Ev.pos (by omega) ?_)
  refine Ev.eq (Ev.up (g := fun k i => laws_toIntS.l0 k l (l.take i.toNat ++ List.replicate (l.length - i.toNat) 0) i) l.length (fun _ => l) ?_) rfl
  intro i hi ih
  refine Ev.step (fun k => by rw [laws_toIntS.l0]) ?_
  by_cases hlt : i < l.length
  · refine Ev.pos (by omega) (Ev.pos (by omega) (Ev.pos (by simp; omega) ?_))
    rw [rd_get hlt, w64_succ hlt (by omega)]
    have h2 := ih hlt
    simp only [Int.toNat_natCast] at h2 ⊢
    rw [set_fill l 0 hlt]
    exact h2
  · refine Ev.neg (by omega) (Ev.some ?_)
    simp only [Int.toNat_natCast]
    have : i = l.length := by omega
    subst this
    simp
theorem laws_toIntS.ev (l : List Int) (hl : okLI l) : Ev (fun k => laws_toIntS.f k l) l := laws_toIntS.ev0 l hl

theorem impl_in.ev (n a b : Int) : impl_in.f n a b = some (inB n a b) := by
  unfold impl_in.f inB
  by_cases h : a ≤ n
  · rw [if_pos h]; simp [h]
  · rw [if_neg h]; simp [h]

theorem impl_newNet.row (l : List Int) (hn : l.length ≤ 5) (i : Nat) (r : List S92 × List S95 × Bool) : ∀ (m b : Nat) (bs : List S92) (ws : List S95), b + m = l.length → ws.length + m ≤ 1000 →
    Ev (fun k => impl_newNet.l0 k l l (l.length : Int) (wrap64 ((i : Int) + 1)) bs (ws ++ (rowP i b m).map nway)) r → Ev (fun k => impl_newNet.l1 k l (i : Int) l (l.length : Int) (i : Int) (l.length : Int) (b : Int) bs ws) r := by
  intro m
  induction m with
  | zero =>
    intro b bs ws h1 h2 h3
    refine Ev.step (fun k => by rw [impl_newNet.l1]) (Ev.neg (by omega) ?_)
    simpa [rowP] using h3
  | succ m ih =>
    intro b bs ws h1 h2 h3
    refine Ev.step (fun k => by rw [impl_newNet.l1]) (Ev.pos (by omega) ?_)
    have eb : wrap64 ((b : Int) + 1) = ((b + 1 : Nat) : Int) := w64_succ (n := l.length) (by omega) (by omega)
    by_cases e : i = b
    · subst e
      refine Ev.pos rfl ?_
      rw [eb]
      exact ih (i + 1) bs ws (by omega) (by omega) (by simpa [rowP] using h3)
    · refine Ev.neg (by omega) (Ev.pos (by omega) ?_)
      rw [eb]
      refine ih (b + 1) bs _ (by omega) (by simp; omega) ?_
      simpa [rowP, e, nway] using h3
theorem impl_newNet.all (l : List Int) (hn : l.length ≤ 5) : ∀ (m i : Nat) (bs : List S92) (ws : List S95), i + m = l.length → bs.length ≤ i → ws.length ≤ 5 * i →
    Ev (fun k => impl_newNet.l0 k l l (l.length : Int) (i : Int) bs ws) (if (l.drop i).all (fun a => inB a 0 1000000) = true then (bs ++ (l.drop i).map nbk, ws ++ (allP l.length i m).map nway, true) else ([], [], false)) := by
  intro m
  induction m with
  | zero =>
    intro i bs ws h1 h2 h3
    refine Ev.step (fun k => by rw [impl_newNet.l0]) (Ev.neg (by omega) (Ev.some ?_))
    rw [List.drop_of_length_le (by omega)]; simp [allP]
  | succ m ih =>
    intro i bs ws h1 h2 h3
    have hlt : i < l.length := by omega
    refine Ev.step (fun k => by rw [impl_newNet.l0]) (Ev.pos (by omega) (Ev.pos (by omega) (Ev.pos (by omega) (Ev.bindS (impl_in.ev _ _ _) ?_))))
    rw [rd_get hlt, List.drop_eq_getElem_cons hlt, List.all_cons]
    cases hin : inB l[i] 0 1000000 with
    | false => exact Ev.neg (by simp) (Ev.some (by simp))
    | true =>
      refine Ev.pos rfl (Ev.pos (by omega) ?_)
      refine impl_newNet.row l hn i _ l.length 0 _ _ (by omega) (by omega) ?_
      rw [w64_succ hlt (by omega)]
      have hr : (rowP i 0 l.length).length ≤ l.length := rowP_len i 0 l.length
      refine Ev.eq (ih (i + 1) (bs ++ [nbk l[i]]) (ws ++ (rowP i 0 l.length).map nway) (by omega) (by simp; omega) (by simp; omega)) ?_
      simp only [allP, List.map_cons, List.map_append, List.append_assoc, List.cons_append, List.nil_append, Bool.true_and]
theorem impl_newNet.ev (l : List Int) : Ev (fun k => impl_newNet.f k l) (newNetP l) := by
  unfold impl_newNet.f newNetP newB
  refine Ev.bindS (impl_in.ev _ _ _) ?_
  cases hin : inB l.length 2 5 with
  | false => exact Ev.neg (by simp) (Ev.some (by simp))
  | true =>
    have h := inB_iff.1 hin
    refine Ev.pos rfl (Ev.eq (impl_newNet.all l (by omega) l.length 0 [] [] (by omega) (by simp) (by simp)) ?_)
    simp

theorem impl_NewNet.ev (l : List Int) : Ev (fun k => impl_NewNet.f k l) (newNetP l) := by
  unfold impl_NewNet.f
  exact Ev.eq (Ev.bind (impl_newNet.ev l) (Ev.now _)) rfl

theorem laws_eqBank.refl (x0 : Int) (x1 : Bool) (x2 : Int) : laws_eqBank.f x0 x1 x2 x0 x1 x2 = some true := by
  unfold laws_eqBank.f; simp

def okE92 (z : S92) : Prop := True
def okL92 (l : List S92) : Prop := l.length ≤ 1048576 ∧ ∀ z ∈ l, okE92 z
def bigE92 (z : S92) : Prop := True
def bigL92 (l : List S92) : Prop := l.length ≤ 9223372036854775807 ∧ ∀ z ∈ l, bigE92 z
theorem laws_eqBankS.refl (x : List S92) (hx : okL92 x) : Ev (fun k => laws_eqBankS.f k x x) true := by
  unfold laws_eqBankS.f
  refine Ev.pos rfl (Ev.eq (Ev.up (g := fun k i => laws_eqBankS.l0 k x x i) x.length (fun _ => true) ?_) rfl)
  intro i hi ih
  refine Ev.step (fun k => by rw [laws_eqBankS.l0]) ?_
  by_cases hlt : i < x.length
  · have e : rd_T92 x (i : Int) = x[i] := getD_nat x _ hlt
    have h3 := hx.2 _ (List.getElem_mem hlt)
    have h1 := hx.1
    rw [e, w64_succ hlt (by omega)]
    exact Ev.pos (by omega) (Ev.pos (by omega) (Ev.pos (by omega) (Ev.bindS (laws_eqBank.refl (x[i].f0) (x[i].f1) (x[i].f2)) (Ev.pos rfl (ih hlt)))))
  · exact Ev.neg (by omega) (Ev.now _)

theorem laws_eqIntS.ev (x y : List Int) (hx : x.length ≤ 9223372036854775807) : Ev (fun k => laws_eqIntS.f k x y) (decide (x = y)) := by
  unfold laws_eqIntS.f
  refine Ev.cases (fun hl => ?_) (fun hl => Ev.some ?_)
  · have hl' : x.length = y.length := by omega
    refine Ev.eq (Ev.up (g := fun k i => laws_eqIntS.l0 k x y i) x.length (fun i => decide (x.drop i = y.drop i)) ?_) (by simp)
    intro i hi ih
    refine Ev.step (fun k => by rw [laws_eqIntS.l0]) ?_
    by_cases hlt : i < x.length
    · refine Ev.pos (by omega) (Ev.pos (by omega) (Ev.pos (by omega) ?_))
      rw [rd_get hlt, rd_get (by omega : i < y.length), w64_succ hlt hx]
      have e : decide (x.drop i = y.drop i) = (decide (x[i] = y[i]) && decide (x.drop (i + 1) = y.drop (i + 1))) := drop_eq_step hlt (by omega)
      rw [e]
      refine Ev.cases (fun he => ?_) (fun he => Ev.some (by rw [decide_eq_false he]; rfl))
      exact Ev.eq (ih hlt) (by rw [decide_eq_true he]; rfl)
    · refine Ev.neg (by omega) (Ev.some ?_)
      rw [List.drop_of_length_le (by omega), List.drop_of_length_le (by omega)]
      simp
  · have : x ≠ y := fun h => hl (by rw [h])
    simp [this]
theorem laws_eqIntS.refl (x : List Int) (hx : okLI x) : Ev (fun k => laws_eqIntS.f k x x) true := Ev.eq (laws_eqIntS.ev x x (by unfold okLI at hx; omega)) (by simp)

theorem laws_eqParcel.refl (x0 : Bool) (x1 : Int) : laws_eqParcel.f x0 x1 x0 x1 = some true := by
  unfold laws_eqParcel.f; simp

def okE103 (z : S103) : Prop := True
def okL103 (l : List S103) : Prop := l.length ≤ 1048576 ∧ ∀ z ∈ l, okE103 z
def bigE103 (z : S103) : Prop := True
def bigL103 (l : List S103) : Prop := l.length ≤ 9223372036854775807 ∧ ∀ z ∈ l, bigE103 z
theorem laws_eqParcelS.refl (x : List S103) (hx : okL103 x) : Ev (fun k => laws_eqParcelS.f k x x) true := by
  unfold laws_eqParcelS.f
  refine Ev.pos rfl (Ev.eq (Ev.up (g := fun k i => laws_eqParcelS.l0 k x x i) x.length (fun _ => true) ?_) rfl)
  intro i hi ih
  refine Ev.step (fun k => by rw [laws_eqParcelS.l0]) ?_
  by_cases hlt : i < x.length
  · have e : rd_T103 x (i : Int) = x[i] := getD_nat x _ hlt
    have h3 := hx.2 _ (List.getElem_mem hlt)
    have h1 := hx.1
    rw [e, w64_succ hlt (by omega)]
    exact Ev.pos (by omega) (Ev.pos (by omega) (Ev.pos (by omega) (Ev.bindS (laws_eqParcel.refl (x[i].f0) (x[i].f1)) (Ev.pos rfl (ih hlt)))))
  · exact Ev.neg (by omega) (Ev.now _)

theorem laws_eqWay.refl (x0 : Int) (x1 : Int) (x2 : List (S103)) (x3 : Bool) (x4 : List Int) (h2 : okL103 x2) (h4 : okLI x4) : Ev (fun k => laws_eqWay.f k x0 x1 x2 x3 x4 x0 x1 x2 x3 x4) true := by
  unfold laws_eqWay.f
  exact (Ev.pos rfl (Ev.pos rfl (Ev.bind (laws_eqParcelS.refl _ h2) (Ev.pos rfl (Ev.neg (by simp) (Ev.bind (laws_eqIntS.refl _ h4) (Ev.pos rfl (Ev.now _))))))))

def okE95 (z : S95) : Prop := okL103 z.f2 ∧ okLI z.f4
def okL95 (l : List S95) : Prop := l.length ≤ 1048576 ∧ ∀ z ∈ l, okE95 z
def bigE95 (z : S95) : Prop := bigL103 z.f2 ∧ bigLI z.f4
def bigL95 (l : List S95) : Prop := l.length ≤ 9223372036854775807 ∧ ∀ z ∈ l, bigE95 z
theorem laws_eqWayS.refl (x : List S95) (hx : okL95 x) : Ev (fun k => laws_eqWayS.f k x x) true := by
  unfold laws_eqWayS.f
  refine Ev.pos rfl (Ev.eq (Ev.up (g := fun k i => laws_eqWayS.l0 k x x i) x.length (fun _ => true) ?_) rfl)
  intro i hi ih
  refine Ev.step (fun k => by rw [laws_eqWayS.l0]) ?_
  by_cases hlt : i < x.length
  · have e : rd_T95 x (i : Int) = x[i] := getD_nat x _ hlt
    have h3 := hx.2 _ (List.getElem_mem hlt)
    have h1 := hx.1
    rw [e, w64_succ hlt (by omega)]
    exact Ev.pos (by omega) (Ev.pos (by omega) (Ev.pos (by omega) (Ev.bind (laws_eqWay.refl (x[i].f0) (x[i].f1) (x[i].f2) (x[i].f3) (x[i].f4) (h3.1) (h3.2)) (Ev.pos rfl (ih hlt)))))
  · exact Ev.neg (by omega) (Ev.now _)

theorem laws_eqNet.refl (x0 : List (S92)) (x1 : List (S95)) (h0 : okL92 x0) (h1 : okL95 x1) : Ev (fun k => laws_eqNet.f k x0 x1 x0 x1) true := by
  unfold laws_eqNet.f
  exact (Ev.bind (laws_eqBankS.refl _ h0) (Ev.pos rfl (Ev.bind (laws_eqWayS.refl _ h1) (Ev.pos rfl (Ev.now _)))))

theorem laws_markIntS.ev (l : List Int) (k0 : Int) (h0 : 0 ≤ k0) (h1 : k0 + l.length ≤ 9223372036854775807) : Ev (fun k => laws_markIntS.f k l k0) (k0 + l.length, marks k0 l.length) := by
  unfold laws_markIntS.f
  by_cases hb : (l.length : Int) ≤ 9223372036854775807
  · refine Ev.eq (Ev.congr (fun k => ?_) (Ev.up (g := fun k i => laws_markIntS.l0 k (marks k0 i.toNat ++ l.drop i.toNat) (k0 + i) i) l.length (fun _ => (k0 + l.length, marks k0 l.length)) ?_)) rfl
    · simp [marks]
    intro i hi ih
    refine Ev.step (fun k => by rw [laws_markIntS.l0]) ?_
    by_cases hlt : i < l.length
    · refine Ev.pos (by simp [marks_length]; omega) (Ev.pos (by omega) ?_)
      have h2 := ih hlt
      simp only [Int.toNat_natCast] at h2 ⊢
      rw [w64_succ hlt (by omega), w64 (by omega) (by omega), set_mark _ _ _ (marks_length _ _) hlt, ← marks_succ]
      refine Ev.congr (fun k => ?_) h2
      rw [show k0 + (i : Int) + 1 = k0 + ((i + 1 : Nat) : Int) by omega]
    · have : i = l.length := by omega
      subst this
      refine Ev.neg (by simp [marks_length]) (Ev.some ?_)
      simp
  · omega

def mc92 (x : S92) : Nat := 3
def ms92 : List S92 → Nat
  | [] => 0
  | x :: r => mc92 x + ms92 r
def mok92 (l : List S92) : Prop := ∀ x ∈ l, True
theorem laws_markBankS.go (r : List S92) : mok92 r → ∀ (p q : List S92) (k0 : Int), 0 ≤ k0 → k0 + (ms92 r : Int) ≤ 9223372036854775807 → p.length + r.length ≤ 9223372036854775807 → q.length = p.length →
    ∃ r' : List S92, r'.length = r.length ∧ Ev (fun k => laws_markBankS.l0 k (p ++ r) k0 (p.length : Int)) (k0 + (ms92 r : Int), p ++ r') ∧ Ev (fun k => laws_heldBankS.l0 k (q ++ r') k0 (q.length : Int)) (k0 + (ms92 r : Int)) := by
  induction r with
  | nil =>
    intro _ p q k0 h0 h1 h2 hq
    refine ⟨[], rfl, ?_, ?_⟩
    · exact Ev.step (fun k => by rw [laws_markBankS.l0]) (Ev.neg (by simp) (Ev.some (by simp [ms92])))
    · exact Ev.step (fun k => by rw [laws_heldBankS.l0]) (Ev.neg (by simp) (Ev.some (by simp [ms92])))
  | cons x r ih =>
    intro hok p q k0 h0 h1 h2 hq
    have hx := hok x (List.mem_cons_self ..)
    have ih := ih (fun z hz => hok z (List.mem_cons_of_mem _ hz))
    have hms : ms92 (x :: r) = mc92 x + ms92 r := rfl
    simp only [mc92] at hms
    simp only [List.length_cons] at h2
    have e1 : wrap64 (k0 + 1) = k0 + 1 := w64 (by omega) (by omega)
    have e2 : wrap64 (k0 + 1 + 1) = k0 + 1 + 1 := w64 (by omega) (by omega)
    have e3 : wrap64 (k0 + 1 + 1 + 1) = k0 + 1 + 1 + 1 := w64 (by omega) (by omega)
    obtain ⟨r', hr', hm, hh⟩ := ih (p ++ [(⟨k0, ((Int.tmod (k0 + 1) 3) == 0), k0 + 1 + 1⟩ : S92)]) (q ++ [(⟨k0, ((Int.tmod (k0 + 1) 3) == 0), k0 + 1 + 1⟩ : S92)]) (k0 + 1 + 1 + 1) (by omega) (by omega) (by simp; omega) (by simp [hq])
    have ep : wrap64 ((p.length : Int) + 1) = (((p ++ [(⟨k0, ((Int.tmod (k0 + 1) 3) == 0), k0 + 1 + 1⟩ : S92)]).length : Nat) : Int) := by rw [w64 (by omega) (by omega)]; simp
    have eq : wrap64 ((q.length : Int) + 1) = (((q ++ [(⟨k0, ((Int.tmod (k0 + 1) 3) == 0), k0 + 1 + 1⟩ : S92)]).length : Nat) : Int) := by rw [w64 (by omega) (by omega)]; simp
    have rdp : ∀ (y : S92) (r : List S92), rd_T92 (p ++ y :: r) (p.length : Int) = y := fun y r => by simp [rd_T92]
    have rdq : rd_T92 (q ++ (⟨k0, ((Int.tmod (k0 + 1) 3) == 0), k0 + 1 + 1⟩ : S92) :: r') (q.length : Int) = (⟨k0, ((Int.tmod (k0 + 1) 3) == 0), k0 + 1 + 1⟩ : S92) := by simp [rd_T92]
    have stp : ∀ (y z : S92) (r : List S92), (p ++ y :: r).set (p.length : Int).toNat z = p ++ z :: r := fun y z r => by simp
    refine ⟨(⟨k0, ((Int.tmod (k0 + 1) 3) == 0), k0 + 1 + 1⟩ : S92) :: r', by simp [hr'], ?_, ?_⟩
    · refine Ev.step (fun k => by rw [laws_markBankS.l0]) (Ev.pos (by simp; omega) (Ev.pos (by omega) ?_))
      simp only [Option.bind_some, rdp, stp]
      rw [e1, e2, e3, ep]
      have e_ : p ++ (⟨k0, ((Int.tmod (k0 + 1) 3) == 0), k0 + 1 + 1⟩ : S92) :: r = (p ++ [(⟨k0, ((Int.tmod (k0 + 1) 3) == 0), k0 + 1 + 1⟩ : S92)]) ++ r := by simp
      first | rw [e_] | (simp only [stp]; rw [e_])
      exact Ev.eq hm (by rw [Prod.mk.injEq]; exact ⟨by omega, by simp⟩)
    · refine Ev.step (fun k => by rw [laws_heldBankS.l0]) (Ev.pos (by simp; omega) (Ev.pos (by omega) ?_))
      rw [rdq]
      refine Ev.pos rfl ?_
      try rw [e1]
      refine Ev.neg (by simp) ?_
      try rw [e2]
      refine Ev.pos rfl ?_
      try rw [e3]
      rw [eq]
      have e_ : q ++ (⟨k0, ((Int.tmod (k0 + 1) 3) == 0), k0 + 1 + 1⟩ : S92) :: r' = (q ++ [(⟨k0, ((Int.tmod (k0 + 1) 3) == 0), k0 + 1 + 1⟩ : S92)]) ++ r' := by simp
      rw [e_]
      exact Ev.eq hh (by omega)
theorem laws_markBankS.two (l : List S92) (k0 : Int) (h0 : 0 ≤ k0) (h1 : k0 + (ms92 l : Int) ≤ 9223372036854775807) (h2 : l.length ≤ 9223372036854775807) (h3 : mok92 l) : ∃ l' : List S92, l'.length = l.length ∧ Ev (fun k => laws_markBankS.f k l k0) (k0 + (ms92 l : Int), l') ∧ Ev (fun k => laws_heldBankS.f k l' k0) (k0 + (ms92 l : Int)) := by
  obtain ⟨l', e, h4, h5⟩ := laws_markBankS.go l h3 [] [] k0 h0 h1 (by simpa using h2) rfl
  exact ⟨l', e, by simpa [laws_markBankS.f] using h4, by simpa [laws_heldBankS.f] using h5⟩

theorem laws_heldIntS.ev (n : Nat) (k0 : Int) (h0 : -9223372036854775808 ≤ k0) (h1 : k0 + n ≤ 9223372036854775807) (hn : n ≤ 9223372036854775807) : Ev (fun k => laws_heldIntS.f k (marks k0 n) k0) (k0 + n) := by
  unfold laws_heldIntS.f
  refine Ev.eq (Ev.congr (fun k => ?_) (Ev.up (g := fun k i => laws_heldIntS.l0 k (marks k0 n) (k0 + i) i) n (fun _ => k0 + (n : Int)) ?_)) rfl
  · simp
  intro i hi ih
  refine Ev.step (fun k => by rw [laws_heldIntS.l0]) ?_
  by_cases hlt : i < n
  · refine Ev.pos (by rw [marks_length]; omega) (Ev.pos (by omega) (Ev.pos (marks_get hlt) ?_))
    have h2 := ih hlt
    rw [w64_succ hlt hn, w64 (by omega) (by omega)]
    refine Ev.congr (fun k => ?_) h2
    rw [show k0 + (i : Int) + 1 = k0 + ((i + 1 : Nat) : Int) by omega]
  · have : i = n := by omega
    subst this
    exact Ev.neg (by rw [marks_length]; omega) (Ev.some rfl)
theorem laws_markIntS.two (l : List Int) (k0 : Int) (h0 : 0 ≤ k0) (h1 : k0 + (l.length : Int) ≤ 9223372036854775807) (h2 : l.length ≤ 9223372036854775807) : ∃ l' : List Int, l'.length = l.length ∧ Ev (fun k => laws_markIntS.f k l k0) (k0 + (l.length : Int), l') ∧ Ev (fun k => laws_heldIntS.f k l' k0) (k0 + (l.length : Int)) :=
  ⟨marks k0 l.length, marks_length _ _, laws_markIntS.ev l k0 h0 (by omega), laws_heldIntS.ev l.length k0 (by omega) (by omega) (by omega)⟩

def mc103 (x : S103) : Nat := 2
def ms103 : List S103 → Nat
  | [] => 0
  | x :: r => mc103 x + ms103 r
def mok103 (l : List S103) : Prop := ∀ x ∈ l, True
theorem laws_markParcelS.go (r : List S103) : mok103 r → ∀ (p q : List S103) (k0 : Int), 0 ≤ k0 → k0 + (ms103 r : Int) ≤ 9223372036854775807 → p.length + r.length ≤ 9223372036854775807 → q.length = p.length →
    ∃ r' : List S103, r'.length = r.length ∧ Ev (fun k => laws_markParcelS.l0 k (p ++ r) k0 (p.length : Int)) (k0 + (ms103 r : Int), p ++ r') ∧ Ev (fun k => laws_heldParcelS.l0 k (q ++ r') k0 (q.length : Int)) (k0 + (ms103 r : Int)) := by
  induction r with
  | nil =>
    intro _ p q k0 h0 h1 h2 hq
    refine ⟨[], rfl, ?_, ?_⟩
    · exact Ev.step (fun k => by rw [laws_markParcelS.l0]) (Ev.neg (by simp) (Ev.some (by simp [ms103])))
    · exact Ev.step (fun k => by rw [laws_heldParcelS.l0]) (Ev.neg (by simp) (Ev.some (by simp [ms103])))
  | cons x r ih =>
    intro hok p q k0 h0 h1 h2 hq
    have hx := hok x (List.mem_cons_self ..)
    have ih := ih (fun z hz => hok z (List.mem_cons_of_mem _ hz))
    have hms : ms103 (x :: r) = mc103 x + ms103 r := rfl
    simp only [mc103] at hms
    simp only [List.length_cons] at h2
    have e1 : wrap64 (k0 + 1) = k0 + 1 := w64 (by omega) (by omega)
    have e2 : wrap64 (k0 + 1 + 1) = k0 + 1 + 1 := w64 (by omega) (by omega)
    obtain ⟨r', hr', hm, hh⟩ := ih (p ++ [(⟨((Int.tmod (k0) 3) == 0), k0 + 1⟩ : S103)]) (q ++ [(⟨((Int.tmod (k0) 3) == 0), k0 + 1⟩ : S103)]) (k0 + 1 + 1) (by omega) (by omega) (by simp; omega) (by simp [hq])
    have ep : wrap64 ((p.length : Int) + 1) = (((p ++ [(⟨((Int.tmod (k0) 3) == 0), k0 + 1⟩ : S103)]).length : Nat) : Int) := by rw [w64 (by omega) (by omega)]; simp
    have eq : wrap64 ((q.length : Int) + 1) = (((q ++ [(⟨((Int.tmod (k0) 3) == 0), k0 + 1⟩ : S103)]).length : Nat) : Int) := by rw [w64 (by omega) (by omega)]; simp
    have rdp : ∀ (y : S103) (r : List S103), rd_T103 (p ++ y :: r) (p.length : Int) = y := fun y r => by simp [rd_T103]
    have rdq : rd_T103 (q ++ (⟨((Int.tmod (k0) 3) == 0), k0 + 1⟩ : S103) :: r') (q.length : Int) = (⟨((Int.tmod (k0) 3) == 0), k0 + 1⟩ : S103) := by simp [rd_T103]
    have stp : ∀ (y z : S103) (r : List S103), (p ++ y :: r).set (p.length : Int).toNat z = p ++ z :: r := fun y z r => by simp
    refine ⟨(⟨((Int.tmod (k0) 3) == 0), k0 + 1⟩ : S103) :: r', by simp [hr'], ?_, ?_⟩
    · refine Ev.step (fun k => by rw [laws_markParcelS.l0]) (Ev.pos (by simp; omega) (Ev.pos (by omega) ?_))
      simp only [Option.bind_some, rdp, stp]
      rw [e1, e2, ep]
      have e_ : p ++ (⟨((Int.tmod (k0) 3) == 0), k0 + 1⟩ : S103) :: r = (p ++ [(⟨((Int.tmod (k0) 3) == 0), k0 + 1⟩ : S103)]) ++ r := by simp
      first | rw [e_] | (simp only [stp]; rw [e_])
      exact Ev.eq hm (by rw [Prod.mk.injEq]; exact ⟨by omega, by simp⟩)
    · refine Ev.step (fun k => by rw [laws_heldParcelS.l0]) (Ev.pos (by simp; omega) (Ev.pos (by omega) ?_))
      rw [rdq]
      refine Ev.neg (by simp) ?_
      try rw [e1]
      refine Ev.pos rfl ?_
      try rw [e2]
      rw [eq]
      have e_ : q ++ (⟨((Int.tmod (k0) 3) == 0), k0 + 1⟩ : S103) :: r' = (q ++ [(⟨((Int.tmod (k0) 3) == 0), k0 + 1⟩ : S103)]) ++ r' := by simp
      rw [e_]
      exact Ev.eq hh (by omega)
theorem laws_markParcelS.two (l : List S103) (k0 : Int) (h0 : 0 ≤ k0) (h1 : k0 + (ms103 l : Int) ≤ 9223372036854775807) (h2 : l.length ≤ 9223372036854775807) (h3 : mok103 l) : ∃ l' : List S103, l'.length = l.length ∧ Ev (fun k => laws_markParcelS.f k l k0) (k0 + (ms103 l : Int), l') ∧ Ev (fun k => laws_heldParcelS.f k l' k0) (k0 + (ms103 l : Int)) := by
  obtain ⟨l', e, h4, h5⟩ := laws_markParcelS.go l h3 [] [] k0 h0 h1 (by simpa using h2) rfl
  exact ⟨l', e, by simpa [laws_markParcelS.f] using h4, by simpa [laws_heldParcelS.f] using h5⟩

def mc95 (x : S95) : Nat := 3 + ms103 (x.f2) + (x.f4).length
def ms95 : List S95 → Nat
  | [] => 0
  | x :: r => mc95 x + ms95 r
def mok95 (l : List S95) : Prop := ∀ x ∈ l, x.f2.length ≤ 1048576 ∧ mok103 x.f2 ∧ x.f4.length ≤ 1048576
theorem laws_markWayS.go (r : List S95) : mok95 r → ∀ (p q : List S95) (k0 : Int), 0 ≤ k0 → k0 + (ms95 r : Int) ≤ 9223372036854775807 → p.length + r.length ≤ 9223372036854775807 → q.length = p.length →
    ∃ r' : List S95, r'.length = r.length ∧ Ev (fun k => laws_markWayS.l0 k (p ++ r) k0 (p.length : Int)) (k0 + (ms95 r : Int), p ++ r') ∧ Ev (fun k => laws_heldWayS.l0 k (q ++ r') k0 (q.length : Int)) (k0 + (ms95 r : Int)) := by
  induction r with
  | nil =>
    intro _ p q k0 h0 h1 h2 hq
    refine ⟨[], rfl, ?_, ?_⟩
    · exact Ev.step (fun k => by rw [laws_markWayS.l0]) (Ev.neg (by simp) (Ev.some (by simp [ms95])))
    · exact Ev.step (fun k => by rw [laws_heldWayS.l0]) (Ev.neg (by simp) (Ev.some (by simp [ms95])))
  | cons x r ih =>
    intro hok p q k0 h0 h1 h2 hq
    have hx := hok x (List.mem_cons_self ..)
    have ih := ih (fun z hz => hok z (List.mem_cons_of_mem _ hz))
    have hms : ms95 (x :: r) = mc95 x + ms95 r := rfl
    simp only [mc95] at hms
    simp only [List.length_cons] at h2
    obtain ⟨hx2, hy2, hx4⟩ := hx
    have e1 : wrap64 (k0 + 1) = k0 + 1 := w64 (by omega) (by omega)
    have e2 : wrap64 (k0 + 1 + 1) = k0 + 1 + 1 := w64 (by omega) (by omega)
    obtain ⟨l2, hl2, hm2, hh2⟩ := laws_markParcelS.two x.f2 (k0 + 1 + 1) (by omega) (by omega) (by omega) hy2
    have e3 : wrap64 (k0 + 1 + 1 + (ms103 (x.f2) : Int) + 1) = k0 + 1 + 1 + (ms103 (x.f2) : Int) + 1 := w64 (by omega) (by omega)
    obtain ⟨l4, hl4, hm4, hh4⟩ := laws_markIntS.two x.f4 (k0 + 1 + 1 + (ms103 (x.f2) : Int) + 1) (by omega) (by omega) (by omega)
    obtain ⟨r', hr', hm, hh⟩ := ih (p ++ [(⟨k0, k0 + 1, l2, ((Int.tmod (k0 + 1 + 1 + (ms103 (x.f2) : Int)) 3) == 0), l4⟩ : S95)]) (q ++ [(⟨k0, k0 + 1, l2, ((Int.tmod (k0 + 1 + 1 + (ms103 (x.f2) : Int)) 3) == 0), l4⟩ : S95)]) (k0 + 1 + 1 + (ms103 (x.f2) : Int) + 1 + ((x.f4).length : Int)) (by omega) (by omega) (by simp; omega) (by simp [hq])
    have ep : wrap64 ((p.length : Int) + 1) = (((p ++ [(⟨k0, k0 + 1, l2, ((Int.tmod (k0 + 1 + 1 + (ms103 (x.f2) : Int)) 3) == 0), l4⟩ : S95)]).length : Nat) : Int) := by rw [w64 (by omega) (by omega)]; simp
    have eq : wrap64 ((q.length : Int) + 1) = (((q ++ [(⟨k0, k0 + 1, l2, ((Int.tmod (k0 + 1 + 1 + (ms103 (x.f2) : Int)) 3) == 0), l4⟩ : S95)]).length : Nat) : Int) := by rw [w64 (by omega) (by omega)]; simp
    have rdp : ∀ (y : S95) (r : List S95), rd_T95 (p ++ y :: r) (p.length : Int) = y := fun y r => by simp [rd_T95]
    have rdq : rd_T95 (q ++ (⟨k0, k0 + 1, l2, ((Int.tmod (k0 + 1 + 1 + (ms103 (x.f2) : Int)) 3) == 0), l4⟩ : S95) :: r') (q.length : Int) = (⟨k0, k0 + 1, l2, ((Int.tmod (k0 + 1 + 1 + (ms103 (x.f2) : Int)) 3) == 0), l4⟩ : S95) := by simp [rd_T95]
    have stp : ∀ (y z : S95) (r : List S95), (p ++ y :: r).set (p.length : Int).toNat z = p ++ z :: r := fun y z r => by simp
    refine ⟨(⟨k0, k0 + 1, l2, ((Int.tmod (k0 + 1 + 1 + (ms103 (x.f2) : Int)) 3) == 0), l4⟩ : S95) :: r', by simp [hr'], ?_, ?_⟩
    · refine Ev.step (fun k => by rw [laws_markWayS.l0]) (Ev.pos (by simp; omega) (Ev.pos (by omega) ?_))
      simp only [Option.bind_some, rdp, stp]
      rw [e1, e2]
      refine Ev.bind hm2 ?_
      dsimp only
      rw [e3]
      refine Ev.bind hm4 ?_
      dsimp only
      rw [ep]
      have e_ : p ++ (⟨k0, k0 + 1, l2, ((Int.tmod (k0 + 1 + 1 + (ms103 (x.f2) : Int)) 3) == 0), l4⟩ : S95) :: r = (p ++ [(⟨k0, k0 + 1, l2, ((Int.tmod (k0 + 1 + 1 + (ms103 (x.f2) : Int)) 3) == 0), l4⟩ : S95)]) ++ r := by simp
      first | rw [e_] | (simp only [stp]; rw [e_])
      exact Ev.eq hm (by rw [Prod.mk.injEq]; exact ⟨by omega, by simp⟩)
    · refine Ev.step (fun k => by rw [laws_heldWayS.l0]) (Ev.pos (by simp; omega) (Ev.pos (by omega) ?_))
      rw [rdq]
      refine Ev.pos rfl ?_
      try rw [e1]
      refine Ev.pos rfl ?_
      try rw [e2]
      refine Ev.bind hh2 (Ev.neg (by omega) ?_)
      refine Ev.neg (by simp) ?_
      try rw [e3]
      refine Ev.bind hh4 (Ev.neg (by omega) ?_)
      rw [eq]
      have e_ : q ++ (⟨k0, k0 + 1, l2, ((Int.tmod (k0 + 1 + 1 + (ms103 (x.f2) : Int)) 3) == 0), l4⟩ : S95) :: r' = (q ++ [(⟨k0, k0 + 1, l2, ((Int.tmod (k0 + 1 + 1 + (ms103 (x.f2) : Int)) 3) == 0), l4⟩ : S95)]) ++ r' := by simp
      rw [e_]
      exact Ev.eq hh (by omega)
theorem laws_markWayS.two (l : List S95) (k0 : Int) (h0 : 0 ≤ k0) (h1 : k0 + (ms95 l : Int) ≤ 9223372036854775807) (h2 : l.length ≤ 9223372036854775807) (h3 : mok95 l) : ∃ l' : List S95, l'.length = l.length ∧ Ev (fun k => laws_markWayS.f k l k0) (k0 + (ms95 l : Int), l') ∧ Ev (fun k => laws_heldWayS.f k l' k0) (k0 + (ms95 l : Int)) := by
  obtain ⟨l', e, h4, h5⟩ := laws_markWayS.go l h3 [] [] k0 h0 h1 (by simpa using h2) rfl
  exact ⟨l', e, by simpa [laws_markWayS.f] using h4, by simpa [laws_heldWayS.f] using h5⟩

theorem laws_markNet.two (l0 : List S92) (l1 : List S95) (k0 : Int) (h0 : 0 ≤ k0) (h1 : k0 + (ms92 (l0) : Int) + (ms95 (l1) : Int) ≤ 9223372036854775807) (hl0 : l0.length ≤ 9223372036854775807) (ho0 : mok92 l0) (hl1 : l1.length ≤ 9223372036854775807) (ho1 : mok95 l1) : ∃ (m0 : List S92) (m1 : List S95), Ev (fun k => laws_markNet.f k l0 l1 k0) (k0 + (ms92 (l0) : Int) + (ms95 (l1) : Int), m0, m1) ∧ Ev (fun k => laws_heldNet.f k m0 m1 k0) (k0 + (ms92 (l0) : Int) + (ms95 (l1) : Int)) := by
  obtain ⟨m0, e0, hm0, hh0⟩ := laws_markBankS.two l0 (k0) (by omega) (by omega) hl0 ho0
  obtain ⟨m1, e1, hm1, hh1⟩ := laws_markWayS.two l1 (k0 + (ms92 (l0) : Int)) (by omega) (by omega) hl1 ho1
  refine ⟨m0, m1, ?_, ?_⟩
  · unfold laws_markNet.f
    exact Ev.bind hm0 (Ev.bind hm1 (Ev.now _))
  · unfold laws_heldNet.f
    exact Ev.bind hh0 (Ev.neg (by omega) (Ev.bind hh1 (Ev.neg (by omega) (Ev.now _))))

theorem ms92_len (l : List S92) : ms92 l = 3 * l.length := by
  induction l with
  | nil => rfl
  | cons x r ih => simp only [ms92, mc92, List.length_cons, ih]; omega
theorem ways_bare (ws : List S95) (h : ∀ w ∈ ws, w.f2 = [] ∧ w.f4 = []) : ms95 ws = 3 * ws.length ∧ mok95 ws ∧ (∀ w ∈ ws, okE95 w) := by
  refine ⟨?_, fun w hw => ?_, fun w hw => ?_⟩
  · induction ws with
    | nil => rfl
    | cons x r ih =>
      obtain ⟨e2, e4⟩ := h x (List.mem_cons_self ..)
      have := ih (fun w hw => h w (List.mem_cons_of_mem _ hw))
      simp only [ms95, mc95, List.length_cons, this, e2, e4, ms103, List.length_nil]; omega
  · obtain ⟨e2, e4⟩ := h w hw
    rw [e2, e4]; exact ⟨by simp, fun z hz => by simp at hz, by simp⟩
  · obtain ⟨e2, e4⟩ := h w hw
    unfold okE95 okL103 okLI; rw [e2, e4]; simp
theorem newNetP_ok (l : List Int) : (newNetP l).1.length ≤ 5 ∧ (newNetP l).2.1.length ≤ 25 ∧ (∀ w ∈ (newNetP l).2.1, w.f2 = [] ∧ w.f4 = []) := by
  unfold newNetP
  split
  · rename_i h
    have hn : l.length ≤ 5 := by
      unfold newB at h
      have := inB_iff.1 (Bool.and_eq_true_iff.1 h).1
      omega
    refine ⟨by simpa using hn, ?_, fun w hw => ?_⟩
    · have := allP_le l.length l.length 0
      have h2 : l.length * l.length ≤ 5 * 5 := Nat.mul_le_mul hn hn
      simp; omega
    · simp only [List.mem_map] at hw
      obtain ⟨p, _, rfl⟩ := hw
      exact ⟨rfl, rfl⟩
  · exact ⟨by simp, by simp, fun w hw => by simp at hw⟩
theorem holds_ev (l : List Int) : Ev (fun k => laws_FnExactNewNet.f k l) true := by
  unfold laws_FnExactNewNet.f
  refine Ev.cases (fun h => Ev.some rfl) (fun h => ?_)
  refine Ev.bind (laws_toIntS.ev l (by unfold okLI; omega)) ?_
  refine Ev.bind (spec_NewNet.ev l) ?_
  have hI := impl_NewNet.ev l
  obtain ⟨h1, h2, h3⟩ := newNetP_ok l
  generalize newNetP l = N at hI h1 h2 h3 ⊢
  obtain ⟨b, ws, ok⟩ := N
  dsimp only at h1 h2 h3 ⊢
  obtain ⟨w1, w2, w3⟩ := ways_bare ws h3
  have b1 := ms92_len b
  refine Ev.bind hI ?_
  dsimp only
  refine Ev.bind (laws_eqNet.refl b ws ⟨by omega, fun _ _ => trivial⟩ ⟨by omega, w3⟩) ?_
  refine Ev.bind (laws_eqIntS.refl l (by unfold okLI; omega)) ?_
  obtain ⟨tm, _, hm, _⟩ := laws_markIntS.two l 1 (by omega) (by omega) (by omega)
  refine Ev.bind hm ?_
  dsimp only
  obtain ⟨m0, m1, hx, hh⟩ := laws_markNet.two b ws 1 (by omega) (by omega) (by omega) (fun _ _ => trivial) (by omega) w2
  refine Ev.bind hx ?_
  dsimp only
  refine Ev.bind hh ?_
  exact Ev.pos ⟨rfl, rfl, rfl, by omega, rfl, by omega⟩ (Ev.now _)

end Go.Proofs.Ytipfikmbldgliaa.PNN
namespace Go.Proofs.Ytipfikmbldgliaa.PureFnExactNewNet
open Go.RowKit Go.Proofs.Ytipfikmbldgliaa.PNN Go.Proofs.Ytipfikmbldgliaa.Base Go.Proofs.Ytipfikmbldgliaa.Open Go.Proofs.YtipfikmbldgliaaW.PrintWords Go.Proofs.YtipfikmbldgliaaW.PrintLast
theorem holds (l0 : List Int) (w0 : (l0.length ≤ 9223372036854775807 ∧ ∀ z ∈ l0, (Lit.int .i64 z).wf = true)) : ∃ k, Go.Proofs.Ytipfikmbldgliaa.PNN.laws_FnExactNewNet.f k l0 = some true := by
  have _h := w0
  exact (holds_ev l0).rounds
end Go.Proofs.Ytipfikmbldgliaa.PureFnExactNewNet
