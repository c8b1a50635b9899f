/- What this text proves: small laws on functions with a number of rounds (a loop upwards, a branch), on 64-bit sums without overflow and on lists that are read by number.
   Conditions: as each law says. -/
import Derived.Test.YtdnapgnnliibfaaWMore
namespace Go.Proofs.Ytdnapgnnliibfaa.Base
open Go.RowKit Go.Proofs.YtdnapgnnliibfaaW.PrintWords Go.Proofs.YtdnapgnnliibfaaW.PrintLast
set_option linter.unusedVariables false

theorem Ev.pos {α : Type} {c : Prop} [Decidable c] {f g : Nat → Option α} {r : α} (h : c) (k : Ev f r) : Ev (fun n => if c then f n else g n) r := by
  simp only [if_pos h]; exact k
theorem Ev.neg {α : Type} {c : Prop} [Decidable c] {f g : Nat → Option α} {r : α} (h : ¬ c) (k : Ev g r) : Ev (fun n => if c then f n else g n) r := by
  simp only [if_neg h]; exact k
theorem Ev.cases {α : Type} {c : Prop} [Decidable c] {f g : Nat → Option α} {r : α} (h1 : c → Ev f r) (h2 : ¬ c → Ev g r) : Ev (fun n => if c then f n else g n) r := by
  by_cases h : c
  · exact Ev.pos h (h1 h)
  · exact Ev.neg h (h2 h)
theorem Ev.some {α : Type} {r q : α} (h : q = r) : Ev (fun _ => Option.some q) r := by subst h; exact Ev.now _
theorem Ev.val {α : Type} {o : Option α} {r : α} (h : o = Option.some r) : Ev (fun _ => o) r := by rw [h]; exact Ev.now _
theorem Ev.eq {α : Type} {f : Nat → Option α} {r q : α} (h : Ev f q) (e : q = r) : Ev f r := e ▸ h
theorem Ev.bindS {α β : Type} {o : Option α} {a : α} {f : Nat → α → Option β} {r : β} (h : o = Option.some a) (k : Ev (fun n => f n a) r) : Ev (fun n => o.bind (f n)) r := by
  rw [h]; exact k
/-- A test that asks whether a function answers so. -/
theorem Ev.iff {α β : Type} [DecidableEq α] {g : Nat → Option α} {a : α} {f : Nat → Option β} {r : β} (h : Ev g a) (k : Ev f r) : Ev (fun n => if g n = Option.some a then f n else none) r := by
  obtain ⟨K, hK⟩ := h
  obtain ⟨K2, hK2⟩ := k
  exact ⟨max K K2, fun n hn => by show (if g n = Option.some a then f n else none) = Option.some r; rw [if_pos (hK n (by omega))]; exact hK2 n (by omega)⟩
/-- A loop that counts up to n. -/
theorem Ev.up {α : Type} {g : Nat → Int → Option α} (n : Nat) (r : Nat → α) (h : ∀ i : Nat, i ≤ n → (i < n → Ev (fun k => g k ((i + 1 : Nat) : Int)) (r (i + 1))) → Ev (fun k => g k (i : Int)) (r i)) : Ev (fun k => g k 0) (r 0) := by
  have key : ∀ d i : Nat, i + d = n → Ev (fun k => g k (i : Int)) (r i) := by
    intro d
    induction d with
    | zero => exact fun i hi => h i (by omega) (fun hlt => by omega)
    | succ d ih => exact fun i hi => h i (by omega) (fun _ => ih (i + 1) (by omega))
  exact key n 0 (by omega)
/-- A loop with a state, by a measure. -/
theorem Ev.wf {σ α : Type} {g : Nat → σ → Option α} (I : σ → Prop) (m : σ → Nat) (r : σ → α) (h : ∀ s, I s → (∀ s', I s' → m s' < m s → Ev (fun k => g k s') (r s')) → Ev (fun k => g k s) (r s)) : ∀ s, I s → Ev (fun k => g k s) (r s) := by
  have key : ∀ d s, m s = d → I s → Ev (fun k => g k s) (r s) := by
    intro d
    induction d using Nat.strongRecOn with
    | _ d ih => exact fun s hd hI => h s hI (fun s' hI' hlt => ih (m s') (by omega) s' rfl hI')
  exact fun s hI => key _ s rfl hI
theorem w64 {x : Int} (h0 : -9223372036854775808 ≤ x) (h1 : x ≤ 9223372036854775807) : wrap64 x = x := by unfold wrap64; omega
theorem w64_succ {i n : Nat} (h : i < n) (hn : n ≤ 9223372036854775807) : wrap64 ((i : Int) + 1) = ((i + 1 : Nat) : Int) := by unfold wrap64; omega
theorem wf64 {x : Int} (h : (Lit.int .i64 x).wf = true) : -9223372036854775808 ≤ x ∧ x ≤ 9223372036854775807 := by
  have h' : IntKind.i64.min ≤ x ∧ x ≤ IntKind.i64.max := by simpa [Lit.wf] using h
  exact h'
theorem rd_nat (xs : List Int) (i : Nat) : rd xs (i : Int) = xs.getD i 0 := by simp [rd]
theorem rd_get {xs : List Int} {i : Nat} (h : i < xs.length) : rd xs (i : Int) = xs[i] := by simp [rd, h]
theorem all_take_succ {α : Type} (l : List α) (p : α → Bool) {i : Nat} (h : i < l.length) : (l.drop i).all p = (p l[i] && (l.drop (i + 1)).all p) := by
  rw [List.drop_eq_getElem_cons h, List.all_cons]
theorem take_snoc {α : Type} (l : List α) {i : Nat} (h : i < l.length) : l.take (i + 1) = l.take i ++ [l[i]] := by
  rw [List.take_succ_eq_append_getElem h]
theorem drop_eq_step {α : Type} [DecidableEq α] {x y : List α} {i : Nat} (h : i < x.length) (h' : i < y.length) : decide (x.drop i = y.drop i) = (decide (x[i] = y[i]) && decide (x.drop (i + 1) = y.drop (i + 1))) := by
  have e1 : x.drop i = x[i] :: x.drop (i + 1) := List.drop_eq_getElem_cons h
  have e2 : y.drop i = y[i] :: y.drop (i + 1) := List.drop_eq_getElem_cons h'
  rw [e1, e2, ← Bool.decide_and]
  exact decide_eq_decide.2 (by rw [List.cons.injEq])
/-- The list behind a loop that fills a new row from the left. -/
theorem set_fill {α : Type} (l : List α) (z : α) {i : Nat} (h : i < l.length) : (l.take i ++ List.replicate (l.length - i) z).set i l[i] = l.take (i + 1) ++ List.replicate (l.length - (i + 1)) z := by
  have e : List.replicate (l.length - i) z = z :: List.replicate (l.length - (i + 1)) z := by
    rw [show l.length - i = (l.length - (i + 1)) + 1 by omega, List.replicate_succ]
  rw [take_snoc l h, e, List.set_append_right _ _ (by simp; omega), List.append_assoc]
  simp [Nat.min_eq_left (Nat.le_of_lt h)]
/-- .. each element turned by c. -/
theorem set_fillM {α β : Type} (c : α → β) (l : List α) (z : β) {i : Nat} (h : i < l.length) : ((l.take i).map c ++ List.replicate (l.length - i) z).set i (c l[i]) = (l.take (i + 1)).map c ++ List.replicate (l.length - (i + 1)) z := by
  have e : List.replicate (l.length - i) z = z :: List.replicate (l.length - (i + 1)) z := by
    rw [show l.length - i = (l.length - (i + 1)) + 1 by omega, List.replicate_succ]
  rw [take_snoc l h, e, List.set_append_right _ _ (by simp; omega), List.map_append, List.append_assoc]
  simp [Nat.min_eq_left (Nat.le_of_lt h)]
theorem fill_len {α β : Type} (c : α → β) (l : List α) (z : β) (i : Nat) (h : i ≤ l.length) : ((l.take i).map c ++ List.replicate (l.length - i) z).length = l.length := by
  simp; omega
theorem fill_end {α β : Type} (c : α → β) (l : List α) (z : β) : (l.take l.length).map c ++ List.replicate (l.length - l.length) z = l.map c := by simp
theorem getD_nat {α : Type} (xs : List α) (z : α) {i : Nat} (h : i < xs.length) : xs.getD (i : Int).toNat z = xs[i] := by simp [h]
/-- The numbers from k0 on, n of them. -/
def marks (k0 : Int) (n : Nat) : List Int := (List.range n).map (fun j : Nat => k0 + (j : Int))
theorem marks_length (k0 : Int) (n : Nat) : (marks k0 n).length = n := by simp [marks]
theorem marks_succ (k0 : Int) (n : Nat) : marks k0 (n + 1) = marks k0 n ++ [k0 + (n : Int)] := by simp [marks, List.range_succ]
theorem marks_get {k0 : Int} {n i : Nat} (h : i < n) : rd (marks k0 n) (i : Int) = k0 + (i : Int) := by simp [rd, marks, h]
theorem set_mark {α : Type} (p l : List α) (v : α) {i : Nat} (hp : p.length = i) (h : i < l.length) : (p ++ l.drop i).set i v = (p ++ [v]) ++ l.drop (i + 1) := by
  have e : l.drop i = l[i] :: l.drop (i + 1) := List.drop_eq_getElem_cons h
  rw [e, List.set_append_right _ _ (by omega), hp, Nat.sub_self, List.set_cons_zero, List.append_assoc]
  rfl
/-- All numbers from i on, below n. -/
def allFrom (P : Nat → Bool) (n i : Nat) : Bool := (List.range' i (n - i)).all P
theorem allFrom_step {P : Nat → Bool} {n i : Nat} (h : i < n) : allFrom P n i = (P i && allFrom P n (i + 1)) := by
  unfold allFrom
  rw [show n - i = (n - (i + 1)) + 1 by omega, List.range'_succ]; simp
theorem allFrom_end {P : Nat → Bool} {n : Nat} : allFrom P n n = true := by unfold allFrom; simp
theorem allFrom_congr {P Q : Nat → Bool} {n i : Nat} (h : ∀ j, i ≤ j → j < n → P j = Q j) : allFrom P n i = allFrom Q n i := by
  unfold allFrom
  rw [Bool.eq_iff_iff]
  simp only [List.all_eq_true, List.mem_range'_1]
  constructor
  · intro h1 j hj; rw [← h j (by omega) (by omega)]; exact h1 j hj
  · intro h1 j hj; rw [h j (by omega) (by omega)]; exact h1 j hj
theorem allFrom_iff {P : Nat → Bool} {n i : Nat} : allFrom P n i = true ↔ ∀ j, i ≤ j → j < n → P j = true := by
  unfold allFrom
  simp only [List.all_eq_true, List.mem_range'_1]
  constructor
  · intro h j h1 h2; exact h j ⟨h1, by omega⟩
  · intro h j hj; exact h j hj.1 (by omega)
/-- The sum of the first n numbers of a row. -/
def sumTo (f : Nat → Int) : Nat → Int
  | 0 => 0
  | n + 1 => sumTo f n + f n
theorem sumTo_bound {f : Nat → Int} {B : Int} (h0 : 0 ≤ B) {n : Nat} (h : ∀ i, i < n → 0 ≤ f i ∧ f i ≤ B) : 0 ≤ sumTo f n ∧ sumTo f n ≤ B * n := by
  induction n with
  | zero => simp [sumTo]
  | succ n ih =>
    have h1 := ih (fun i hi => h i (by omega))
    have h2 := h n (by omega)
    have h3 : B * ((n + 1 : Nat) : Int) = B * n + B := by rw [Int.natCast_add, Int.mul_add]; simp
    simp only [sumTo]
    omega
theorem sumTo_congr {f g : Nat → Int} {n : Nat} (h : ∀ i, i < n → f i = g i) : sumTo f n = sumTo g n := by
  induction n with
  | zero => rfl
  | succ n ih => simp only [sumTo]; rw [ih (fun i hi => h i (by omega)), h n (by omega)]
def inB (n a b : Int) : Bool := decide (a ≤ n) && decide (n ≤ b)
theorem inB_iff {n a b : Int} : inB n a b = true ↔ a ≤ n ∧ n ≤ b := by simp [inB]
theorem inB_not {n a b : Int} : inB n a b = false ↔ ¬ (a ≤ n ∧ n ≤ b) := by rw [← inB_iff]; simp
end Go.Proofs.Ytdnapgnnliibfaa.Base
