/- What this text proves: a value that reads as data (the claim's typed reading) is of the printed kind of its type: whole numbers, bools, texts, slices and structs nested in each other.
   Conditions: the types' shapes and sizes, as the loaded program tells them. -/
import Derived.Test.YtdnapgnnliibfaaWMore
import Derived.ChangeArms
import Derived.ChangeSlices
import Derived.WideShapes
import Derived.OpenShut
import Derived.SizedLaws
namespace Go.Proofs.Ytdnapgnnliibfaa.Open
open Go.ChangeShapes Go.WideShapes Go.Proofs.YtdnapgnnliibfaaW.PrintWords
set_option linter.unusedVariables false

/-- Each reading of a value of type t is of the kind d, and what it tells satisfies wf. -/
structure Opens {α : Type} (P : Program) (t : TypeId) (d : Kd α) (wf : α → Prop) : Prop where
  sz : P.cellsOf t = d.sz
  op : ∀ {H : Type} (enc : TypeId × Value → H) (W : World) (base : Nat) (spare : Nat → Bool) (held : Bool) (fuel : Nat) (cs : List Value) (x : DataW H × List MemPlace),
    DataW.trod enc P W base spare held fuel t cs = some x → ∃ a, d.K W a cs ∧ wf a

/-- Fields that lie one behind the other, from a place on. -/
def Fits {α : Type} (P : Program) (fs : List Field) (off : Nat) (d : Kd α) (wf : α → Prop) : Prop :=
  ∀ {H : Type} (enc : TypeId × Value → H) (W : World) (base : Nat) (spare : Nat → Bool) (held : Bool) (fuel : Nat) (cs : List Value),
    (∀ f ∈ fs, ∃ x, DataW.trod enc P W base spare held fuel f.type ((cs.drop f.offset).take (P.cellsOf f.type)) = some x) → ∃ a, d.K W a ((cs.drop off).take d.sz) ∧ wf a

section
variable {P : Program} {t e : TypeId}

theorem Opens.int {k : IntKind} (ht : P.underlying t = some (.int k)) (hc : P.cellsOf t = 1) : Opens P t (Kd.int k) (fun a => (Lit.int k a).wf = true) where
  sz := hc
  op := fun enc W base spare held fuel cs x h => by
    obtain ⟨n, rfl, _, hw⟩ := DataW.trod_int ht h
    exact ⟨n, rfl, hw⟩

theorem Opens.bool (ht : P.underlying t = some .bool) (hc : P.cellsOf t = 1) : Opens P t Kd.bool (fun _ => True) where
  sz := hc
  op := fun enc W base spare held fuel cs x h => by
    obtain ⟨b, rfl, _⟩ := DataW.trod_bool ht h
    exact ⟨b, rfl, trivial⟩

theorem Opens.string (ht : P.underlying t = some .string) (hc : P.cellsOf t = 1) : Opens P t Kd.string (fun s => s.size ≤ 9223372036854775807) where
  sz := hc
  op := fun enc W base spare held fuel cs x h => by
    obtain ⟨s, rfl, _, hs⟩ := DataW.trod_string ht h
    exact ⟨s, rfl, hs⟩

theorem list_of_each {α : Type} {Q : Nat → α → Prop} : ∀ n : Nat, (∀ i, i < n → ∃ a, Q i a) → ∃ xs : List α, xs.length = n ∧ ∀ i a, xs[i]? = some a → Q i a
  | 0, _ => ⟨[], rfl, fun i a h => by simp at h⟩
  | n + 1, h => by
    obtain ⟨xs, hl, hx⟩ := list_of_each n (fun i hi => h i (by omega))
    obtain ⟨a, ha⟩ := h n (by omega)
    refine ⟨xs ++ [a], by simp [hl], fun i b hb => ?_⟩
    rcases Nat.lt_or_ge i n with hi | hi
    · rw [List.getElem?_append_left (by omega)] at hb
      exact hx i b hb
    · have hlt := (List.getElem?_eq_some_iff.1 hb).1
      have : i = n := by simp [hl] at hlt; omega
      subst this
      rw [List.getElem?_append_right (by omega), hl] at hb
      simp at hb
      subst hb
      exact ha

theorem addr_add_add (a : Addr) (i j : Nat) : (a.add i).add j = a.add (i + j) := by
  unfold Addr.add
  by_cases hi : i = 0
  · subst hi; simp
  · by_cases hj : j = 0
    · subst hj; simp
    · rw [if_neg hj, if_neg hi, if_neg (by omega)]; simp [Nat.add_assoc]

theorem Opens.slice {α : Type} {d : Kd α} {wf : α → Prop} (ht : P.underlying t = some (.slice e)) (hc : P.cellsOf t = 1) (he : Opens P e d wf) :
    Opens P t (Kd.slice e d) (fun xs => xs.length ≤ 9223372036854775807 ∧ ∀ x ∈ xs, wf x) where
  sz := hc
  op := fun enc W base spare held fuel cs x h => by
    rcases DataW.trod_slice ht h with ⟨rfl, _⟩ | ⟨a, len, cap, elems, rest, n, _, rfl, _, hb, hl, hm, hlen, hel, _, _⟩
    · exact ⟨[], ⟨none, 0, rfl, Nat.le_refl _, ⟨rfl, by simp, fun h => absurd h (by simp)⟩⟩, by simp, fun x hx => by simp at hx⟩
    · have hm' : cap ≤ 9223372036854775807 := hm
      obtain ⟨xs, hxl, hx⟩ := list_of_each (Q := fun i a' => (∃ c, c.length = d.sz ∧ d.K W a' c ∧ ∀ j u, c[j]? = some u → W.cell? (a.add (i * d.sz + j)) = some u) ∧ wf a') len (fun i hi => by
        have h1 := hel i hi
        rw [List.getElem?_eq_getElem (by omega), Option.bind_eq_some_iff] at h1
        obtain ⟨c, hcs, hy⟩ := h1
        obtain ⟨a', hK, hw⟩ := he.op enc W base spare held n c _ hy
        obtain ⟨_, hcl, hcc⟩ := World.cells?_some hcs
        rw [he.sz] at hcl hcc
        refine ⟨a', ⟨c, hcl, hK, fun j u hu => ?_⟩, hw⟩
        have hj := (List.getElem?_eq_some_iff.1 hu).1
        rw [← addr_add_add, hcc j (by omega)]
        exact hu)
      refine ⟨xs, ⟨some a, cap, by rw [hxl], by omega, ⟨rfl, by omega, fun _ => ⟨a, rfl, fun j p hj => (hx j p hj).1⟩⟩⟩, by omega, fun y hy => ?_⟩
      obtain ⟨i, hi⟩ := List.getElem?_of_mem hy
      exact (hx i y hi).2

theorem Fits.one {α : Type} {d : Kd α} {wf : α → Prop} {f : Field} {off : Nat} (ho : f.offset = off) (hf : Opens P f.type d wf) : Fits P [f] off d wf := by
  intro H enc W base spare held fuel cs h
  obtain ⟨x, hx⟩ := h f (List.mem_singleton.2 rfl)
  rw [ho, hf.sz] at hx
  exact hf.op enc W base spare held fuel _ x hx

theorem Fits.cons {α β : Type} {d : Kd α} {d' : Kd β} {wf : α → Prop} {wf' : β → Prop} {f : Field} {fs : List Field} {off : Nat} (ho : f.offset = off) (hf : Opens P f.type d wf) (hfs : Fits P fs (off + d.sz) d' wf') :
    Fits P (f :: fs) off (Kd.pair d d') (fun p => wf p.1 ∧ wf' p.2) := by
  intro H enc W base spare held fuel cs h
  obtain ⟨x, hx⟩ := h f (List.mem_cons_self ..)
  rw [ho, hf.sz] at hx
  obtain ⟨a, hK, hw⟩ := hf.op enc W base spare held fuel _ x hx
  obtain ⟨b, hK', hw'⟩ := hfs enc W base spare held fuel cs (fun g hg => h g (List.mem_cons_of_mem _ hg))
  refine ⟨(a, b), ⟨_, _, ?_, hK, hK'⟩, hw, hw'⟩
  show (cs.drop off).take (d.sz + d'.sz) = _
  rw [List.take_add, List.drop_drop]

theorem Opens.struct {α : Type} {d : Kd α} {wf : α → Prop} {fs : Array Field} (ht : P.underlying t = some (.struct fs)) (hc : P.cellsOf t = d.sz) (hf : Fits P fs.toList 0 d wf) : Opens P t d wf where
  sz := hc
  op := fun enc W base spare held fuel cs x h => by
    obtain ⟨xs, n, _, _, hcl, hxl, hx⟩ := DataW.trod_struct ht h
    obtain ⟨a, hK, hw⟩ := hf enc W base spare held n cs (fun f hf' => by
      obtain ⟨i, hi⟩ := List.getElem?_of_mem hf'
      have hi' : fs[i]? = some f := by simpa using hi
      have hlt : i < fs.size := (Array.getElem?_eq_some_iff.1 hi').1
      exact ⟨_, (hx i f hi').trans (List.getElem?_eq_getElem (by omega))⟩)
    refine ⟨a, ?_, hw⟩
    rw [List.drop_zero, List.take_of_length_le (by omega)] at hK
    exact hK

theorem Opens.iso {α β : Type} {d : Kd α} {wf : α → Prop} (f : β → α) (g : α → β) (hfg : ∀ a, f (g a) = a) (h : Opens P t d wf) : Opens P t (Kd.iso d f) (fun b => wf (f b)) where
  sz := h.sz
  op := fun enc W base spare held fuel cs x hx => by
    obtain ⟨a, hK, hw⟩ := h.op enc W base spare held fuel cs x hx
    exact ⟨g a, by show d.K W (f (g a)) cs; rwa [hfg], by rwa [hfg]⟩
end
end Go.Proofs.Ytdnapgnnliibfaa.Open
