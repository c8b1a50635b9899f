/- What this text proves (a hand-built part): 'clear' of a row's tail, at adds (elements of three cells). Conditions: as each theorem says. -/
import Derived.Test.YtdnapgnnliibfaaPMBx0
import Derived.Lib.BufferOwn
import Derived.Lib.SliceRun
namespace Go.Proofs.Ytdnapgnnliibfaa.PMB
open Go.RowKit Go.Proofs.YtdnapgnnliibfaaW.PrintWords Go.Proofs.YtdnapgnnliibfaaW.PrintLast Go.Proofs.YtdnapgnnliibfaaW.PrintMore
set_option linter.unusedVariables false
set_option linter.unusedSimpArgs false

def zeroA : List Value := [.string (⟨#[]⟩ : ByteArray), .int .i64 0, .int .i64 0]
def zeroL : Nat → List Value
  | 0 => []
  | d + 1 => zeroA ++ zeroL d
theorem zeroL_len : ∀ d, (zeroL d).length = d * 3
  | 0 => rfl
  | d + 1 => by rw [zeroL, List.length_append, zeroL_len d, Nat.succ_mul]; simp [zeroA]; omega
theorem setCells_append (b : Nat) : ∀ (xs ys : List Value) (o : Nat) (w : World), w.setCells b o (xs ++ ys) = (w.setCells b o xs).setCells b (o + xs.length) ys
  | [], ys, o, w => by simp [World.setCells]
  | x :: xs, ys, o, w => by
    rw [List.cons_append, World.setCells, World.setCells, setCells_append b xs ys (o + 1)]
    rw [List.length_cons, show o + 1 + xs.length = o + (xs.length + 1) by omega]
theorem clearA {base g n cap : Nat} {ok : Nat → Prop} : ∀ (d m : Nat) (ys : List S48) (W : World), m + d = ys.length → Kd.R k48 48 W base ok (.slice (some ⟨g, 0, none⟩) n cap) ys →
    Kd.R k48 48 (W.setCells g (m * 3) (zeroL d)) base ok (.slice (some ⟨g, 0, none⟩) n cap) (ys.take m ++ List.replicate d z48) ∧ W.grownBy (W.setCells g (m * 3) (zeroL d)) (some g)
  | 0, m, ys, W, hm, h => by
    simp only [zeroL, World.setCells, List.replicate_zero, List.append_nil]
    rw [List.take_of_length_le (by omega)]
    exact ⟨h, World.grownBy.refl _ _⟩
  | d + 1, m, ys, W, hm, h => by
    have hn := (Kd.R_reads' h).1
    obtain ⟨c, hcl, hM, hcc, hf⟩ := Kd.R_elem h z48 (m : Int) (by omega) (by omega)
    obtain ⟨h1, g1⟩ := Kd.R_seg h (m : Int) (by omega) (by omega) (seg := zeroA) (j := 0) hcl hcc (show 0 + zeroA.length ≤ k48.sz from by decide) (x' := z48) (okp := fun k => ok k ∧ k ≠ g) (by
      have e : c.take 0 ++ zeroA ++ c.drop (0 + zeroA.length) = zeroA := by
        have e2 : c.drop (0 + zeroA.length) = [] := List.drop_eq_nil_of_le (by rw [hcl]; decide)
        rw [e2]; simp
      rw [e]
      exact k48_mkM _ _ _ z48) (fun _ hk => hk)
    rw [show ((m : Int).toNat * k48.sz + 0) = m * 3 from by simp; rfl] at h1 g1
    rw [show (m : Int).toNat = m from rfl] at h1
    have e0 : (zeroL (d + 1)) = zeroA ++ zeroL d := rfl
    obtain ⟨h2, g2⟩ := clearA d (m + 1) (ys.set m z48) (W.setCells g (m * 3) zeroA) (by simp; omega) h1
    have e1 : W.setCells g (m * 3) (zeroL (d + 1)) = (W.setCells g (m * 3) zeroA).setCells g ((m + 1) * 3) (zeroL d) := by
      rw [e0, setCells_append, show m * 3 + zeroA.length = (m + 1) * 3 by rw [Nat.succ_mul]; rfl]
    rw [e1]
    refine ⟨?_, Go.Lib.grownBy_trans g1 g2⟩
    have e3 : (ys.set m z48).take (m + 1) ++ List.replicate d z48 = ys.take m ++ List.replicate (d + 1) z48 := by
      have hlt : m < ys.length := by omega
      rw [List.take_succ_eq_append_getElem (by simpa using hlt), List.getElem_set_self, List.take_set_of_le (Nat.le_refl _), List.append_assoc, List.replicate_succ]
      rfl
    rw [e3] at h2
    exact h2
theorem zeroCells_eq : ∀ d, (Builtin.zeroCells (Value.agg #[.string (⟨#[]⟩ : ByteArray), .int .i64 0, .int .i64 0]).cells d).toList = zeroL d
  | 0 => by simp [Builtin.zeroCells, zeroL]
  | d + 1 => by
    have ih := zeroCells_eq d
    have hc : (Value.agg #[.string (⟨#[]⟩ : ByteArray), .int .i64 0, .int .i64 0]).cells = zeroA.toArray := by simp [Value.cells, zeroA]
    rw [hc] at ih ⊢
    simp only [Builtin.zeroCells, Array.toList_map, Array.toList_range] at ih ⊢
    rw [zeroL, ← ih, show (d + 1) * zeroA.toArray.size = 3 + d * zeroA.toArray.size by rw [Nat.succ_mul]; simp [zeroA]; omega, List.range_add, List.map_append, List.map_map]
    congr 1
    apply List.map_congr_left
    intro i _
    show zeroA.toArray[(3 + i) % 3]! = zeroA.toArray[i % 3]!
    rw [show (3 + i) % 3 = i % 3 by omega]
theorem clear_run {W : World} {base g n cap c m : Nat} {ok : Nat → Prop} {ys : List S48} (h : Kd.R k48 48 W base ok (.slice (some ⟨g, 0, none⟩) n cap) ys) (hm : m < ys.length) (ty : TypeId) :
    (Builtin.clear_ #[27] ty #[.slice (some ⟨g, m * 3, none⟩) (ys.length - m) c]).run Try.prog W = .ok (.tuple #[]) (W.setCells g (m * 3) (zeroL (ys.length - m))) := by
  obtain ⟨d, hd⟩ : ∃ d, ys.length - m = d + 1 := ⟨ys.length - m - 1, by omega⟩
  have hn := (Kd.R_reads' h).1
  have cells : ∀ j, j < (zeroL (ys.length - m)).length → (W.cell? ⟨g, m * 3 + j, none⟩).isSome = true ∧ W.frozen? ⟨g, m * 3 + j, none⟩ = false := by
    intro j hj
    rw [zeroL_len] at hj
    obtain ⟨cs, hcl, hM, hcc, hf⟩ := Kd.R_elem h z48 ((m + j / 3 : Nat) : Int) (by omega) (by omega)
    have e : ((m + j / 3 : Nat) : Int).toNat * k48.sz + j % 3 = m * 3 + j := by
      show (m + j / 3) * 3 + j % 3 = m * 3 + j; omega
    have hs : k48.sz = 3 := rfl
    have hlt : j % 3 < cs.length := by rw [hcl, hs]; omega
    have h1 := hcc (j % 3) cs[j % 3] (List.getElem?_eq_getElem hlt)
    have h2 := hf (j % 3)
    rw [e] at h1 h2
    exact ⟨by rw [h1]; rfl, h2⟩
  have hz : ∀ w, (zeroValue 48).run Try.prog w = .ok (.agg #[.string (⟨#[]⟩ : ByteArray), .int .i64 0, .int .i64 0]) w := fun w => by kernel_rfl
  have one : ∀ d, ∀ v ∈ zeroL d, v.oneCell' = true := by
    intro d
    induction d with
    | zero => intro v hv; simp [zeroL] at hv
    | succ d ih =>
      intro v hv
      rcases List.mem_append.1 hv with hv | hv
      · simp [zeroA] at hv; rcases hv with rfl | rfl | rfl <;> rfl
      · exact ih v hv
  have hst := run_storeCells_cells (P := Try.prog) g (m * 3) (zeroL (ys.length - m)) 0 W (by simpa using fun j hj => (cells j hj).1) (by simpa using fun j hj => (cells j hj).2) (one _)
  simp only [Nat.add_zero] at hst
  have hzc := zeroCells_eq (ys.length - m)
  rw [hd] at hst hzc ⊢
  simp [Builtin.clear_, run_underlying Try.underlying27, hz, hzc, hst]
theorem R_formX {α : Type} {d : Kd α} {e : Nat} {w : World} {base : Nat} {ok : Nat → Prop} {xs : List α} {g n cap : Nat} (h : d.R e w base ok (.slice (some ⟨g, 0, none⟩) n cap) xs) (hp : 0 < xs.length) : base ≤ g ∧ g < w.heap.size ∧ ∃ cells, w.heap[g]? = some (.cells cells e (0, 0)) := by
  obtain ⟨g', cap', he, h1, h2, h3⟩ := Kd.R_form h hp
  have e1 : g = g' := by injection he with he; injection he with he; injection he
  subst e1
  exact ⟨h1, h2, h3⟩
end Go.Proofs.Ytdnapgnnliibfaa.PMB
