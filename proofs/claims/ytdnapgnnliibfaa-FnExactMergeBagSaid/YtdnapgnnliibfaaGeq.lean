/- What this text proves: what '>=', '>' and '<=' tell of two texts, in terms of '<', as the walk asks it.
   Conditions: none. -/
import Derived.Laws.Strings
namespace Go.Proofs.Ytdnapgnnliibfaa.Geq
theorem bytesLess_other : ∀ x y : List UInt8, (!(Op.bytesLess x y || x == y)) = Op.bytesLess y x
  | [], [] => rfl
  | [], _ :: _ => rfl
  | _ :: _, [] => rfl
  | a :: x, b :: y => by
    have ih := bytesLess_other x y
    have tri : a < b ∨ a = b ∨ b < a := by
      simp only [UInt8.lt_iff_toNat_lt, ← UInt8.toNat_inj]; omega
    rcases tri with h | h | h
    · have h1 : ¬ b < a := fun h2 => UInt8.lt_irrefl _ (UInt8.lt_trans h h2)
      have h2 : ¬ b = a := fun e => UInt8.lt_irrefl a (by rw [e] at h; exact h)
      simp [Op.bytesLess, h, h1, h2]
    · subst h
      have h1 : ¬ a < a := UInt8.lt_irrefl a
      simp only [Op.bytesLess, List.cons_beq_cons, beq_self_eq_true, Bool.true_and, decide_eq_false h1, Bool.false_or]
      exact ih
    · have h1 : ¬ a < b := fun h2 => UInt8.lt_irrefl _ (UInt8.lt_trans h h2)
      have h2 : ¬ a = b := fun e => UInt8.lt_irrefl a (by rw [← e] at h; exact h)
      simp [Op.bytesLess, h, h1, h2]
@[go_sem] theorem binOp_string_geq (t : TypeId) (a b : ByteArray) : binOp .geq t (.string a) (.string b) = pure (.bool !(Op.bytesLess a.toList b.toList)) := by simp [binOp, Op.stringOp]
@[go_sem] theorem binOp_string_gtr (t : TypeId) (a b : ByteArray) : binOp .gtr t (.string a) (.string b) = pure (.bool (Op.bytesLess b.toList a.toList)) := by
  rw [← bytesLess_other]; simp [binOp, Op.stringOp]
@[go_sem] theorem binOp_string_leq (t : TypeId) (a b : ByteArray) : binOp .leq t (.string a) (.string b) = pure (.bool !(Op.bytesLess b.toList a.toList)) := by
  rw [← bytesLess_other]; simp [binOp, Op.stringOp]
end Go.Proofs.Ytdnapgnnliibfaa.Geq
