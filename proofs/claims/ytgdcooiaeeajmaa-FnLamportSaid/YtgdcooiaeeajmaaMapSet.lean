/- What this text proves: small laws on a map from ints to bools that a call has made for itself and that serves as a set: it reads as a list of the ints that were put in.
   Conditions: as each law says. -/
import Derived.Maps.OwnSet
import Derived.WalkKit
import Derived.Below
import Derived.Deep.Draws
namespace Go.Proofs.Ytgdcooiaeeajmaa.MapSet
open Go.RowKit Go.Maps

/-- Block b of w is a map from ints (type kt) to bools (type et) that holds true at just the ints of S. -/
def OSet (P : Program) (kt et : TypeId) (w : World) (b : Nat) (S : List Int) : Prop :=
  ∃ D : DataW Unit, w.ownsMap P kt (plainElem P et) b S.length D ∧ IsMap D ∧ ∀ x : Int, D.atKey (.int .i64 x) (.lit (.bool false)) = .lit (.bool (decide (x ∈ S)))

variable {P : Program} {kt et mt : TypeId} {w : World} {b : Nat} {S : List Int}

theorem OSet.lt (h : OSet P kt et w b S) : b < w.heap.size := by
  obtain ⟨D, h1, _⟩ := h
  exact h1.lt
theorem OSet.made (P : Program) (kt et : TypeId) (w : World) : OSet P kt et (w.alloc (.map #[] 0)) w.heap.size [] :=
  ⟨.map [], World.ownsMap_made _ _ _ _, isMap_empty, fun x => by simp [DataW.atKey]⟩
theorem OSet.kept {w' : World} {row : Option Nat} (h : OSet P kt et w b S) (hg : w.grownBy w' row) (hne : some b ≠ row) : OSet P kt et w' b S := by
  obtain ⟨D, h1, h2⟩ := h
  exact ⟨D, h1.kept hg hne, h2⟩
theorem OSet.below {w' : World} (h : OSet P kt et w b S) (hb : Below w.heap.size w w') : OSet P kt et w' b S := by
  have hlt := h.lt
  obtain ⟨D, ⟨es, clock, e, r⟩, h2⟩ := h
  exact ⟨D, ⟨es, clock, (hb.block b hlt).trans e, r⟩, h2⟩
theorem OSet.alloc (h : OSet P kt et w b S) (o : Obj) : OSet P kt et (w.alloc o) b S := h.kept (World.grownBy_alloc w o none) (by simp)
theorem OSet.drew (h : OSet P kt et w b S) : OSet P kt et w.drew b S := h
theorem OSet.drewN (h : OSet P kt et w b S) (n : Nat) : OSet P kt et (w.drewN n) b S := by
  obtain ⟨D, ⟨es, clock, e, r⟩, h2⟩ := h
  exact ⟨D, ⟨es, clock, e, r⟩, h2⟩

theorem key64 (hk : P.underlying kt = some (.int .i64)) {x : Int} (hx : (Lit.int .i64 x).wf = true) : keyOf P kt (.int .i64 x) = some (.int .i64 x) := keyOf_int_mk hk hx

theorem plain_bool_inv (he : P.underlying et = some .bool) {v : Value} {z : DataW Unit × List MemPlace} (h : plainElem P et v = some z) : ∃ q, v = .bool q ∧ z = (.lit (.bool q), []) := by
  unfold plainElem at h
  rw [he] at h
  cases v <;> simp at h
  subst h
  exact ⟨_, rfl, rfl⟩

/-- The look-up. -/
theorem OSet.look (h : OSet P kt et w b S) (hk : P.underlying kt = some (.int .i64)) (he : P.underlying et = some .bool) (ht : P.underlying mt = some (.map kt et)) (hz : (zeroValue et).run P w = .ok (.bool false) w) {x : Int} (hx : (Lit.int .i64 x).wf = true) :
    (Instr.lookup mt (.map (some b)) (.int .i64 x) false).run P w = .ok (.bool (decide (x ∈ S))) w := by
  obtain ⟨D, h1, _, h3⟩ := h
  obtain ⟨v, ps, hrun, hv⟩ := h1.lookup (int_keyed hk) ht hz (plainElem_bool he false) (key64 hk hx)
  obtain ⟨q, rfl, hq⟩ := plain_bool_inv he hv
  have e : DataW.lit (.bool (decide (x ∈ S))) = (DataW.lit (.bool q) : DataW Unit) := by rw [← h3 x]; exact congrArg Prod.fst hq
  injection e with e; injection e with e
  rw [e]; exact hrun

/-- The look-up at the operation. -/
theorem wpList_look_set {ops : Array Oper} {rest : List Oper} {o : Oper} {a : Act} {Q : Exit → Act → World → Prop}
    (hg : o.guard = none) (m x : Operand) (t : TypeId) (hop : o.op = Op.lookup t m x false)
    (hk : P.underlying kt = some (.int .i64)) (he : P.underlying et = some .bool) (ht : P.underlying t = some (.map kt et)) (hz : (zeroValue et).run P w = .ok (.bool false) w)
    (hm : a.eval m = .map (some b)) (h : OSet P kt et w b S) (n : Int) (hx : a.eval x = .int .i64 n) (hn : (Lit.int .i64 n).wf = true)
    (hK : wpList P ops Q rest (a.put o.dst (.bool (decide (n ∈ S)))) w) :
    wpList P ops Q (o :: rest) a w := by
  refine wpList_plain hg fun K' hK' => ?_
  have hrun := h.look (mt := t) hk he ht hz hn
  unfold Oper.wp
  simp [execOp, hop, hm, hx, hrun, Result.andThen]
  exact hK' _ _ (by simpa using hK)

/-- The store of true at the operation. -/
theorem wpList_put_set {ops : Array Oper} {rest : List Oper} {o : Oper} {a : Act} {Q : Exit → Act → World → Prop}
    (hg : o.guard = none) (m x v : Operand) (t : TypeId) (hop : o.op = Op.mapUpdate t m x v)
    (hk : P.underlying kt = some (.int .i64)) (he : P.underlying et = some .bool) (ht : P.underlying t = some (.map kt et))
    (hm : a.eval m = .map (some b)) (h : OSet P kt et w b S) (hS : S.length < maxLen) (n : Int) (hx : a.eval x = .int .i64 n) (hn : (Lit.int .i64 n).wf = true) (hv : a.eval v = .bool true)
    (hK : ∀ w', OSet P kt et w' b (n :: S) → w.grownBy w' (some b) → wpList P ops Q rest (a.put o.dst undef) w') :
    wpList P ops Q (o :: rest) a w := by
  obtain ⟨D, h1, h2, h3⟩ := h
  refine wpList_mapUpdate_own w hg m x v t hop kt et (int_keyed hk) ht (plainElem P et) b S.length D hm h1 hS (.int .i64 n) (.bool true) (.int .i64 n) hx hv (key64 hk hn) (.lit (.bool true)) [] (plainElem_bool he true) ?_
  intro w' o1 g1
  refine hK w' ⟨_, o1, h2.put _ _, fun y => ?_⟩ g1
  by_cases e : y = n
  · subst e
    rw [atKey_put_same h2 (by simp [WideAt.IsKeyLit])]
    simp
  · rw [atKey_put_other (by intro h; injection h with _ h; exact e h), h3 y]
    simp [e]
end Go.Proofs.Ytgdcooiaeeajmaa.MapSet
