/- What this text proves: the given statement of laws.FnExactIsWrite, out of its pure form (YthbollaceiffpaaPureFnExactIsWrite) and the contract of the machine's call.
   Conditions: none. -/
import Derived.Test.YthbollaceiffpaaRows
import Derived.Test.YthbollaceiffpaaPQx5
import Derived.Test.YthbollaceiffpaaPureFnExactIsWrite
import Derived.Test.YthbollaceiffpaaOpen
import Derived.WalkKit
import Derived.ProofKit
import Derived.OpenShut
import Derived.ShutString
import Derived.ChangeOld
import Derived.Below
import Derived.SizedLaws
namespace Go.Proofs.Ythbollaceiffpaa.fnExactIsWrite
open Go.ChangeShapes Go.WideShapes Go.ChangeAt Go.RowKit Go.Proofs.Ythbollaceiffpaa.Open Go.Proofs.YthbollaceiffpaaW.PrintWords Go.Proofs.Ythbollaceiffpaa.PQ
set_option linter.unusedVariables false
theorem own : ownKnob Try.prog.godebug = none := by kernel_rfl
theorem laidOut : laidOutB Try.prog = true := by kernel_rfl
set_option maxHeartbeats 1000000 in
set_option maxRecDepth 100000 in
theorem lifted (os : Os) (started : os.Started) (H : Type) (enc : TypeId × Value → H) :
    ReturnsInHanded {} Try.checked os 6 .any (Rows.fnExactIsWriteSpec.pre6 enc Try.prog Try.f6 Rows.fnExactIsWriteRow.domain false) (Rows.fnExactIsWriteSpec.post enc Try.prog Try.f6 false true false false) := by
  refine returnsInHanded_of_change_sized (C := Try.checked) own started (by kernel_rfl) Try.func6
    (ChangeSpec.witness6 (enc := enc) (C := Try.checked) false ⟨#[], #[.slice none 0 0, .int .i64 0, .agg #[.slice none 0 0]], []⟩ 8 (by kernel_rfl) (by kernel_rfl) (by kernel_rfl) (by kernel_rfl)) ?_
  intro W base args ds gs before hval0 hW hcnd hsz0 _
  have hval : ∀ (j : Nat) t v, Try.f6.params[j]? = some t → args[j]? = some v → Value.okWide Try.prog W .any base t v := hval0
  have hW' := hW
  obtain ⟨p, q, hA0, hV, rfl, hfz, hnd⟩ := hW
  have hA : DataW.TrodAll enc Try.prog W 0 (fun _ => true) true Try.f6.params.toList args.toList ds p := hA0
  rw [Try.params6] at hA hval
  obtain ⟨v0, vs0, d0, ds0, p0, q0, hargs, rfl, rfl, h0, r0⟩ := trodAll_cons hA
  obtain ⟨v1, vs1, d1, ds1, p1, q1, rfl, rfl, rfl, h1, r1⟩ := trodAll_cons r0
  obtain ⟨v2, vs2, d2, ds2, p2, q2, rfl, rfl, rfl, h2, r2⟩ := trodAll_cons r1
  obtain ⟨rfl, rfl, rfl⟩ := trodAll_nil r2
  obtain rfl : args = #[v0, v1, v2] := by cases args; simp_all
  obtain ⟨rfl, rfl⟩ := trodVars_none hV
  have k0 := h0
  have lt0 : ∀ x ∈ p0, x.block < W.heap.size := by obtain ⟨m, hm⟩ := k0; exact DataW.trod_lt m _ _ _ hm
  obtain ⟨fuel0, hf0⟩ := h0
  obtain ⟨A0, len0, c0, rfl⟩ := okWide_slice Try.underlying22 (hval 0 22 v0 rfl rfl)
  obtain ⟨l0, hk0, w0⟩ := ((Opens.slice Try.underlying22 (by kernel_rfl) (Opens.int Try.underlying3 (by kernel_rfl)))).op enc W 0 (fun _ => true) true fuel0 _ _ hf0
  obtain ⟨A0', c0', he0, hc0, hr0⟩ := hk0
  simp only [Value.cells, List.cons.injEq, Value.slice.injEq, and_true] at he0
  obtain ⟨rfl, rfl, rfl⟩ := he0
  have k1 := h1
  have lt1 : ∀ x ∈ p1, x.block < W.heap.size := by obtain ⟨m, hm⟩ := k1; exact DataW.trod_lt m _ _ _ hm
  obtain ⟨fuel1, hf1⟩ := h1
  obtain ⟨u1, rfl⟩ := okWide_int Try.underlying3 (hval 1 3 v1 rfl rfl)
  obtain ⟨a1, hk1, w1⟩ := ((Opens.int Try.underlying3 (by kernel_rfl))).op enc W 0 (fun _ => true) true fuel1 _ _ hf1
  have he1 : [Value.int .i64 u1] = [Value.int .i64 a1] := hk1
  obtain rfl : a1 = u1 := by injection he1 with e1 e2; injection e1 with e3 e4; first | exact e3.symm | exact e4.symm
  have k2 := h2
  have lt2 : ∀ x ∈ p2, x.block < W.heap.size := by obtain ⟨m, hm⟩ := k2; exact DataW.trod_lt m _ _ _ hm
  obtain ⟨fuel2, hf2⟩ := h2
  obtain ⟨cs2, rfl, _⟩ := okWide_struct Try.underlying24 (hval 2 24 v2 rfl rfl)
  obtain ⟨L2, rfl⟩ : ∃ L : List Value, cs2 = L.toArray := ⟨cs2.toList, by simp⟩
  have hf2' : DataW.trod enc Try.prog W 0 (fun _ => true) true fuel2 24 L2 = some (d2, p2) := by simpa [Value.cells] using hf2
  obtain ⟨l2_0, hk2, w2⟩ := ((Opens.struct Try.underlying24 (by kernel_rfl) (Fits.one rfl (Opens.slice Try.underlying22 (by kernel_rfl) (Opens.int Try.underlying3 (by kernel_rfl)))))).op enc W 0 (fun _ => true) true fuel2 L2 _ hf2'
  obtain ⟨A2_0, c2_0, rfl, hc2_0, hr2_0⟩ := hk2
  clear hA0 hval0 hval hsz0 hA hV hfz hnd hcnd
  obtain ⟨k, hk⟩ := Go.Proofs.Ythbollaceiffpaa.PureFnExactIsWrite.holds l0 a1 l2_0 w0 w1 w2
  refine (Go.Proofs.Ythbollaceiffpaa.PQ.laws_FnExactIsWrite.calls (k := k) (r := true) (w := W) (l0 := l0) (A0 := A0) (c0 := c0) (hr0 := hr0) (hc0 := hc0) (a1 := a1) (l2_0 := l2_0) (A2_0 := A2_0) (c2_0 := c2_0) (hr2_0 := hr2_0) (hc2_0 := hc2_0) (h := hk)).mono fun e W' he => ?_
  obtain ⟨rfl, hd⟩ := he
  have bel : Below W.heap.size W W' := by first | exact hd | exact hd.below
  exact ⟨_, rfl, _, _, _, [], _, [], hW', trodAll_mk1 (shut_bool Try.underlying4 _), (trodAll_cons_mk (Below.trod laidOut (by kernel_rfl) (of_decide_eq_true (by kernel_rfl)) k0 bel lt0) (trodAll_cons_mk (Below.trod laidOut (by kernel_rfl) (of_decide_eq_true (by kernel_rfl)) k1 bel lt1) (trodAll_cons_mk (Below.trod laidOut (by kernel_rfl) (of_decide_eq_true (by kernel_rfl)) k2 bel lt2) trodAll_mk0))), rfl, bel.frame _, fun h => by cases h⟩
theorem over : Rows.fnExactIsWriteRow.holds Try.pinned (OpenSpec.ofChange Rows.fnExactIsWriteSpec) :=
  OpenClaim.holds_of_wide 6 Try.f6 rfl rfl rfl rfl rfl rfl rfl ⟨rfl, rfl, rfl, rfl, rfl⟩ rfl rfl rfl rfl rfl (by kernel_rfl) Try.func6 (by kernel_rfl)
    (of_decide_eq_true (by kernel_rfl)) (by unfold Func.isWrapper; first | (rw [if_pos (by decide +kernel)]; kernel_rfl) | (rw [if_neg (by decide +kernel)]; exact ⟨rfl, rfl⟩))
    (fun os started H enc _ => lifted os started H enc)
end Go.Proofs.Ythbollaceiffpaa.fnExactIsWrite
namespace Go.Proofs.Ythbollaceiffpaa
/-- The given statement. -/
theorem fnExactIsWrite_holds : Rows.FnExactIsWriteSaid := fnExactIsWrite.over
#print axioms fnExactIsWrite_holds
end Go.Proofs.Ythbollaceiffpaa
