/- What this text proves: the given statement of laws.FnExactMergeLatest, out of its pure form (YtcloilddgimamaaPureFnExactMergeLatest) and the contract of the machine's call.
   Conditions: none. -/
import Derived.Test.YtcloilddgimamaaRows
import Derived.Test.YtcloilddgimamaaPMx4
import Derived.Test.YtcloilddgimamaaPureFnExactMergeLatest
import Derived.Test.YtcloilddgimamaaOpen
import Derived.WalkKit
import Derived.ProofKit
import Derived.OpenShut
import Derived.ShutString
import Derived.ChangeOld
import Derived.Below
import Derived.SizedLaws
namespace Go.Proofs.Ytcloilddgimamaa.fnExactMergeLatest
open Go.ChangeShapes Go.WideShapes Go.ChangeAt Go.RowKit Go.Proofs.Ytcloilddgimamaa.Open Go.Proofs.YtcloilddgimamaaW.PrintWords Go.Proofs.Ytcloilddgimamaa.PM
set_option linter.unusedVariables false
theorem own : ownKnob Try.prog.godebug = none := by kernel_rfl
theorem laidOut : laidOutB Try.prog = true := by kernel_rfl
set_option maxHeartbeats 1000000 in
set_option maxRecDepth 100000 in
theorem lifted (os : Os) (started : os.Started) (H : Type) (enc : TypeId × Value → H) :
    ReturnsInHanded {} Try.checked os 5 .any (Rows.fnExactMergeLatestSpec.pre6 enc Try.prog Try.f5 Rows.fnExactMergeLatestRow.domain false) (Rows.fnExactMergeLatestSpec.post enc Try.prog Try.f5 false true false false) := by
  refine returnsInHanded_of_change_sized (C := Try.checked) own started (by kernel_rfl) Try.func5
    (ChangeSpec.witness6 (enc := enc) (C := Try.checked) false ⟨#[], #[.agg #[.string ByteArray.empty, .int .i64 0, .int .i64 0], .agg #[.string ByteArray.empty, .int .i64 0, .int .i64 0]], []⟩ 8 (by kernel_rfl) (by kernel_rfl) (by kernel_rfl) (by kernel_rfl)) ?_
  intro W base args ds gs before hval0 hW hcnd hsz0 _
  have hval : ∀ (j : Nat) t v, Try.f5.params[j]? = some t → args[j]? = some v → Value.okWide Try.prog W .any base t v := hval0
  have hW' := hW
  obtain ⟨p, q, hA0, hV, rfl, hfz, hnd⟩ := hW
  have hA : DataW.TrodAll enc Try.prog W 0 (fun _ => true) true Try.f5.params.toList args.toList ds p := hA0
  rw [Try.params5] at hA hval
  obtain ⟨v0, vs0, d0, ds0, p0, q0, hargs, rfl, rfl, h0, r0⟩ := trodAll_cons hA
  obtain ⟨v1, vs1, d1, ds1, p1, q1, rfl, rfl, rfl, h1, r1⟩ := trodAll_cons r0
  obtain ⟨rfl, rfl, rfl⟩ := trodAll_nil r1
  obtain rfl : args = #[v0, v1] := by cases args; simp_all
  obtain ⟨rfl, rfl⟩ := trodVars_none hV
  have k0 := h0
  have lt0 : ∀ x ∈ p0, x.block < W.heap.size := by obtain ⟨m, hm⟩ := k0; exact DataW.trod_lt m _ _ _ hm
  obtain ⟨fuel0, hf0⟩ := h0
  obtain ⟨cs0, rfl, _⟩ := okWide_struct Try.underlying34 (hval 0 34 v0 rfl rfl)
  obtain ⟨L0, rfl⟩ : ∃ L : List Value, cs0 = L.toArray := ⟨cs0.toList, by simp⟩
  have hf0' : DataW.trod enc Try.prog W 0 (fun _ => true) true fuel0 34 L0 = some (d0, p0) := by simpa [Value.cells] using hf0
  obtain ⟨⟨a0_0, a0_1, a0_2⟩, hk0, w0⟩ := ((Opens.struct Try.underlying34 (by kernel_rfl) (Fits.cons rfl (Opens.string Try.underlying9 (by kernel_rfl)) (Fits.cons rfl (Opens.int Try.underlying3 (by kernel_rfl)) (Fits.one rfl (Opens.int Try.underlying3 (by kernel_rfl))))))).op enc W 0 (fun _ => true) true fuel0 L0 _ hf0'
  obtain ⟨_, _, rfl, rfl, ⟨_, _, rfl, rfl, rfl⟩⟩ := hk0
  have k1 := h1
  have lt1 : ∀ x ∈ p1, x.block < W.heap.size := by obtain ⟨m, hm⟩ := k1; exact DataW.trod_lt m _ _ _ hm
  obtain ⟨fuel1, hf1⟩ := h1
  obtain ⟨cs1, rfl, _⟩ := okWide_struct Try.underlying34 (hval 1 34 v1 rfl rfl)
  obtain ⟨L1, rfl⟩ : ∃ L : List Value, cs1 = L.toArray := ⟨cs1.toList, by simp⟩
  have hf1' : DataW.trod enc Try.prog W 0 (fun _ => true) true fuel1 34 L1 = some (d1, p1) := by simpa [Value.cells] using hf1
  obtain ⟨⟨a1_0, a1_1, a1_2⟩, hk1, w1⟩ := ((Opens.struct Try.underlying34 (by kernel_rfl) (Fits.cons rfl (Opens.string Try.underlying9 (by kernel_rfl)) (Fits.cons rfl (Opens.int Try.underlying3 (by kernel_rfl)) (Fits.one rfl (Opens.int Try.underlying3 (by kernel_rfl))))))).op enc W 0 (fun _ => true) true fuel1 L1 _ hf1'
  obtain ⟨_, _, rfl, rfl, ⟨_, _, rfl, rfl, rfl⟩⟩ := hk1
  clear hA0 hval0 hval hsz0 hA hV hfz hnd hcnd
  obtain ⟨k, hk⟩ := Go.Proofs.Ytcloilddgimamaa.PureFnExactMergeLatest.holds a0_0 a0_1 a0_2 a1_0 a1_1 a1_2 w0 w1
  refine (Go.Proofs.Ytcloilddgimamaa.PM.laws_FnExactMergeLatest.calls (k := k) (r := true) (w := W) (a0_0 := a0_0) (a0_1 := a0_1) (a0_2 := a0_2) (a1_0 := a1_0) (a1_1 := a1_1) (a1_2 := a1_2) (h := hk)).mono fun e W' he => ?_
  obtain ⟨rfl, hd⟩ := he
  have bel : Below W.heap.size W W' := by first | exact hd | exact hd.below
  exact ⟨_, rfl, _, _, _, [], _, [], hW', trodAll_mk1 (shut_bool Try.underlying4 _), (trodAll_cons_mk (Below.trod laidOut (by kernel_rfl) (of_decide_eq_true (by kernel_rfl)) k0 bel lt0) (trodAll_cons_mk (Below.trod laidOut (by kernel_rfl) (of_decide_eq_true (by kernel_rfl)) k1 bel lt1) trodAll_mk0)), rfl, bel.frame _, fun h => by cases h⟩
theorem over : Rows.fnExactMergeLatestRow.holds Try.pinned (OpenSpec.ofChange Rows.fnExactMergeLatestSpec) :=
  OpenClaim.holds_of_wide 5 Try.f5 rfl rfl rfl rfl rfl rfl rfl ⟨rfl, rfl, rfl, rfl, rfl⟩ rfl rfl rfl rfl rfl (by kernel_rfl) Try.func5 (by kernel_rfl)
    (of_decide_eq_true (by kernel_rfl)) (by unfold Func.isWrapper; first | (rw [if_pos (by decide +kernel)]; kernel_rfl) | (rw [if_neg (by decide +kernel)]; exact ⟨rfl, rfl⟩))
    (fun os started H enc _ => lifted os started H enc)
end Go.Proofs.Ytcloilddgimamaa.fnExactMergeLatest
namespace Go.Proofs.Ytcloilddgimamaa
/-- The given statement. -/
theorem fnExactMergeLatest_holds : Rows.FnExactMergeLatestSaid := fnExactMergeLatest.over
#print axioms fnExactMergeLatest_holds
end Go.Proofs.Ytcloilddgimamaa
