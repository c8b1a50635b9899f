/- What this text proves: the given statement of laws.FnExactNewNet, out of its pure form (YtipfikmbldgliaaPureFnExactNewNet) and the contract of the machine's call.
   Conditions: none. -/
import Derived.Test.YtipfikmbldgliaaRows
import Derived.Test.YtipfikmbldgliaaPNNx8
import Derived.Test.YtipfikmbldgliaaPureFnExactNewNet
import Derived.Test.YtipfikmbldgliaaOpen
import Derived.WalkKit
import Derived.ProofKit
import Derived.OpenShut
import Derived.ShutString
import Derived.ChangeOld
import Derived.Below
import Derived.SizedLaws
namespace Go.Proofs.Ytipfikmbldgliaa.fnExactNewNet
open Go.ChangeShapes Go.WideShapes Go.ChangeAt Go.RowKit Go.Proofs.Ytipfikmbldgliaa.Open Go.Proofs.YtipfikmbldgliaaW.PrintWords Go.Proofs.Ytipfikmbldgliaa.PNN
set_option linter.unusedVariables false
theorem own : ownKnob Try.prog.godebug = none := by kernel_rfl
theorem laidOut : laidOutB Try.prog = true := by kernel_rfl
set_option maxHeartbeats 1000000 in
set_option maxRecDepth 100000 in
theorem lifted (os : Os) (started : os.Started) (H : Type) (enc : TypeId × Value → H) :
    ReturnsInHanded {} Try.checked os 7 .any (Rows.fnExactNewNetSpec.pre6 enc Try.prog Try.f7 Rows.fnExactNewNetRow.domain false) (Rows.fnExactNewNetSpec.post enc Try.prog Try.f7 false true false false) := by
  refine returnsInHanded_of_change_sized (C := Try.checked) own started (by kernel_rfl) Try.func7
    (ChangeSpec.witness6 (enc := enc) (C := Try.checked) false ⟨#[], #[.slice none 0 0], []⟩ 8 (by kernel_rfl) (by kernel_rfl) (by kernel_rfl) (by kernel_rfl)) ?_
  intro W base args ds gs before hval0 hW hcnd hsz0 _
  have hval : ∀ (j : Nat) t v, Try.f7.params[j]? = some t → args[j]? = some v → Value.okWide Try.prog W .any base t v := hval0
  have hW' := hW
  obtain ⟨p, q, hA0, hV, rfl, hfz, hnd⟩ := hW
  have hA : DataW.TrodAll enc Try.prog W 0 (fun _ => true) true Try.f7.params.toList args.toList ds p := hA0
  rw [Try.params7] at hA hval
  obtain ⟨v0, vs0, d0, ds0, p0, q0, hargs, rfl, rfl, h0, r0⟩ := trodAll_cons hA
  obtain ⟨rfl, rfl, rfl⟩ := trodAll_nil r0
  obtain rfl : args = #[v0] := by cases args; simp_all
  obtain ⟨rfl, rfl⟩ := trodVars_none hV
  have k0 := h0
  have lt0 : ∀ x ∈ p0, x.block < W.heap.size := by obtain ⟨m, hm⟩ := k0; exact DataW.trod_lt m _ _ _ hm
  obtain ⟨fuel0, hf0⟩ := h0
  obtain ⟨A0, len0, c0, rfl⟩ := okWide_slice Try.underlying49 (hval 0 49 v0 rfl rfl)
  obtain ⟨l0, hk0, w0⟩ := (op49).op enc W 0 (fun _ => true) true fuel0 _ _ hf0
  obtain ⟨A0', c0', he0, hc0, hr0⟩ := hk0
  simp only [Value.cells, List.cons.injEq, Value.slice.injEq, and_true] at he0
  obtain ⟨rfl, rfl, rfl⟩ := he0
  clear hA0 hval0 hval hsz0 hA hV hfz hnd hcnd
  obtain ⟨k, hk⟩ := Go.Proofs.Ytipfikmbldgliaa.PureFnExactNewNet.holds l0 w0
  refine (Go.Proofs.Ytipfikmbldgliaa.PNN.laws_FnExactNewNet.calls (k := k) (r := true) (w := W) (l0 := l0) (A0 := A0) (c0 := c0) (hr0 := hr0) (hc0 := hc0) (h := hk)).mono fun e W' he => ?_
  obtain ⟨rfl, hd⟩ := he
  have bel : Below W.heap.size W W' := by first | exact hd | exact hd.below
  exact ⟨_, rfl, _, _, _, [], _, [], hW', trodAll_mk1 (shut_bool Try.underlying4 _), (trodAll_cons_mk (Below.trod laidOut (by kernel_rfl) (of_decide_eq_true (by kernel_rfl)) k0 bel lt0) trodAll_mk0), rfl, bel.frame _, fun h => by cases h⟩
theorem over : Rows.fnExactNewNetRow.holds Try.pinned (OpenSpec.ofChange Rows.fnExactNewNetSpec) :=
  OpenClaim.holds_of_wide 7 Try.f7 rfl rfl rfl rfl rfl rfl rfl ⟨rfl, rfl, rfl, rfl, rfl⟩ rfl rfl rfl rfl rfl (by kernel_rfl) Try.func7 (by kernel_rfl)
    (of_decide_eq_true (by kernel_rfl)) (by unfold Func.isWrapper; first | (rw [if_pos (by decide +kernel)]; kernel_rfl) | (rw [if_neg (by decide +kernel)]; exact ⟨rfl, rfl⟩))
    (fun os started H enc _ => lifted os started H enc)
end Go.Proofs.Ytipfikmbldgliaa.fnExactNewNet
namespace Go.Proofs.Ytipfikmbldgliaa
/-- The given statement. -/
theorem fnExactNewNet_holds : Rows.FnExactNewNetSaid := fnExactNewNet.over
#print axioms fnExactNewNet_holds
end Go.Proofs.Ytipfikmbldgliaa
