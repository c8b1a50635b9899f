/- What this text proves: the given statement of laws.FnExactCallsOf, out of its pure form (YtipfikmbldgliaaPureFnExactCallsOf) and the contract of the machine's call.
   Conditions: none. -/
import Derived.Test.YtipfikmbldgliaaRows
import Derived.Test.YtipfikmbldgliaaPRGx35
import Derived.Test.YtipfikmbldgliaaPureFnExactCallsOf
import Derived.Test.YtipfikmbldgliaaOpen
import Derived.WalkKit
import Derived.ProofKit
import Derived.OpenShut
import Derived.ShutString
import Derived.ChangeOld
import Derived.Below
import Derived.SizedLaws
namespace Go.Proofs.Ytipfikmbldgliaa.fnExactCallsOf
open Go.ChangeShapes Go.WideShapes Go.ChangeAt Go.RowKit Go.Proofs.Ytipfikmbldgliaa.Open Go.Proofs.YtipfikmbldgliaaW.PrintWords Go.Proofs.Ytipfikmbldgliaa.PRG
set_option linter.unusedVariables false
theorem own : ownKnob Try.prog.godebug = none := by kernel_rfl
theorem laidOut : laidOutB Try.prog = true := by kernel_rfl
set_option maxHeartbeats 1000000 in
set_option maxRecDepth 100000 in
theorem lifted (os : Os) (started : os.Started) (H : Type) (enc : TypeId × Value → H) :
    ReturnsInHanded {} Try.checked os 6 .any (Rows.fnExactCallsOfSpec.pre6 enc Try.prog Try.f6 Rows.fnExactCallsOfRow.domain false) (Rows.fnExactCallsOfSpec.post enc Try.prog Try.f6 false true false false) := by
  refine returnsInHanded_of_change_sized (C := Try.checked) own started (by kernel_rfl) Try.func6
    (ChangeSpec.witness6 (enc := enc) (C := Try.checked) false ⟨#[], #[.agg #[.int .i64 0, .slice none 0 0, .slice none 0 0]], []⟩ 8 (by kernel_rfl) (by kernel_rfl) (by kernel_rfl) (by kernel_rfl)) ?_
  intro W base args ds gs before hval0 hW hcnd hsz0 _
  have hval : ∀ (j : Nat) t v, Try.f6.params[j]? = some t → args[j]? = some v → Value.okWide Try.prog W .any base t v := hval0
  have hW' := hW
  obtain ⟨p, q, hA0, hV, rfl, hfz, hnd⟩ := hW
  have hA : DataW.TrodAll enc Try.prog W 0 (fun _ => true) true Try.f6.params.toList args.toList ds p := hA0
  rw [Try.params6] at hA hval
  obtain ⟨v0, vs0, d0, ds0, p0, q0, hargs, rfl, rfl, h0, r0⟩ := trodAll_cons hA
  obtain ⟨rfl, rfl, rfl⟩ := trodAll_nil r0
  obtain rfl : args = #[v0] := by cases args; simp_all
  obtain ⟨rfl, rfl⟩ := trodVars_none hV
  have k0 := h0
  have lt0 : ∀ x ∈ p0, x.block < W.heap.size := by obtain ⟨m, hm⟩ := k0; exact DataW.trod_lt m _ _ _ hm
  obtain ⟨fuel0, hf0⟩ := h0
  obtain ⟨cs0, rfl, _⟩ := okWide_struct Try.underlying34 (hval 0 34 v0 rfl rfl)
  obtain ⟨L0, rfl⟩ : ∃ L : List Value, cs0 = L.toArray := ⟨cs0.toList, by simp⟩
  have hf0' : DataW.trod enc Try.prog W 0 (fun _ => true) true fuel0 34 L0 = some (d0, p0) := by simpa [Value.cells] using hf0
  obtain ⟨⟨a0_0, l0_1, l0_2⟩, hk0, w0⟩ := ((Opens.struct Try.underlying34 (by kernel_rfl) (Fits.cons rfl op3 (Fits.cons rfl op31 (Fits.one rfl op32))))).op enc W 0 (fun _ => true) true fuel0 L0 _ hf0'
  obtain ⟨_, _, rfl, rfl, ⟨_, _, rfl, ⟨A0_1, c0_1, rfl, hc0_1, hr0_1⟩, ⟨A0_2, c0_2, rfl, hc0_2, hr0_2⟩⟩⟩ := hk0
  clear hA0 hval0 hval hsz0 hA hV hfz hnd hcnd
  obtain ⟨k, hk⟩ := Go.Proofs.Ytipfikmbldgliaa.PureFnExactCallsOf.holds a0_0 l0_1 l0_2 w0
  refine (Go.Proofs.Ytipfikmbldgliaa.PRG.laws_FnExactCallsOf.calls (k := k) (r := true) (w := W) (a0_0 := a0_0) (l0_1 := l0_1) (A0_1 := A0_1) (c0_1 := c0_1) (hr0_1 := hr0_1) (hc0_1 := hc0_1) (l0_2 := l0_2) (A0_2 := A0_2) (c0_2 := c0_2) (hr0_2 := hr0_2) (hc0_2 := hc0_2) (h := hk)).mono fun e W' he => ?_
  obtain ⟨rfl, hd⟩ := he
  have bel : Below W.heap.size W W' := by first | exact hd | exact hd.below
  exact ⟨_, rfl, _, _, _, [], _, [], hW', trodAll_mk1 (shut_bool Try.underlying4 _), (trodAll_cons_mk (Below.trod laidOut (by kernel_rfl) (of_decide_eq_true (by kernel_rfl)) k0 bel lt0) trodAll_mk0), rfl, bel.frame _, fun h => by cases h⟩
theorem over : Rows.fnExactCallsOfRow.holds Try.pinned (OpenSpec.ofChange Rows.fnExactCallsOfSpec) :=
  OpenClaim.holds_of_wide 6 Try.f6 rfl rfl rfl rfl rfl rfl rfl ⟨rfl, rfl, rfl, rfl, rfl⟩ rfl rfl rfl rfl rfl (by kernel_rfl) Try.func6 (by kernel_rfl)
    (of_decide_eq_true (by kernel_rfl)) (by unfold Func.isWrapper; first | (rw [if_pos (by decide +kernel)]; kernel_rfl) | (rw [if_neg (by decide +kernel)]; exact ⟨rfl, rfl⟩))
    (fun os started H enc _ => lifted os started H enc)
end Go.Proofs.Ytipfikmbldgliaa.fnExactCallsOf
namespace Go.Proofs.Ytipfikmbldgliaa
/-- The given statement. -/
theorem fnExactCallsOf_holds : Rows.FnExactCallsOfSaid := fnExactCallsOf.over
#print axioms fnExactCallsOf_holds
end Go.Proofs.Ytipfikmbldgliaa
