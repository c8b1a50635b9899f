/- What this text proves: the given statement of laws.FnExactStepLease, out of its pure form (YtbnadnfggpnbgaaPureFnExactStepLease) and the contract of the machine's call.
   Conditions: none. -/
import Derived.Test.YtbnadnfggpnbgaaRows
import Derived.Test.YtbnadnfggpnbgaaPSLx11
import Derived.Test.YtbnadnfggpnbgaaPureFnExactStepLease
import Derived.Test.YtbnadnfggpnbgaaOpen
import Derived.WalkKit
import Derived.ProofKit
import Derived.OpenShut
import Derived.ShutString
import Derived.ChangeOld
import Derived.Below
import Derived.SizedLaws
namespace Go.Proofs.Ytbnadnfggpnbgaa.fnExactStepLease
open Go.ChangeShapes Go.WideShapes Go.ChangeAt Go.RowKit Go.Proofs.Ytbnadnfggpnbgaa.Open Go.Proofs.YtbnadnfggpnbgaaW.PrintWords Go.Proofs.Ytbnadnfggpnbgaa.PSL
set_option linter.unusedVariables false
theorem own : ownKnob Try.prog.godebug = none := by kernel_rfl
theorem laidOut : laidOutB Try.prog = true := by kernel_rfl
set_option maxHeartbeats 1000000 in
set_option maxRecDepth 100000 in
theorem lifted (os : Os) (started : os.Started) (H : Type) (enc : TypeId × Value → H) :
    ReturnsInHanded {} Try.checked os 7 .any (Rows.fnExactStepLeaseSpec.pre6 enc Try.prog Try.f7 Rows.fnExactStepLeaseRow.domain false) (Rows.fnExactStepLeaseSpec.post enc Try.prog Try.f7 false true false false) := by
  refine returnsInHanded_of_change_sized (C := Try.checked) own started (by kernel_rfl) Try.func7
    (ChangeSpec.witness6 (enc := enc) (C := Try.checked) false ⟨#[], #[.agg #[.int .i64 0, .int .i64 0, .slice none 0 0, .int .i64 0, .int .i64 0, .slice none 0 0], .agg #[.int .i64 0, .int .i64 0, .int .i64 0]], []⟩ 8 (by kernel_rfl) (by kernel_rfl) (by kernel_rfl) (by kernel_rfl)) ?_
  intro W base args ds gs before hval0 hW hcnd hsz0 _
  have hval : ∀ (j : Nat) t v, Try.f7.params[j]? = some t → args[j]? = some v → Value.okWide Try.prog W .any base t v := hval0
  have hW' := hW
  obtain ⟨p, q, hA0, hV, rfl, hfz, hnd⟩ := hW
  have hA : DataW.TrodAll enc Try.prog W 0 (fun _ => true) true Try.f7.params.toList args.toList ds p := hA0
  rw [Try.params7] at hA hval
  obtain ⟨v0, vs0, d0, ds0, p0, q0, hargs, rfl, rfl, h0, r0⟩ := trodAll_cons hA
  obtain ⟨v1, vs1, d1, ds1, p1, q1, rfl, rfl, rfl, h1, r1⟩ := trodAll_cons r0
  obtain ⟨rfl, rfl, rfl⟩ := trodAll_nil r1
  obtain rfl : args = #[v0, v1] := by cases args; simp_all
  obtain ⟨rfl, rfl⟩ := trodVars_none hV
  have k0 := h0
  have lt0 : ∀ x ∈ p0, x.block < W.heap.size := by obtain ⟨m, hm⟩ := k0; exact DataW.trod_lt m _ _ _ hm
  obtain ⟨fuel0, hf0⟩ := h0
  obtain ⟨cs0, rfl, _⟩ := okWide_struct Try.underlying30 (hval 0 30 v0 rfl rfl)
  obtain ⟨L0, rfl⟩ : ∃ L : List Value, cs0 = L.toArray := ⟨cs0.toList, by simp⟩
  have hf0' : DataW.trod enc Try.prog W 0 (fun _ => true) true fuel0 30 L0 = some (d0, p0) := by simpa [Value.cells] using hf0
  obtain ⟨⟨a0_0, a0_1, l0_2, a0_3, a0_4, l0_5⟩, hk0, w0⟩ := ((Opens.struct Try.underlying30 (by kernel_rfl) (Fits.cons rfl u3 (Fits.cons rfl u3 (Fits.cons rfl u22 (Fits.cons rfl u3 (Fits.cons rfl u3 (Fits.one rfl u22)))))))).op enc W 0 (fun _ => true) true fuel0 L0 _ hf0'
  obtain ⟨_, _, rfl, rfl, ⟨_, _, rfl, rfl, ⟨_, _, rfl, ⟨A0_2, c0_2, rfl, hc0_2, hr0_2⟩, ⟨_, _, rfl, rfl, ⟨_, _, rfl, rfl, ⟨A0_5, c0_5, rfl, hc0_5, hr0_5⟩⟩⟩⟩⟩⟩ := hk0
  have k1 := h1
  have lt1 : ∀ x ∈ p1, x.block < W.heap.size := by obtain ⟨m, hm⟩ := k1; exact DataW.trod_lt m _ _ _ hm
  obtain ⟨fuel1, hf1⟩ := h1
  obtain ⟨cs1, rfl, _⟩ := okWide_struct Try.underlying43 (hval 1 43 v1 rfl rfl)
  obtain ⟨L1, rfl⟩ : ∃ L : List Value, cs1 = L.toArray := ⟨cs1.toList, by simp⟩
  have hf1' : DataW.trod enc Try.prog W 0 (fun _ => true) true fuel1 43 L1 = some (d1, p1) := by simpa [Value.cells] using hf1
  obtain ⟨⟨a1_0, a1_1, a1_2⟩, hk1, w1⟩ := ((Opens.struct Try.underlying43 (by kernel_rfl) (Fits.cons rfl u3 (Fits.cons rfl u3 (Fits.one rfl u3))))).op enc W 0 (fun _ => true) true fuel1 L1 _ hf1'
  obtain ⟨_, _, rfl, rfl, ⟨_, _, rfl, rfl, rfl⟩⟩ := hk1
  clear hA0 hval0 hval hsz0 hA hV hfz hnd hcnd
  obtain ⟨k, hk⟩ := Go.Proofs.Ytbnadnfggpnbgaa.PureFnExactStepLease.holds a0_0 a0_1 l0_2 a0_3 a0_4 l0_5 a1_0 a1_1 a1_2 w0 w1
  refine (Go.Proofs.Ytbnadnfggpnbgaa.PSL.laws_FnExactStepLease.calls (k := k) (r := true) (w := W) (a0_0 := a0_0) (a0_1 := a0_1) (l0_2 := l0_2) (A0_2 := A0_2) (c0_2 := c0_2) (hr0_2 := hr0_2) (hc0_2 := hc0_2) (a0_3 := a0_3) (a0_4 := a0_4) (l0_5 := l0_5) (A0_5 := A0_5) (c0_5 := c0_5) (hr0_5 := hr0_5) (hc0_5 := hc0_5) (a1_0 := a1_0) (a1_1 := a1_1) (a1_2 := a1_2) (h := hk)).mono fun e W' he => ?_
  obtain ⟨rfl, hd⟩ := he
  have bel : Below W.heap.size W W' := by first | exact hd | exact hd.below
  exact ⟨_, rfl, _, _, _, [], _, [], hW', trodAll_mk1 (shut_bool Try.underlying4 _), (trodAll_cons_mk (Below.trod laidOut (by kernel_rfl) (of_decide_eq_true (by kernel_rfl)) k0 bel lt0) (trodAll_cons_mk (Below.trod laidOut (by kernel_rfl) (of_decide_eq_true (by kernel_rfl)) k1 bel lt1) trodAll_mk0)), rfl, bel.frame _, fun h => by cases h⟩
theorem over : Rows.fnExactStepLeaseRow.holds Try.pinned (OpenSpec.ofChange Rows.fnExactStepLeaseSpec) :=
  OpenClaim.holds_of_wide 7 Try.f7 rfl rfl rfl rfl rfl rfl rfl ⟨rfl, rfl, rfl, rfl, rfl⟩ rfl rfl rfl rfl rfl (by kernel_rfl) Try.func7 (by kernel_rfl)
    (of_decide_eq_true (by kernel_rfl)) (by unfold Func.isWrapper; first | (rw [if_pos (by decide +kernel)]; kernel_rfl) | (rw [if_neg (by decide +kernel)]; exact ⟨rfl, rfl⟩))
    (fun os started H enc _ => lifted os started H enc)
end Go.Proofs.Ytbnadnfggpnbgaa.fnExactStepLease
namespace Go.Proofs.Ytbnadnfggpnbgaa
/-- The given statement. -/
theorem fnExactStepLease_holds : Rows.FnExactStepLeaseSaid := fnExactStepLease.over
#print axioms fnExactStepLease_holds
end Go.Proofs.Ytbnadnfggpnbgaa
