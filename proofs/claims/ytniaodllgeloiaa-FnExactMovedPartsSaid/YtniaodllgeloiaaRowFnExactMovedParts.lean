/- What this text proves: the given statement of laws.FnExactMovedParts, out of its pure form (YtniaodllgeloiaaPureFnExactMovedParts) and the contract of the machine's call.
   Conditions: none. -/
import Derived.Test.YtniaodllgeloiaaRows
import Derived.Test.YtniaodllgeloiaaPMPx9
import Derived.Test.YtniaodllgeloiaaPureFnExactMovedParts
import Derived.Test.YtniaodllgeloiaaOpen
import Derived.WalkKit
import Derived.ProofKit
import Derived.OpenShut
import Derived.ShutString
import Derived.ChangeOld
import Derived.Below
import Derived.SizedLaws
namespace Go.Proofs.Ytniaodllgeloiaa.fnExactMovedParts
open Go.ChangeShapes Go.WideShapes Go.ChangeAt Go.RowKit Go.Proofs.Ytniaodllgeloiaa.Open Go.Proofs.YtniaodllgeloiaaW.PrintWords Go.Proofs.Ytniaodllgeloiaa.PMP
set_option linter.unusedVariables false
theorem own : ownKnob Try.prog.godebug = none := by kernel_rfl
theorem laidOut : laidOutB Try.prog = true := by kernel_rfl
set_option maxHeartbeats 1000000 in
set_option maxRecDepth 100000 in
theorem lifted (os : Os) (started : os.Started) (H : Type) (enc : TypeId × Value → H) :
    ReturnsInHanded {} Try.checked os 10 .any (Rows.fnExactMovedPartsSpec.pre6 enc Try.prog Try.f10 Rows.fnExactMovedPartsRow.domain false) (Rows.fnExactMovedPartsSpec.post enc Try.prog Try.f10 false true false false) := by
  refine returnsInHanded_of_change_sized (C := Try.checked) own started (by kernel_rfl) Try.func10
    (ChangeSpec.witness6 (enc := enc) (C := Try.checked) false ⟨#[], #[.agg #[.int .i64 0, .slice none 0 0, .slice none 0 0], .agg #[.int .i64 0, .slice none 0 0, .slice none 0 0]], []⟩ 8 (by kernel_rfl) (by kernel_rfl) (by kernel_rfl) (by kernel_rfl)) ?_
  intro W base args ds gs before hval0 hW hcnd hsz0 _
  have hval : ∀ (j : Nat) t v, Try.f10.params[j]? = some t → args[j]? = some v → Value.okWide Try.prog W .any base t v := hval0
  have hW' := hW
  obtain ⟨p, q, hA0, hV, rfl, hfz, hnd⟩ := hW
  have hA : DataW.TrodAll enc Try.prog W 0 (fun _ => true) true Try.f10.params.toList args.toList ds p := hA0
  rw [Try.params10] at hA hval
  obtain ⟨v0, vs0, d0, ds0, p0, q0, hargs, rfl, rfl, h0, r0⟩ := trodAll_cons hA
  obtain ⟨v1, vs1, d1, ds1, p1, q1, rfl, rfl, rfl, h1, r1⟩ := trodAll_cons r0
  obtain ⟨rfl, rfl, rfl⟩ := trodAll_nil r1
  obtain rfl : args = #[v0, v1] := by cases args; simp_all
  obtain ⟨rfl, rfl⟩ := trodVars_none hV
  have k0 := h0
  have lt0 : ∀ x ∈ p0, x.block < W.heap.size := by obtain ⟨m, hm⟩ := k0; exact DataW.trod_lt m _ _ _ hm
  obtain ⟨fuel0, hf0⟩ := h0
  obtain ⟨cs0, rfl, _⟩ := okWide_struct Try.underlying47 (hval 0 47 v0 rfl rfl)
  obtain ⟨L0, rfl⟩ : ∃ L : List Value, cs0 = L.toArray := ⟨cs0.toList, by simp⟩
  have hf0' : DataW.trod enc Try.prog W 0 (fun _ => true) true fuel0 47 L0 = some (d0, p0) := by simpa [Value.cells] using hf0
  obtain ⟨⟨a0_0, l0_1, l0_2⟩, hk0, w0⟩ := ((Opens.struct Try.underlying47 (by kernel_rfl) (Fits.cons rfl op3 (Fits.cons rfl op33 (Fits.one rfl op45))))).op enc W 0 (fun _ => true) true fuel0 L0 _ hf0'
  obtain ⟨_, _, rfl, rfl, ⟨_, _, rfl, ⟨A0_1, c0_1, rfl, hc0_1, hr0_1⟩, ⟨A0_2, c0_2, rfl, hc0_2, hr0_2⟩⟩⟩ := hk0
  have k1 := h1
  have lt1 : ∀ x ∈ p1, x.block < W.heap.size := by obtain ⟨m, hm⟩ := k1; exact DataW.trod_lt m _ _ _ hm
  obtain ⟨fuel1, hf1⟩ := h1
  obtain ⟨cs1, rfl, _⟩ := okWide_struct Try.underlying47 (hval 1 47 v1 rfl rfl)
  obtain ⟨L1, rfl⟩ : ∃ L : List Value, cs1 = L.toArray := ⟨cs1.toList, by simp⟩
  have hf1' : DataW.trod enc Try.prog W 0 (fun _ => true) true fuel1 47 L1 = some (d1, p1) := by simpa [Value.cells] using hf1
  obtain ⟨⟨a1_0, l1_1, l1_2⟩, hk1, w1⟩ := ((Opens.struct Try.underlying47 (by kernel_rfl) (Fits.cons rfl op3 (Fits.cons rfl op33 (Fits.one rfl op45))))).op enc W 0 (fun _ => true) true fuel1 L1 _ hf1'
  obtain ⟨_, _, rfl, rfl, ⟨_, _, rfl, ⟨A1_1, c1_1, rfl, hc1_1, hr1_1⟩, ⟨A1_2, c1_2, rfl, hc1_2, hr1_2⟩⟩⟩ := hk1
  clear hA0 hval0 hval hsz0 hA hV hfz hnd hcnd
  obtain ⟨k, hk⟩ := Go.Proofs.Ytniaodllgeloiaa.PureFnExactMovedParts.holds a0_0 l0_1 l0_2 a1_0 l1_1 l1_2 w0 w1
  refine (Go.Proofs.Ytniaodllgeloiaa.PMP.laws_FnExactMovedParts.calls (k := k) (r := true) (w := W) (a0_0 := a0_0) (l0_1 := l0_1) (A0_1 := A0_1) (c0_1 := c0_1) (hr0_1 := hr0_1) (hc0_1 := hc0_1) (l0_2 := l0_2) (A0_2 := A0_2) (c0_2 := c0_2) (hr0_2 := hr0_2) (hc0_2 := hc0_2) (a1_0 := a1_0) (l1_1 := l1_1) (A1_1 := A1_1) (c1_1 := c1_1) (hr1_1 := hr1_1) (hc1_1 := hc1_1) (l1_2 := l1_2) (A1_2 := A1_2) (c1_2 := c1_2) (hr1_2 := hr1_2) (hc1_2 := hc1_2) (h := hk)).mono fun e W' he => ?_
  obtain ⟨rfl, hd⟩ := he
  have bel : Below W.heap.size W W' := by first | exact hd | exact hd.below
  exact ⟨_, rfl, _, _, _, [], _, [], hW', trodAll_mk1 (shut_bool Try.underlying4 _), (trodAll_cons_mk (Below.trod laidOut (by kernel_rfl) (of_decide_eq_true (by kernel_rfl)) k0 bel lt0) (trodAll_cons_mk (Below.trod laidOut (by kernel_rfl) (of_decide_eq_true (by kernel_rfl)) k1 bel lt1) trodAll_mk0)), rfl, bel.frame _, fun h => by cases h⟩
theorem over : Rows.fnExactMovedPartsRow.holds Try.pinned (OpenSpec.ofChange Rows.fnExactMovedPartsSpec) :=
  OpenClaim.holds_of_wide 10 Try.f10 rfl rfl rfl rfl rfl rfl rfl ⟨rfl, rfl, rfl, rfl, rfl⟩ rfl rfl rfl rfl rfl (by kernel_rfl) Try.func10 (by kernel_rfl)
    (of_decide_eq_true (by kernel_rfl)) (by unfold Func.isWrapper; first | (rw [if_pos (by decide +kernel)]; kernel_rfl) | (rw [if_neg (by decide +kernel)]; exact ⟨rfl, rfl⟩))
    (fun os started H enc _ => lifted os started H enc)
end Go.Proofs.Ytniaodllgeloiaa.fnExactMovedParts
namespace Go.Proofs.Ytniaodllgeloiaa
/-- The given statement. -/
theorem fnExactMovedParts_holds : Rows.FnExactMovedPartsSaid := fnExactMovedParts.over
#print axioms fnExactMovedParts_holds
end Go.Proofs.Ytniaodllgeloiaa
