/- What this text proves: the given statement of laws.FnExactMergeBag, out of its pure form (YtdnapgnnliibfaaPureFnExactMergeBag) and the contract of the machine's call.
   Conditions: none. -/
import Derived.Test.YtdnapgnnliibfaaRows
import Derived.Test.YtdnapgnnliibfaaPMBx47
import Derived.Test.YtdnapgnnliibfaaPureFnExactMergeBag
import Derived.Test.YtdnapgnnliibfaaOpen
import Derived.WalkKit
import Derived.ProofKit
import Derived.OpenShut
import Derived.ShutString
import Derived.ChangeOld
import Derived.Below
import Derived.SizedLaws
namespace Go.Proofs.Ytdnapgnnliibfaa.fnExactMergeBag
open Go.ChangeShapes Go.WideShapes Go.ChangeAt Go.RowKit Go.Proofs.Ytdnapgnnliibfaa.Open Go.Proofs.YtdnapgnnliibfaaW.PrintWords Go.Proofs.Ytdnapgnnliibfaa.PMB
set_option linter.unusedVariables false
theorem own : ownKnob Try.prog.godebug = none := by kernel_rfl
theorem laidOut : laidOutB Try.prog = true := by kernel_rfl
set_option maxHeartbeats 1000000 in
set_option maxRecDepth 100000 in
theorem lifted (os : Os) (started : os.Started) (H : Type) (enc : TypeId × Value → H) :
    ReturnsInHanded {} Try.checked os 5 .any (Rows.fnExactMergeBagSpec.pre6 enc Try.prog Try.f5 Rows.fnExactMergeBagRow.domain false) (Rows.fnExactMergeBagSpec.post enc Try.prog Try.f5 false true false false) := by
  refine returnsInHanded_of_change_sized (C := Try.checked) own started (by kernel_rfl) Try.func5
    (ChangeSpec.witness6 (enc := enc) (C := Try.checked) false ⟨#[], #[.agg #[.slice none 0 0, .slice none 0 0], .agg #[.slice none 0 0, .slice none 0 0]], []⟩ 8 (by kernel_rfl) (by kernel_rfl) (by kernel_rfl) (by kernel_rfl)) ?_
  intro W base args ds gs before hval0 hW hcnd hsz0 _
  have hval : ∀ (j : Nat) t v, Try.f5.params[j]? = some t → args[j]? = some v → Value.okWide Try.prog W .any base t v := hval0
  have hW' := hW
  obtain ⟨p, q, hA0, hV, rfl, hfz, hnd⟩ := hW
  have hA : DataW.TrodAll enc Try.prog W 0 (fun _ => true) true Try.f5.params.toList args.toList ds p := hA0
  rw [Try.params5] at hA hval
  obtain ⟨v0, vs0, d0, ds0, p0, q0, hargs, rfl, rfl, h0, r0⟩ := trodAll_cons hA
  obtain ⟨v1, vs1, d1, ds1, p1, q1, rfl, rfl, rfl, h1, r1⟩ := trodAll_cons r0
  obtain ⟨rfl, rfl, rfl⟩ := trodAll_nil r1
  obtain rfl : args = #[v0, v1] := by cases args; simp_all
  obtain ⟨rfl, rfl⟩ := trodVars_none hV
  have k0 := h0
  have lt0 : ∀ x ∈ p0, x.block < W.heap.size := by obtain ⟨m, hm⟩ := k0; exact DataW.trod_lt m _ _ _ hm
  obtain ⟨fuel0, hf0⟩ := h0
  obtain ⟨cs0, rfl, _⟩ := okWide_struct Try.underlying24 (hval 0 24 v0 rfl rfl)
  obtain ⟨L0, rfl⟩ : ∃ L : List Value, cs0 = L.toArray := ⟨cs0.toList, by simp⟩
  have hf0' : DataW.trod enc Try.prog W 0 (fun _ => true) true fuel0 24 L0 = some (d0, p0) := by simpa [Value.cells] using hf0
  obtain ⟨⟨l0_0, l0_1⟩, hk0, w0⟩ := ((Opens.struct Try.underlying24 (by kernel_rfl) (Fits.cons rfl op22 (Fits.one rfl op22)))).op enc W 0 (fun _ => true) true fuel0 L0 _ hf0'
  obtain ⟨_, _, rfl, ⟨A0_0, c0_0, rfl, hc0_0, hr0_0⟩, ⟨A0_1, c0_1, rfl, hc0_1, hr0_1⟩⟩ := hk0
  have k1 := h1
  have lt1 : ∀ x ∈ p1, x.block < W.heap.size := by obtain ⟨m, hm⟩ := k1; exact DataW.trod_lt m _ _ _ hm
  obtain ⟨fuel1, hf1⟩ := h1
  obtain ⟨cs1, rfl, _⟩ := okWide_struct Try.underlying24 (hval 1 24 v1 rfl rfl)
  obtain ⟨L1, rfl⟩ : ∃ L : List Value, cs1 = L.toArray := ⟨cs1.toList, by simp⟩
  have hf1' : DataW.trod enc Try.prog W 0 (fun _ => true) true fuel1 24 L1 = some (d1, p1) := by simpa [Value.cells] using hf1
  obtain ⟨⟨l1_0, l1_1⟩, hk1, w1⟩ := ((Opens.struct Try.underlying24 (by kernel_rfl) (Fits.cons rfl op22 (Fits.one rfl op22)))).op enc W 0 (fun _ => true) true fuel1 L1 _ hf1'
  obtain ⟨_, _, rfl, ⟨A1_0, c1_0, rfl, hc1_0, hr1_0⟩, ⟨A1_1, c1_1, rfl, hc1_1, hr1_1⟩⟩ := hk1
  clear hA0 hval0 hval hsz0 hA hV hfz hnd hcnd
  obtain ⟨k, hk⟩ := Go.Proofs.Ytdnapgnnliibfaa.PureFnExactMergeBag.holds l0_0 l0_1 l1_0 l1_1 w0 w1
  refine (Go.Proofs.Ytdnapgnnliibfaa.PMB.laws_FnExactMergeBag.calls (k := k) (r := true) (w := W) (l0_0 := l0_0) (A0_0 := A0_0) (c0_0 := c0_0) (hr0_0 := hr0_0) (hc0_0 := hc0_0) (l0_1 := l0_1) (A0_1 := A0_1) (c0_1 := c0_1) (hr0_1 := hr0_1) (hc0_1 := hc0_1) (l1_0 := l1_0) (A1_0 := A1_0) (c1_0 := c1_0) (hr1_0 := hr1_0) (hc1_0 := hc1_0) (l1_1 := l1_1) (A1_1 := A1_1) (c1_1 := c1_1) (hr1_1 := hr1_1) (hc1_1 := hc1_1) (h := hk)).mono fun e W' he => ?_
  obtain ⟨rfl, hd⟩ := he
  have bel : Below W.heap.size W W' := by first | exact hd | exact hd.below
  exact ⟨_, rfl, _, _, _, [], _, [], hW', trodAll_mk1 (shut_bool Try.underlying4 _), (trodAll_cons_mk (Below.trod laidOut (by kernel_rfl) (of_decide_eq_true (by kernel_rfl)) k0 bel lt0) (trodAll_cons_mk (Below.trod laidOut (by kernel_rfl) (of_decide_eq_true (by kernel_rfl)) k1 bel lt1) trodAll_mk0)), rfl, bel.frame _, fun h => by cases h⟩
theorem over : Rows.fnExactMergeBagRow.holds Try.pinned (OpenSpec.ofChange Rows.fnExactMergeBagSpec) :=
  OpenClaim.holds_of_wide 5 Try.f5 rfl rfl rfl rfl rfl rfl rfl ⟨rfl, rfl, rfl, rfl, rfl⟩ rfl rfl rfl rfl rfl (by kernel_rfl) Try.func5 (by kernel_rfl)
    (of_decide_eq_true (by kernel_rfl)) (by unfold Func.isWrapper; first | (rw [if_pos (by decide +kernel)]; kernel_rfl) | (rw [if_neg (by decide +kernel)]; exact ⟨rfl, rfl⟩))
    (fun os started H enc _ => lifted os started H enc)
end Go.Proofs.Ytdnapgnnliibfaa.fnExactMergeBag
namespace Go.Proofs.Ytdnapgnnliibfaa
/-- The given statement. -/
theorem fnExactMergeBag_holds : Rows.FnExactMergeBagSaid := fnExactMergeBag.over
#print axioms fnExactMergeBag_holds
end Go.Proofs.Ytdnapgnnliibfaa
