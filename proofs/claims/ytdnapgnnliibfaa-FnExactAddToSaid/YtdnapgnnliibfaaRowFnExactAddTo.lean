/- What this text proves: the given statement of laws.FnExactAddTo, out of its pure form (YtdnapgnnliibfaaPureFnExactAddTo) and the contract of the machine's call.
   Conditions: none. -/
import Derived.Test.YtdnapgnnliibfaaRows
import Derived.Test.YtdnapgnnliibfaaPATx23
import Derived.Test.YtdnapgnnliibfaaPureFnExactAddTo
import Derived.Test.YtdnapgnnliibfaaOpen
import Derived.WalkKit
import Derived.ProofKit
import Derived.OpenShut
import Derived.ShutString
import Derived.ChangeOld
import Derived.Below
import Derived.SizedLaws
namespace Go.Proofs.Ytdnapgnnliibfaa.fnExactAddTo
open Go.ChangeShapes Go.WideShapes Go.ChangeAt Go.RowKit Go.Proofs.Ytdnapgnnliibfaa.Open Go.Proofs.YtdnapgnnliibfaaW.PrintWords Go.Proofs.Ytdnapgnnliibfaa.PAT
set_option linter.unusedVariables false
theorem own : ownKnob Try.prog.godebug = none := by kernel_rfl
theorem laidOut : laidOutB Try.prog = true := by kernel_rfl
set_option maxHeartbeats 1000000 in
set_option maxRecDepth 100000 in
theorem lifted (os : Os) (started : os.Started) (H : Type) (enc : TypeId × Value → H) :
    ReturnsInHanded {} Try.checked os 7 .any (Rows.fnExactAddToSpec.pre6 enc Try.prog Try.f7 Rows.fnExactAddToRow.domain false) (Rows.fnExactAddToSpec.post enc Try.prog Try.f7 false true false false) := by
  refine returnsInHanded_of_change_sized (C := Try.checked) own started (by kernel_rfl) Try.func7
    (ChangeSpec.witness6 (enc := enc) (C := Try.checked) false ⟨#[], #[.agg #[.slice none 0 0, .slice none 0 0], .int .i64 0, .string ByteArray.empty], []⟩ 8 (by kernel_rfl) (by kernel_rfl) (by kernel_rfl) (by kernel_rfl)) ?_
  intro W base args ds gs before hval0 hW hcnd hsz0 _
  have hval : ∀ (j : Nat) t v, Try.f7.params[j]? = some t → args[j]? = some v → Value.okWide Try.prog W .any base t v := hval0
  have hW' := hW
  obtain ⟨p, q, hA0, hV, rfl, hfz, hnd⟩ := hW
  have hA : DataW.TrodAll enc Try.prog W 0 (fun _ => true) true Try.f7.params.toList args.toList ds p := hA0
  rw [Try.params7] at hA hval
  obtain ⟨v0, vs0, d0, ds0, p0, q0, hargs, rfl, rfl, h0, r0⟩ := trodAll_cons hA
  obtain ⟨v1, vs1, d1, ds1, p1, q1, rfl, rfl, rfl, h1, r1⟩ := trodAll_cons r0
  obtain ⟨v2, vs2, d2, ds2, p2, q2, rfl, rfl, rfl, h2, r2⟩ := trodAll_cons r1
  obtain ⟨rfl, rfl, rfl⟩ := trodAll_nil r2
  obtain rfl : args = #[v0, v1, v2] := by cases args; simp_all
  obtain ⟨rfl, rfl⟩ := trodVars_none hV
  have k0 := h0
  have lt0 : ∀ x ∈ p0, x.block < W.heap.size := by obtain ⟨m, hm⟩ := k0; exact DataW.trod_lt m _ _ _ hm
  obtain ⟨fuel0, hf0⟩ := h0
  obtain ⟨cs0, rfl, _⟩ := okWide_struct Try.underlying24 (hval 0 24 v0 rfl rfl)
  obtain ⟨L0, rfl⟩ : ∃ L : List Value, cs0 = L.toArray := ⟨cs0.toList, by simp⟩
  have hf0' : DataW.trod enc Try.prog W 0 (fun _ => true) true fuel0 24 L0 = some (d0, p0) := by simpa [Value.cells] using hf0
  obtain ⟨⟨l0_0, l0_1⟩, hk0, w0⟩ := ((Opens.struct Try.underlying24 (by kernel_rfl) (Fits.cons rfl op22 (Fits.one rfl op22)))).op enc W 0 (fun _ => true) true fuel0 L0 _ hf0'
  obtain ⟨_, _, rfl, ⟨A0_0, c0_0, rfl, hc0_0, hr0_0⟩, ⟨A0_1, c0_1, rfl, hc0_1, hr0_1⟩⟩ := hk0
  have k1 := h1
  have lt1 : ∀ x ∈ p1, x.block < W.heap.size := by obtain ⟨m, hm⟩ := k1; exact DataW.trod_lt m _ _ _ hm
  obtain ⟨fuel1, hf1⟩ := h1
  obtain ⟨u1, rfl⟩ := okWide_int Try.underlying3 (hval 1 3 v1 rfl rfl)
  obtain ⟨a1, hk1, w1⟩ := (op3).op enc W 0 (fun _ => true) true fuel1 _ _ hf1
  have he1 : [Value.int .i64 u1] = [Value.int .i64 a1] := hk1
  obtain rfl : a1 = u1 := by injection he1 with e1 e2; first | (injection e1 with e3 e4; first | exact e3.symm | exact e4.symm) | (injection e1 with e3; exact e3.symm)
  have k2 := h2
  have lt2 : ∀ x ∈ p2, x.block < W.heap.size := by obtain ⟨m, hm⟩ := k2; exact DataW.trod_lt m _ _ _ hm
  obtain ⟨fuel2, hf2⟩ := h2
  obtain ⟨u2, rfl⟩ := okWide_string Try.underlying9 (hval 2 9 v2 rfl rfl)
  obtain ⟨a2, hk2, w2⟩ := (op9).op enc W 0 (fun _ => true) true fuel2 _ _ hf2
  have he2 : [Value.string u2] = [Value.string a2] := hk2
  obtain rfl : a2 = u2 := by injection he2 with e1 e2; first | (injection e1 with e3 e4; first | exact e3.symm | exact e4.symm) | (injection e1 with e3; exact e3.symm)
  clear hA0 hval0 hval hsz0 hA hV hfz hnd hcnd
  obtain ⟨k, hk⟩ := Go.Proofs.Ytdnapgnnliibfaa.PureFnExactAddTo.holds l0_0 l0_1 a1 a2 w0 w1 w2
  refine (Go.Proofs.Ytdnapgnnliibfaa.PAT.laws_FnExactAddTo.calls (k := k) (r := true) (w := W) (l0_0 := l0_0) (A0_0 := A0_0) (c0_0 := c0_0) (hr0_0 := hr0_0) (hc0_0 := hc0_0) (l0_1 := l0_1) (A0_1 := A0_1) (c0_1 := c0_1) (hr0_1 := hr0_1) (hc0_1 := hc0_1) (a1 := a1) (a2 := a2) (h := hk)).mono fun e W' he => ?_
  obtain ⟨rfl, hd⟩ := he
  have bel : Below W.heap.size W W' := by first | exact hd | exact hd.below
  exact ⟨_, rfl, _, _, _, [], _, [], hW', trodAll_mk1 (shut_bool Try.underlying4 _), (trodAll_cons_mk (Below.trod laidOut (by kernel_rfl) (of_decide_eq_true (by kernel_rfl)) k0 bel lt0) (trodAll_cons_mk (Below.trod laidOut (by kernel_rfl) (of_decide_eq_true (by kernel_rfl)) k1 bel lt1) (trodAll_cons_mk (Below.trod laidOut (by kernel_rfl) (of_decide_eq_true (by kernel_rfl)) k2 bel lt2) trodAll_mk0))), rfl, bel.frame _, fun h => by cases h⟩
theorem over : Rows.fnExactAddToRow.holds Try.pinned (OpenSpec.ofChange Rows.fnExactAddToSpec) :=
  OpenClaim.holds_of_wide 7 Try.f7 rfl rfl rfl rfl rfl rfl rfl ⟨rfl, rfl, rfl, rfl, rfl⟩ rfl rfl rfl rfl rfl (by kernel_rfl) Try.func7 (by kernel_rfl)
    (of_decide_eq_true (by kernel_rfl)) (by unfold Func.isWrapper; first | (rw [if_pos (by decide +kernel)]; kernel_rfl) | (rw [if_neg (by decide +kernel)]; exact ⟨rfl, rfl⟩))
    (fun os started H enc _ => lifted os started H enc)
end Go.Proofs.Ytdnapgnnliibfaa.fnExactAddTo
namespace Go.Proofs.Ytdnapgnnliibfaa
/-- The given statement. -/
theorem fnExactAddTo_holds : Rows.FnExactAddToSaid := fnExactAddTo.over
#print axioms fnExactAddTo_holds
end Go.Proofs.Ytdnapgnnliibfaa
