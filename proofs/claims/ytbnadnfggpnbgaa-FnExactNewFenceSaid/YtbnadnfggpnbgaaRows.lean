/-
  No cell of these rows narrows 'for every input' (looked for: loops, veiled, ifaces, maps, wideKeys, modest, calm, conditions, laid).
  DERIVED. THE GIVEN ROWS OF THIS SEAT. 9 by the template 'for every input the law returns true; each argument reads behind the call as it read before'; 0 by the template 'total and deterministic' (their statements: YtbnadnfggpnbgaaTotals.lean).
  GIVEN WITH THE SEED: the statements are not yours to turn. If you find one false, say at which input.
  Laid BY PROGRAM, IN A SANDBOX (cutbox-rows.mjs): the forced cells as the released guide's own fill.sh prints them over the translation 8425baf7ddcfc884… (all of the seat's roots in one cut). By AI agents, Wed Nov 11 2026. No macro, syntax, notation, axiom, sorry.
-/
import Derived.Test.YtbnadnfggpnbgaaChecked
import GoSem.Claim
import GoSem.ClaimJoined
import GoSem.ClaimMapViews
import Derived.JoinedTies
import Derived.KernelRfl
namespace Go.Proofs.Ytbnadnfggpnbgaa
/- THE CELL 'sum', in the pinned program and in every row, IS THE sha256 OF THE DUMP (.gsa) THAT YtbnadnfggpnbgaaProg.lean LOADS. Nothing in Lean hashes anything: it is a label: what it is worth is what the hold of that sum in a sandbox is worth. -/
noncomputable def Try.pinned : Pinned := { name := "ytbnadnfggpnbgaa", sum := "8425baf7ddcfc884dbef1a57c46f0cf4fbfbe6efcd6d15e7b01db42d2340005c", checked := Try.checked }
namespace Rows
def none {H : Type} : Left H := { results := [], args := [] }

/-- 'laws.FnExactNewLeases': WHATEVER THE INPUT: true; the input reads as it did. -/
def fnExactNewLeasesSpec : ChangeSpec := { name := "fnExactNewLeases", fn := fun _ => fun
  | [d1, d2] => { results := [.lit (.bool true)], args := [d1, d2] }
  | _ => none }
def fnExactNewLeasesRow : OpenClaim := { program := "ytbnadnfggpnbgaa", sum := "8425baf7ddcfc884dbef1a57c46f0cf4fbfbe6efcd6d15e7b01db42d2340005c", func := "loop.example/g00218/laws.FnExactNewLeases", spec := "fnExactNewLeases", apart := false }
def FnExactNewLeasesSaid : Prop := fnExactNewLeasesRow.holds Try.pinned (OpenSpec.ofChange fnExactNewLeasesSpec)

/-- ITS FALSE NEIGHBOUR: 'it returns false'. Refute it at one input. -/
def fnExactNewLeasesWrong : ChangeSpec := { name := "fnExactNewLeases", fn := fun _ => fun
  | [d1, d2] => { results := [.lit (.bool false)], args := [d1, d2] }
  | _ => none }
def FnExactNewLeasesWrongFalsely : Prop := fnExactNewLeasesRow.holds Try.pinned (OpenSpec.ofChange fnExactNewLeasesWrong)

/-- 'laws.FnExactGoodLeases': WHATEVER THE INPUT: true; the input reads as it did. -/
def fnExactGoodLeasesSpec : ChangeSpec := { name := "fnExactGoodLeases", fn := fun _ => fun
  | [d] => { results := [.lit (.bool true)], args := [d] }
  | _ => none }
def fnExactGoodLeasesRow : OpenClaim := { program := "ytbnadnfggpnbgaa", sum := "8425baf7ddcfc884dbef1a57c46f0cf4fbfbe6efcd6d15e7b01db42d2340005c", func := "loop.example/g00218/laws.FnExactGoodLeases", spec := "fnExactGoodLeases", apart := false }
def FnExactGoodLeasesSaid : Prop := fnExactGoodLeasesRow.holds Try.pinned (OpenSpec.ofChange fnExactGoodLeasesSpec)

/-- ITS FALSE NEIGHBOUR: 'it returns false'. Refute it at one input. -/
def fnExactGoodLeasesWrong : ChangeSpec := { name := "fnExactGoodLeases", fn := fun _ => fun
  | [d] => { results := [.lit (.bool false)], args := [d] }
  | _ => none }
def FnExactGoodLeasesWrongFalsely : Prop := fnExactGoodLeasesRow.holds Try.pinned (OpenSpec.ofChange fnExactGoodLeasesWrong)

/-- 'laws.FnExactSafeUntil': WHATEVER THE INPUT: true; the input reads as it did. -/
def fnExactSafeUntilSpec : ChangeSpec := { name := "fnExactSafeUntil", fn := fun _ => fun
  | [d1, d2] => { results := [.lit (.bool true)], args := [d1, d2] }
  | _ => none }
def fnExactSafeUntilRow : OpenClaim := { program := "ytbnadnfggpnbgaa", sum := "8425baf7ddcfc884dbef1a57c46f0cf4fbfbe6efcd6d15e7b01db42d2340005c", func := "loop.example/g00218/laws.FnExactSafeUntil", spec := "fnExactSafeUntil", apart := false }
def FnExactSafeUntilSaid : Prop := fnExactSafeUntilRow.holds Try.pinned (OpenSpec.ofChange fnExactSafeUntilSpec)

/-- ITS FALSE NEIGHBOUR: 'it returns false'. Refute it at one input. -/
def fnExactSafeUntilWrong : ChangeSpec := { name := "fnExactSafeUntil", fn := fun _ => fun
  | [d1, d2] => { results := [.lit (.bool false)], args := [d1, d2] }
  | _ => none }
def FnExactSafeUntilWrongFalsely : Prop := fnExactSafeUntilRow.holds Try.pinned (OpenSpec.ofChange fnExactSafeUntilWrong)

/-- 'laws.FnExactBelieversOf': WHATEVER THE INPUT: true; the input reads as it did. -/
def fnExactBelieversOfSpec : ChangeSpec := { name := "fnExactBelieversOf", fn := fun _ => fun
  | [d] => { results := [.lit (.bool true)], args := [d] }
  | _ => none }
def fnExactBelieversOfRow : OpenClaim := { program := "ytbnadnfggpnbgaa", sum := "8425baf7ddcfc884dbef1a57c46f0cf4fbfbe6efcd6d15e7b01db42d2340005c", func := "loop.example/g00218/laws.FnExactBelieversOf", spec := "fnExactBelieversOf", apart := false }
def FnExactBelieversOfSaid : Prop := fnExactBelieversOfRow.holds Try.pinned (OpenSpec.ofChange fnExactBelieversOfSpec)

/-- ITS FALSE NEIGHBOUR: 'it returns false'. Refute it at one input. -/
def fnExactBelieversOfWrong : ChangeSpec := { name := "fnExactBelieversOf", fn := fun _ => fun
  | [d] => { results := [.lit (.bool false)], args := [d] }
  | _ => none }
def FnExactBelieversOfWrongFalsely : Prop := fnExactBelieversOfRow.holds Try.pinned (OpenSpec.ofChange fnExactBelieversOfWrong)

/-- 'laws.FnExactStepLease': WHATEVER THE INPUT: true; the input reads as it did. -/
def fnExactStepLeaseSpec : ChangeSpec := { name := "fnExactStepLease", fn := fun _ => fun
  | [d1, d2] => { results := [.lit (.bool true)], args := [d1, d2] }
  | _ => none }
def fnExactStepLeaseRow : OpenClaim := { program := "ytbnadnfggpnbgaa", sum := "8425baf7ddcfc884dbef1a57c46f0cf4fbfbe6efcd6d15e7b01db42d2340005c", func := "loop.example/g00218/laws.FnExactStepLease", spec := "fnExactStepLease", apart := false }
def FnExactStepLeaseSaid : Prop := fnExactStepLeaseRow.holds Try.pinned (OpenSpec.ofChange fnExactStepLeaseSpec)

/-- ITS FALSE NEIGHBOUR: 'it returns false'. Refute it at one input. -/
def fnExactStepLeaseWrong : ChangeSpec := { name := "fnExactStepLease", fn := fun _ => fun
  | [d1, d2] => { results := [.lit (.bool false)], args := [d1, d2] }
  | _ => none }
def FnExactStepLeaseWrongFalsely : Prop := fnExactStepLeaseRow.holds Try.pinned (OpenSpec.ofChange fnExactStepLeaseWrong)

/-- 'laws.FnExactNewFence': WHATEVER THE INPUT: true; the input reads as it did. -/
def fnExactNewFenceSpec : ChangeSpec := { name := "fnExactNewFence", fn := fun _ => fun
  | [d] => { results := [.lit (.bool true)], args := [d] }
  | _ => none }
def fnExactNewFenceRow : OpenClaim := { program := "ytbnadnfggpnbgaa", sum := "8425baf7ddcfc884dbef1a57c46f0cf4fbfbe6efcd6d15e7b01db42d2340005c", func := "loop.example/g00218/laws.FnExactNewFence", spec := "fnExactNewFence", apart := false }
def FnExactNewFenceSaid : Prop := fnExactNewFenceRow.holds Try.pinned (OpenSpec.ofChange fnExactNewFenceSpec)

/-- ITS FALSE NEIGHBOUR: 'it returns false'. Refute it at one input. -/
def fnExactNewFenceWrong : ChangeSpec := { name := "fnExactNewFence", fn := fun _ => fun
  | [d] => { results := [.lit (.bool false)], args := [d] }
  | _ => none }
def FnExactNewFenceWrongFalsely : Prop := fnExactNewFenceRow.holds Try.pinned (OpenSpec.ofChange fnExactNewFenceWrong)

/-- 'laws.FnExactGoodFence': WHATEVER THE INPUT: true; the input reads as it did. -/
def fnExactGoodFenceSpec : ChangeSpec := { name := "fnExactGoodFence", fn := fun _ => fun
  | [d] => { results := [.lit (.bool true)], args := [d] }
  | _ => none }
def fnExactGoodFenceRow : OpenClaim := { program := "ytbnadnfggpnbgaa", sum := "8425baf7ddcfc884dbef1a57c46f0cf4fbfbe6efcd6d15e7b01db42d2340005c", func := "loop.example/g00218/laws.FnExactGoodFence", spec := "fnExactGoodFence", unfollowed := true, recurses := true, apart := false }
def FnExactGoodFenceSaid : Prop := fnExactGoodFenceRow.holds Try.pinned (OpenSpec.ofChange fnExactGoodFenceSpec)

/-- ITS FALSE NEIGHBOUR: 'it returns false'. Refute it at one input. -/
def fnExactGoodFenceWrong : ChangeSpec := { name := "fnExactGoodFence", fn := fun _ => fun
  | [d] => { results := [.lit (.bool false)], args := [d] }
  | _ => none }
def FnExactGoodFenceWrongFalsely : Prop := fnExactGoodFenceRow.holds Try.pinned (OpenSpec.ofChange fnExactGoodFenceWrong)

/-- 'laws.FnExactLeastEpoch': WHATEVER THE INPUT: true; the input reads as it did. -/
def fnExactLeastEpochSpec : ChangeSpec := { name := "fnExactLeastEpoch", fn := fun _ => fun
  | [d] => { results := [.lit (.bool true)], args := [d] }
  | _ => none }
def fnExactLeastEpochRow : OpenClaim := { program := "ytbnadnfggpnbgaa", sum := "8425baf7ddcfc884dbef1a57c46f0cf4fbfbe6efcd6d15e7b01db42d2340005c", func := "loop.example/g00218/laws.FnExactLeastEpoch", spec := "fnExactLeastEpoch", unfollowed := true, recurses := true, apart := false }
def FnExactLeastEpochSaid : Prop := fnExactLeastEpochRow.holds Try.pinned (OpenSpec.ofChange fnExactLeastEpochSpec)

/-- ITS FALSE NEIGHBOUR: 'it returns false'. Refute it at one input. -/
def fnExactLeastEpochWrong : ChangeSpec := { name := "fnExactLeastEpoch", fn := fun _ => fun
  | [d] => { results := [.lit (.bool false)], args := [d] }
  | _ => none }
def FnExactLeastEpochWrongFalsely : Prop := fnExactLeastEpochRow.holds Try.pinned (OpenSpec.ofChange fnExactLeastEpochWrong)

/-- 'laws.FnExactLastingIn': WHATEVER THE INPUT: true; the input reads as it did. -/
def fnExactLastingInSpec : ChangeSpec := { name := "fnExactLastingIn", fn := fun _ => fun
  | [d] => { results := [.lit (.bool true)], args := [d] }
  | _ => none }
def fnExactLastingInRow : OpenClaim := { program := "ytbnadnfggpnbgaa", sum := "8425baf7ddcfc884dbef1a57c46f0cf4fbfbe6efcd6d15e7b01db42d2340005c", func := "loop.example/g00218/laws.FnExactLastingIn", spec := "fnExactLastingIn", unfollowed := true, recurses := true, apart := false }
def FnExactLastingInSaid : Prop := fnExactLastingInRow.holds Try.pinned (OpenSpec.ofChange fnExactLastingInSpec)

/-- ITS FALSE NEIGHBOUR: 'it returns false'. Refute it at one input. -/
def fnExactLastingInWrong : ChangeSpec := { name := "fnExactLastingIn", fn := fun _ => fun
  | [d] => { results := [.lit (.bool false)], args := [d] }
  | _ => none }
def FnExactLastingInWrongFalsely : Prop := fnExactLastingInRow.holds Try.pinned (OpenSpec.ofChange fnExactLastingInWrong)

/- THE SECOND FORM. 'bulk': how many values and letters a reading holds, each counted each time it is reached (what is shared counts as often as it is met; a slice's spare places count too). A statement '..UptoSaid' is the law's where the arguments, and the package variables that the reading takes, are together of bulk at most 1048576: NARROWER than '..Said'. Prove '..Said' where nothing that the law and all that it calls make is longer than what came in: it says more and counts as full. Else prove '..UptoSaid'. A law counts once. -/
mutual
def uptoBulk {H : Type} : DataW H → Nat
  | .lit (.string bytes) => bytes.length + 1
  | .lit _ => 1
  | .nil => 1
  | .ptr d => uptoBulk d + 1
  | .slice elems spare => uptoBulkAll elems + uptoBulkAll spare + 1
  | .agg parts => uptoBulkAll parts + 1
  | .iface _ d => uptoBulk d + 1
  | .map entries => uptoBulkEntries entries + 1
  | .held _ => 1
def uptoBulkAll {H : Type} : List (DataW H) → Nat
  | [] => 0
  | d :: r => uptoBulk d + uptoBulkAll r
def uptoBulkEntries {H : Type} : List (Lit × DataW H) → Nat
  | [] => 0
  | x :: r => uptoBulkEntry x + uptoBulkEntries r
def uptoBulkEntry {H : Type} : Lit × DataW H → Nat
  | (.string bytes, d) => bytes.length + uptoBulk d + 1
  | (_, d) => uptoBulk d + 1
 end
def uptoSmall : (H : Type) → List (DataW H) → Bool := fun _ ds => decide (uptoBulkAll ds ≤ 1048576)
def OpenSpec.upto (s : _root_.Go.ChangeSpec) : _root_.Go.OpenSpec := { _root_.Go.OpenSpec.ofChange s with cond := some uptoSmall }

/-- 'laws.FnExactNewLeases', WHERE WHAT IT READS IS OF BULK AT MOST 1048576: true; the input reads as it did. -/
def fnExactNewLeasesUptoRow : OpenClaim := { program := "ytbnadnfggpnbgaa", sum := "8425baf7ddcfc884dbef1a57c46f0cf4fbfbe6efcd6d15e7b01db42d2340005c", func := "loop.example/g00218/laws.FnExactNewLeases", spec := "fnExactNewLeases", apart := false, narrowed := true }
def FnExactNewLeasesUptoSaid : Prop := fnExactNewLeasesUptoRow.holds Try.pinned (OpenSpec.upto fnExactNewLeasesSpec)

/-- 'laws.FnExactGoodLeases', WHERE WHAT IT READS IS OF BULK AT MOST 1048576: true; the input reads as it did. -/
def fnExactGoodLeasesUptoRow : OpenClaim := { program := "ytbnadnfggpnbgaa", sum := "8425baf7ddcfc884dbef1a57c46f0cf4fbfbe6efcd6d15e7b01db42d2340005c", func := "loop.example/g00218/laws.FnExactGoodLeases", spec := "fnExactGoodLeases", apart := false, narrowed := true }
def FnExactGoodLeasesUptoSaid : Prop := fnExactGoodLeasesUptoRow.holds Try.pinned (OpenSpec.upto fnExactGoodLeasesSpec)

/-- 'laws.FnExactSafeUntil', WHERE WHAT IT READS IS OF BULK AT MOST 1048576: true; the input reads as it did. -/
def fnExactSafeUntilUptoRow : OpenClaim := { program := "ytbnadnfggpnbgaa", sum := "8425baf7ddcfc884dbef1a57c46f0cf4fbfbe6efcd6d15e7b01db42d2340005c", func := "loop.example/g00218/laws.FnExactSafeUntil", spec := "fnExactSafeUntil", apart := false, narrowed := true }
def FnExactSafeUntilUptoSaid : Prop := fnExactSafeUntilUptoRow.holds Try.pinned (OpenSpec.upto fnExactSafeUntilSpec)

/-- 'laws.FnExactBelieversOf', WHERE WHAT IT READS IS OF BULK AT MOST 1048576: true; the input reads as it did. -/
def fnExactBelieversOfUptoRow : OpenClaim := { program := "ytbnadnfggpnbgaa", sum := "8425baf7ddcfc884dbef1a57c46f0cf4fbfbe6efcd6d15e7b01db42d2340005c", func := "loop.example/g00218/laws.FnExactBelieversOf", spec := "fnExactBelieversOf", apart := false, narrowed := true }
def FnExactBelieversOfUptoSaid : Prop := fnExactBelieversOfUptoRow.holds Try.pinned (OpenSpec.upto fnExactBelieversOfSpec)

/-- 'laws.FnExactStepLease', WHERE WHAT IT READS IS OF BULK AT MOST 1048576: true; the input reads as it did. -/
def fnExactStepLeaseUptoRow : OpenClaim := { program := "ytbnadnfggpnbgaa", sum := "8425baf7ddcfc884dbef1a57c46f0cf4fbfbe6efcd6d15e7b01db42d2340005c", func := "loop.example/g00218/laws.FnExactStepLease", spec := "fnExactStepLease", apart := false, narrowed := true }
def FnExactStepLeaseUptoSaid : Prop := fnExactStepLeaseUptoRow.holds Try.pinned (OpenSpec.upto fnExactStepLeaseSpec)

/-- 'laws.FnExactNewFence', WHERE WHAT IT READS IS OF BULK AT MOST 1048576: true; the input reads as it did. -/
def fnExactNewFenceUptoRow : OpenClaim := { program := "ytbnadnfggpnbgaa", sum := "8425baf7ddcfc884dbef1a57c46f0cf4fbfbe6efcd6d15e7b01db42d2340005c", func := "loop.example/g00218/laws.FnExactNewFence", spec := "fnExactNewFence", apart := false, narrowed := true }
def FnExactNewFenceUptoSaid : Prop := fnExactNewFenceUptoRow.holds Try.pinned (OpenSpec.upto fnExactNewFenceSpec)

/-- 'laws.FnExactGoodFence', WHERE WHAT IT READS IS OF BULK AT MOST 1048576: true; the input reads as it did. -/
def fnExactGoodFenceUptoRow : OpenClaim := { program := "ytbnadnfggpnbgaa", sum := "8425baf7ddcfc884dbef1a57c46f0cf4fbfbe6efcd6d15e7b01db42d2340005c", func := "loop.example/g00218/laws.FnExactGoodFence", spec := "fnExactGoodFence", unfollowed := true, recurses := true, apart := false, narrowed := true }
def FnExactGoodFenceUptoSaid : Prop := fnExactGoodFenceUptoRow.holds Try.pinned (OpenSpec.upto fnExactGoodFenceSpec)

/-- 'laws.FnExactLeastEpoch', WHERE WHAT IT READS IS OF BULK AT MOST 1048576: true; the input reads as it did. -/
def fnExactLeastEpochUptoRow : OpenClaim := { program := "ytbnadnfggpnbgaa", sum := "8425baf7ddcfc884dbef1a57c46f0cf4fbfbe6efcd6d15e7b01db42d2340005c", func := "loop.example/g00218/laws.FnExactLeastEpoch", spec := "fnExactLeastEpoch", unfollowed := true, recurses := true, apart := false, narrowed := true }
def FnExactLeastEpochUptoSaid : Prop := fnExactLeastEpochUptoRow.holds Try.pinned (OpenSpec.upto fnExactLeastEpochSpec)

/-- 'laws.FnExactLastingIn', WHERE WHAT IT READS IS OF BULK AT MOST 1048576: true; the input reads as it did. -/
def fnExactLastingInUptoRow : OpenClaim := { program := "ytbnadnfggpnbgaa", sum := "8425baf7ddcfc884dbef1a57c46f0cf4fbfbe6efcd6d15e7b01db42d2340005c", func := "loop.example/g00218/laws.FnExactLastingIn", spec := "fnExactLastingIn", unfollowed := true, recurses := true, apart := false, narrowed := true }
def FnExactLastingInUptoSaid : Prop := fnExactLastingInUptoRow.holds Try.pinned (OpenSpec.upto fnExactLastingInSpec)

end Rows
end Go.Proofs.Ytbnadnfggpnbgaa
