/-
  No cell of these rows narrows 'for every input' (looked for: loops, veiled, ifaces, maps, wideKeys, modest, calm, conditions, laid).
  DERIVED. THE GIVEN ROWS OF THIS SEAT. 8 by the template 'for every input the law returns true; each argument reads behind the call as it read before'; 0 by the template 'total and deterministic' (their statements: YtniaodllgeloiaaTotals.lean).
  GIVEN WITH THE SEED: the statements are not yours to turn. If you find one false, say at which input.
  Laid BY PROGRAM, IN A SANDBOX (cutbox-rows.mjs): the forced cells as the released guide's own fill.sh prints them over the translation 0d812dc65dea4283… (all of the seat's roots in one cut). By AI agents, Wed Nov 11 2026. No macro, syntax, notation, axiom, sorry.
-/
import Derived.Test.YtniaodllgeloiaaChecked
import GoSem.Claim
import GoSem.ClaimJoined
import GoSem.ClaimMapViews
import Derived.JoinedTies
import Derived.KernelRfl
namespace Go.Proofs.Ytniaodllgeloiaa
/- THE CELL 'sum', in the pinned program and in every row, IS THE sha256 OF THE DUMP (.gsa) THAT YtniaodllgeloiaaProg.lean LOADS. Nothing in Lean hashes anything: it is a label: what it is worth is what the hold of that sum in a sandbox is worth. -/
noncomputable def Try.pinned : Pinned := { name := "ytniaodllgeloiaa", sum := "0d812dc65dea4283e2777726ef006cc440b03898a9bf93365da9d6c14e40ffe4", checked := Try.checked }
namespace Rows
def none {H : Type} : Left H := { results := [], args := [] }

/-- 'laws.FnExactGoodCommit': WHATEVER THE INPUT: true; the input reads as it did. -/
def fnExactGoodCommitSpec : ChangeSpec := { name := "fnExactGoodCommit", fn := fun _ => fun
  | [d] => { results := [.lit (.bool true)], args := [d] }
  | _ => none }
def fnExactGoodCommitRow : OpenClaim := { program := "ytniaodllgeloiaa", sum := "0d812dc65dea4283e2777726ef006cc440b03898a9bf93365da9d6c14e40ffe4", func := "loop.example/g00218/laws.FnExactGoodCommit", spec := "fnExactGoodCommit", unfollowed := true, recurses := true, apart := false }
def FnExactGoodCommitSaid : Prop := fnExactGoodCommitRow.holds Try.pinned (OpenSpec.ofChange fnExactGoodCommitSpec)

/-- ITS FALSE NEIGHBOUR: 'it returns false'. Refute it at one input. -/
def fnExactGoodCommitWrong : ChangeSpec := { name := "fnExactGoodCommit", fn := fun _ => fun
  | [d] => { results := [.lit (.bool false)], args := [d] }
  | _ => none }
def FnExactGoodCommitWrongFalsely : Prop := fnExactGoodCommitRow.holds Try.pinned (OpenSpec.ofChange fnExactGoodCommitWrong)

/-- 'laws.FnExactNewCommit': WHATEVER THE INPUT: true; the input reads as it did. -/
def fnExactNewCommitSpec : ChangeSpec := { name := "fnExactNewCommit", fn := fun _ => fun
  | [d] => { results := [.lit (.bool true)], args := [d] }
  | _ => none }
def fnExactNewCommitRow : OpenClaim := { program := "ytniaodllgeloiaa", sum := "0d812dc65dea4283e2777726ef006cc440b03898a9bf93365da9d6c14e40ffe4", func := "loop.example/g00218/laws.FnExactNewCommit", spec := "fnExactNewCommit", apart := false }
def FnExactNewCommitSaid : Prop := fnExactNewCommitRow.holds Try.pinned (OpenSpec.ofChange fnExactNewCommitSpec)

/-- ITS FALSE NEIGHBOUR: 'it returns false'. Refute it at one input. -/
def fnExactNewCommitWrong : ChangeSpec := { name := "fnExactNewCommit", fn := fun _ => fun
  | [d] => { results := [.lit (.bool false)], args := [d] }
  | _ => none }
def FnExactNewCommitWrongFalsely : Prop := fnExactNewCommitRow.holds Try.pinned (OpenSpec.ofChange fnExactNewCommitWrong)

/-- 'laws.FnExactDecisionOf': WHATEVER THE INPUT: true; the input reads as it did. -/
def fnExactDecisionOfSpec : ChangeSpec := { name := "fnExactDecisionOf", fn := fun _ => fun
  | [d] => { results := [.lit (.bool true)], args := [d] }
  | _ => none }
def fnExactDecisionOfRow : OpenClaim := { program := "ytniaodllgeloiaa", sum := "0d812dc65dea4283e2777726ef006cc440b03898a9bf93365da9d6c14e40ffe4", func := "loop.example/g00218/laws.FnExactDecisionOf", spec := "fnExactDecisionOf", unfollowed := true, recurses := true, apart := false }
def FnExactDecisionOfSaid : Prop := fnExactDecisionOfRow.holds Try.pinned (OpenSpec.ofChange fnExactDecisionOfSpec)

/-- ITS FALSE NEIGHBOUR: 'it returns false'. Refute it at one input. -/
def fnExactDecisionOfWrong : ChangeSpec := { name := "fnExactDecisionOf", fn := fun _ => fun
  | [d] => { results := [.lit (.bool false)], args := [d] }
  | _ => none }
def FnExactDecisionOfWrongFalsely : Prop := fnExactDecisionOfRow.holds Try.pinned (OpenSpec.ofChange fnExactDecisionOfWrong)

/-- 'laws.FnExactLivesIn': WHATEVER THE INPUT: true; the input reads as it did. -/
def fnExactLivesInSpec : ChangeSpec := { name := "fnExactLivesIn", fn := fun _ => fun
  | [d] => { results := [.lit (.bool true)], args := [d] }
  | _ => none }
def fnExactLivesInRow : OpenClaim := { program := "ytniaodllgeloiaa", sum := "0d812dc65dea4283e2777726ef006cc440b03898a9bf93365da9d6c14e40ffe4", func := "loop.example/g00218/laws.FnExactLivesIn", spec := "fnExactLivesIn", unfollowed := true, recurses := true, apart := false }
def FnExactLivesInSaid : Prop := fnExactLivesInRow.holds Try.pinned (OpenSpec.ofChange fnExactLivesInSpec)

/-- ITS FALSE NEIGHBOUR: 'it returns false'. Refute it at one input. -/
def fnExactLivesInWrong : ChangeSpec := { name := "fnExactLivesIn", fn := fun _ => fun
  | [d] => { results := [.lit (.bool false)], args := [d] }
  | _ => none }
def FnExactLivesInWrongFalsely : Prop := fnExactLivesInRow.holds Try.pinned (OpenSpec.ofChange fnExactLivesInWrong)

/-- 'laws.FnExactAgreesIn': WHATEVER THE INPUT: true; the input reads as it did. -/
def fnExactAgreesInSpec : ChangeSpec := { name := "fnExactAgreesIn", fn := fun _ => fun
  | [d] => { results := [.lit (.bool true)], args := [d] }
  | _ => none }
def fnExactAgreesInRow : OpenClaim := { program := "ytniaodllgeloiaa", sum := "0d812dc65dea4283e2777726ef006cc440b03898a9bf93365da9d6c14e40ffe4", func := "loop.example/g00218/laws.FnExactAgreesIn", spec := "fnExactAgreesIn", unfollowed := true, recurses := true, apart := false }
def FnExactAgreesInSaid : Prop := fnExactAgreesInRow.holds Try.pinned (OpenSpec.ofChange fnExactAgreesInSpec)

/-- ITS FALSE NEIGHBOUR: 'it returns false'. Refute it at one input. -/
def fnExactAgreesInWrong : ChangeSpec := { name := "fnExactAgreesIn", fn := fun _ => fun
  | [d] => { results := [.lit (.bool false)], args := [d] }
  | _ => none }
def FnExactAgreesInWrongFalsely : Prop := fnExactAgreesInRow.holds Try.pinned (OpenSpec.ofChange fnExactAgreesInWrong)

/-- 'laws.FnExactGoodConfig': WHATEVER THE INPUT: true; the input reads as it did. -/
def fnExactGoodConfigSpec : ChangeSpec := { name := "fnExactGoodConfig", fn := fun _ => fun
  | [d] => { results := [.lit (.bool true)], args := [d] }
  | _ => none }
def fnExactGoodConfigRow : OpenClaim := { program := "ytniaodllgeloiaa", sum := "0d812dc65dea4283e2777726ef006cc440b03898a9bf93365da9d6c14e40ffe4", func := "loop.example/g00218/laws.FnExactGoodConfig", spec := "fnExactGoodConfig", unfollowed := true, recurses := true, apart := false }
def FnExactGoodConfigSaid : Prop := fnExactGoodConfigRow.holds Try.pinned (OpenSpec.ofChange fnExactGoodConfigSpec)

/-- ITS FALSE NEIGHBOUR: 'it returns false'. Refute it at one input. -/
def fnExactGoodConfigWrong : ChangeSpec := { name := "fnExactGoodConfig", fn := fun _ => fun
  | [d] => { results := [.lit (.bool false)], args := [d] }
  | _ => none }
def FnExactGoodConfigWrongFalsely : Prop := fnExactGoodConfigRow.holds Try.pinned (OpenSpec.ofChange fnExactGoodConfigWrong)

/-- 'laws.FnExactAcceptsAt': WHATEVER THE INPUT: true; the input reads as it did. -/
def fnExactAcceptsAtSpec : ChangeSpec := { name := "fnExactAcceptsAt", fn := fun _ => fun
  | [d1, d2, d3, d4] => { results := [.lit (.bool true)], args := [d1, d2, d3, d4] }
  | _ => none }
def fnExactAcceptsAtRow : OpenClaim := { program := "ytniaodllgeloiaa", sum := "0d812dc65dea4283e2777726ef006cc440b03898a9bf93365da9d6c14e40ffe4", func := "loop.example/g00218/laws.FnExactAcceptsAt", spec := "fnExactAcceptsAt", unfollowed := true, recurses := true, apart := false }
def FnExactAcceptsAtSaid : Prop := fnExactAcceptsAtRow.holds Try.pinned (OpenSpec.ofChange fnExactAcceptsAtSpec)

/-- ITS FALSE NEIGHBOUR: 'it returns false'. Refute it at one input. -/
def fnExactAcceptsAtWrong : ChangeSpec := { name := "fnExactAcceptsAt", fn := fun _ => fun
  | [d1, d2, d3, d4] => { results := [.lit (.bool false)], args := [d1, d2, d3, d4] }
  | _ => none }
def FnExactAcceptsAtWrongFalsely : Prop := fnExactAcceptsAtRow.holds Try.pinned (OpenSpec.ofChange fnExactAcceptsAtWrong)

/-- 'laws.FnExactMovedParts': WHATEVER THE INPUT: true; the input reads as it did. -/
def fnExactMovedPartsSpec : ChangeSpec := { name := "fnExactMovedParts", fn := fun _ => fun
  | [d1, d2] => { results := [.lit (.bool true)], args := [d1, d2] }
  | _ => none }
def fnExactMovedPartsRow : OpenClaim := { program := "ytniaodllgeloiaa", sum := "0d812dc65dea4283e2777726ef006cc440b03898a9bf93365da9d6c14e40ffe4", func := "loop.example/g00218/laws.FnExactMovedParts", spec := "fnExactMovedParts", unfollowed := true, recurses := true, apart := false }
def FnExactMovedPartsSaid : Prop := fnExactMovedPartsRow.holds Try.pinned (OpenSpec.ofChange fnExactMovedPartsSpec)

/-- ITS FALSE NEIGHBOUR: 'it returns false'. Refute it at one input. -/
def fnExactMovedPartsWrong : ChangeSpec := { name := "fnExactMovedParts", fn := fun _ => fun
  | [d1, d2] => { results := [.lit (.bool false)], args := [d1, d2] }
  | _ => none }
def FnExactMovedPartsWrongFalsely : Prop := fnExactMovedPartsRow.holds Try.pinned (OpenSpec.ofChange fnExactMovedPartsWrong)

/- THE SECOND FORM. 'bulk': how many values and letters a reading holds, each counted each time it is reached (what is shared counts as often as it is met; a slice's spare places count too). A statement '..UptoSaid' is the law's where the arguments, and the package variables that the reading takes, are together of bulk at most 1048576: NARROWER than '..Said'. Prove '..Said' where nothing that the law and all that it calls make is longer than what came in: it says more and counts as full. Else prove '..UptoSaid'. A law counts once. -/
mutual
def uptoBulk {H : Type} : DataW H → Nat
  | .lit (.string bytes) => bytes.length + 1
  | .lit _ => 1
  | .nil => 1
  | .ptr d => uptoBulk d + 1
  | .slice elems spare => uptoBulkAll elems + uptoBulkAll spare + 1
  | .agg parts => uptoBulkAll parts + 1
  | .iface _ d => uptoBulk d + 1
  | .map entries => uptoBulkEntries entries + 1
  | .held _ => 1
def uptoBulkAll {H : Type} : List (DataW H) → Nat
  | [] => 0
  | d :: r => uptoBulk d + uptoBulkAll r
def uptoBulkEntries {H : Type} : List (Lit × DataW H) → Nat
  | [] => 0
  | x :: r => uptoBulkEntry x + uptoBulkEntries r
def uptoBulkEntry {H : Type} : Lit × DataW H → Nat
  | (.string bytes, d) => bytes.length + uptoBulk d + 1
  | (_, d) => uptoBulk d + 1
 end
def uptoSmall : (H : Type) → List (DataW H) → Bool := fun _ ds => decide (uptoBulkAll ds ≤ 1048576)
def OpenSpec.upto (s : _root_.Go.ChangeSpec) : _root_.Go.OpenSpec := { _root_.Go.OpenSpec.ofChange s with cond := some uptoSmall }

/-- 'laws.FnExactGoodCommit', WHERE WHAT IT READS IS OF BULK AT MOST 1048576: true; the input reads as it did. -/
def fnExactGoodCommitUptoRow : OpenClaim := { program := "ytniaodllgeloiaa", sum := "0d812dc65dea4283e2777726ef006cc440b03898a9bf93365da9d6c14e40ffe4", func := "loop.example/g00218/laws.FnExactGoodCommit", spec := "fnExactGoodCommit", unfollowed := true, recurses := true, apart := false, narrowed := true }
def FnExactGoodCommitUptoSaid : Prop := fnExactGoodCommitUptoRow.holds Try.pinned (OpenSpec.upto fnExactGoodCommitSpec)

/-- 'laws.FnExactNewCommit', WHERE WHAT IT READS IS OF BULK AT MOST 1048576: true; the input reads as it did. -/
def fnExactNewCommitUptoRow : OpenClaim := { program := "ytniaodllgeloiaa", sum := "0d812dc65dea4283e2777726ef006cc440b03898a9bf93365da9d6c14e40ffe4", func := "loop.example/g00218/laws.FnExactNewCommit", spec := "fnExactNewCommit", apart := false, narrowed := true }
def FnExactNewCommitUptoSaid : Prop := fnExactNewCommitUptoRow.holds Try.pinned (OpenSpec.upto fnExactNewCommitSpec)

/-- 'laws.FnExactDecisionOf', WHERE WHAT IT READS IS OF BULK AT MOST 1048576: true; the input reads as it did. -/
def fnExactDecisionOfUptoRow : OpenClaim := { program := "ytniaodllgeloiaa", sum := "0d812dc65dea4283e2777726ef006cc440b03898a9bf93365da9d6c14e40ffe4", func := "loop.example/g00218/laws.FnExactDecisionOf", spec := "fnExactDecisionOf", unfollowed := true, recurses := true, apart := false, narrowed := true }
def FnExactDecisionOfUptoSaid : Prop := fnExactDecisionOfUptoRow.holds Try.pinned (OpenSpec.upto fnExactDecisionOfSpec)

/-- 'laws.FnExactLivesIn', WHERE WHAT IT READS IS OF BULK AT MOST 1048576: true; the input reads as it did. -/
def fnExactLivesInUptoRow : OpenClaim := { program := "ytniaodllgeloiaa", sum := "0d812dc65dea4283e2777726ef006cc440b03898a9bf93365da9d6c14e40ffe4", func := "loop.example/g00218/laws.FnExactLivesIn", spec := "fnExactLivesIn", unfollowed := true, recurses := true, apart := false, narrowed := true }
def FnExactLivesInUptoSaid : Prop := fnExactLivesInUptoRow.holds Try.pinned (OpenSpec.upto fnExactLivesInSpec)

/-- 'laws.FnExactAgreesIn', WHERE WHAT IT READS IS OF BULK AT MOST 1048576: true; the input reads as it did. -/
def fnExactAgreesInUptoRow : OpenClaim := { program := "ytniaodllgeloiaa", sum := "0d812dc65dea4283e2777726ef006cc440b03898a9bf93365da9d6c14e40ffe4", func := "loop.example/g00218/laws.FnExactAgreesIn", spec := "fnExactAgreesIn", unfollowed := true, recurses := true, apart := false, narrowed := true }
def FnExactAgreesInUptoSaid : Prop := fnExactAgreesInUptoRow.holds Try.pinned (OpenSpec.upto fnExactAgreesInSpec)

/-- 'laws.FnExactGoodConfig', WHERE WHAT IT READS IS OF BULK AT MOST 1048576: true; the input reads as it did. -/
def fnExactGoodConfigUptoRow : OpenClaim := { program := "ytniaodllgeloiaa", sum := "0d812dc65dea4283e2777726ef006cc440b03898a9bf93365da9d6c14e40ffe4", func := "loop.example/g00218/laws.FnExactGoodConfig", spec := "fnExactGoodConfig", unfollowed := true, recurses := true, apart := false, narrowed := true }
def FnExactGoodConfigUptoSaid : Prop := fnExactGoodConfigUptoRow.holds Try.pinned (OpenSpec.upto fnExactGoodConfigSpec)

/-- 'laws.FnExactAcceptsAt', WHERE WHAT IT READS IS OF BULK AT MOST 1048576: true; the input reads as it did. -/
def fnExactAcceptsAtUptoRow : OpenClaim := { program := "ytniaodllgeloiaa", sum := "0d812dc65dea4283e2777726ef006cc440b03898a9bf93365da9d6c14e40ffe4", func := "loop.example/g00218/laws.FnExactAcceptsAt", spec := "fnExactAcceptsAt", unfollowed := true, recurses := true, apart := false, narrowed := true }
def FnExactAcceptsAtUptoSaid : Prop := fnExactAcceptsAtUptoRow.holds Try.pinned (OpenSpec.upto fnExactAcceptsAtSpec)

/-- 'laws.FnExactMovedParts', WHERE WHAT IT READS IS OF BULK AT MOST 1048576: true; the input reads as it did. -/
def fnExactMovedPartsUptoRow : OpenClaim := { program := "ytniaodllgeloiaa", sum := "0d812dc65dea4283e2777726ef006cc440b03898a9bf93365da9d6c14e40ffe4", func := "loop.example/g00218/laws.FnExactMovedParts", spec := "fnExactMovedParts", unfollowed := true, recurses := true, apart := false, narrowed := true }
def FnExactMovedPartsUptoSaid : Prop := fnExactMovedPartsUptoRow.holds Try.pinned (OpenSpec.upto fnExactMovedPartsSpec)

end Rows
end Go.Proofs.Ytniaodllgeloiaa
