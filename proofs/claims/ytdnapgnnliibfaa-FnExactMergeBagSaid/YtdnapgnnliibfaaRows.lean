/-
  No cell of these rows narrows 'for every input' (looked for: loops, veiled, ifaces, maps, wideKeys, modest, calm, conditions, laid).
  DERIVED. THE GIVEN ROWS OF THIS SEAT. 5 by the template 'for every input the law returns true; each argument reads behind the call as it read before'; 0 by the template 'total and deterministic' (their statements: YtdnapgnnliibfaaTotals.lean).
  GIVEN WITH THE SEED: the statements are not yours to turn. If you find one false, say at which input.
  Laid BY PROGRAM, IN A SANDBOX (cutbox-rows.mjs): the forced cells as the released guide's own fill.sh prints them over the translation 536964012ee16745… (all of the seat's roots in one cut). By AI agents, Wed Nov 11 2026. No macro, syntax, notation, axiom, sorry.
-/
import Derived.Test.YtdnapgnnliibfaaChecked
import GoSem.Claim
import GoSem.ClaimJoined
import GoSem.ClaimMapViews
import Derived.JoinedTies
import Derived.KernelRfl
namespace Go.Proofs.Ytdnapgnnliibfaa
/- THE CELL 'sum', in the pinned program and in every row, IS THE sha256 OF THE DUMP (.gsa) THAT YtdnapgnnliibfaaProg.lean LOADS. Nothing in Lean hashes anything: it is a label: what it is worth is what the hold of that sum in a sandbox is worth. -/
noncomputable def Try.pinned : Pinned := { name := "ytdnapgnnliibfaa", sum := "536964012ee167454110893962d2f77a9f1e2f1bdaefe2fc2882e448bcb1eeaf", checked := Try.checked }
namespace Rows
def none {H : Type} : Left H := { results := [], args := [] }

/-- 'laws.FnExactGoodBag': WHATEVER THE INPUT: true; the input reads as it did. -/
def fnExactGoodBagSpec : ChangeSpec := { name := "fnExactGoodBag", fn := fun _ => fun
  | [d] => { results := [.lit (.bool true)], args := [d] }
  | _ => none }
def fnExactGoodBagRow : OpenClaim := { program := "ytdnapgnnliibfaa", sum := "536964012ee167454110893962d2f77a9f1e2f1bdaefe2fc2882e448bcb1eeaf", func := "loop.example/g00218/laws.FnExactGoodBag", spec := "fnExactGoodBag", unfollowed := true, recurses := true, apart := false }
def FnExactGoodBagSaid : Prop := fnExactGoodBagRow.holds Try.pinned (OpenSpec.ofChange fnExactGoodBagSpec)

/-- ITS FALSE NEIGHBOUR: 'it returns false'. Refute it at one input. -/
def fnExactGoodBagWrong : ChangeSpec := { name := "fnExactGoodBag", fn := fun _ => fun
  | [d] => { results := [.lit (.bool false)], args := [d] }
  | _ => none }
def FnExactGoodBagWrongFalsely : Prop := fnExactGoodBagRow.holds Try.pinned (OpenSpec.ofChange fnExactGoodBagWrong)

/-- 'laws.FnExactRemoveFrom': WHATEVER THE INPUT: true; the input reads as it did. -/
def fnExactRemoveFromSpec : ChangeSpec := { name := "fnExactRemoveFrom", fn := fun _ => fun
  | [d1, d2] => { results := [.lit (.bool true)], args := [d1, d2] }
  | _ => none }
def fnExactRemoveFromRow : OpenClaim := { program := "ytdnapgnnliibfaa", sum := "536964012ee167454110893962d2f77a9f1e2f1bdaefe2fc2882e448bcb1eeaf", func := "loop.example/g00218/laws.FnExactRemoveFrom", spec := "fnExactRemoveFrom", unfollowed := true, recurses := true, apart := false }
def FnExactRemoveFromSaid : Prop := fnExactRemoveFromRow.holds Try.pinned (OpenSpec.ofChange fnExactRemoveFromSpec)

/-- ITS FALSE NEIGHBOUR: 'it returns false'. Refute it at one input. -/
def fnExactRemoveFromWrong : ChangeSpec := { name := "fnExactRemoveFrom", fn := fun _ => fun
  | [d1, d2] => { results := [.lit (.bool false)], args := [d1, d2] }
  | _ => none }
def FnExactRemoveFromWrongFalsely : Prop := fnExactRemoveFromRow.holds Try.pinned (OpenSpec.ofChange fnExactRemoveFromWrong)

/-- 'laws.FnExactMergeBag': WHATEVER THE INPUT: true; the input reads as it did. -/
def fnExactMergeBagSpec : ChangeSpec := { name := "fnExactMergeBag", fn := fun _ => fun
  | [d1, d2] => { results := [.lit (.bool true)], args := [d1, d2] }
  | _ => none }
def fnExactMergeBagRow : OpenClaim := { program := "ytdnapgnnliibfaa", sum := "536964012ee167454110893962d2f77a9f1e2f1bdaefe2fc2882e448bcb1eeaf", func := "loop.example/g00218/laws.FnExactMergeBag", spec := "fnExactMergeBag", unfollowed := true, recurses := true, apart := false }
def FnExactMergeBagSaid : Prop := fnExactMergeBagRow.holds Try.pinned (OpenSpec.ofChange fnExactMergeBagSpec)

/-- ITS FALSE NEIGHBOUR: 'it returns false'. Refute it at one input. -/
def fnExactMergeBagWrong : ChangeSpec := { name := "fnExactMergeBag", fn := fun _ => fun
  | [d1, d2] => { results := [.lit (.bool false)], args := [d1, d2] }
  | _ => none }
def FnExactMergeBagWrongFalsely : Prop := fnExactMergeBagRow.holds Try.pinned (OpenSpec.ofChange fnExactMergeBagWrong)

/-- 'laws.FnExactValuesIn': WHATEVER THE INPUT: true; the input reads as it did. -/
def fnExactValuesInSpec : ChangeSpec := { name := "fnExactValuesIn", fn := fun _ => fun
  | [d] => { results := [.lit (.bool true)], args := [d] }
  | _ => none }
def fnExactValuesInRow : OpenClaim := { program := "ytdnapgnnliibfaa", sum := "536964012ee167454110893962d2f77a9f1e2f1bdaefe2fc2882e448bcb1eeaf", func := "loop.example/g00218/laws.FnExactValuesIn", spec := "fnExactValuesIn", unfollowed := true, recurses := true, apart := false }
def FnExactValuesInSaid : Prop := fnExactValuesInRow.holds Try.pinned (OpenSpec.ofChange fnExactValuesInSpec)

/-- ITS FALSE NEIGHBOUR: 'it returns false'. Refute it at one input. -/
def fnExactValuesInWrong : ChangeSpec := { name := "fnExactValuesIn", fn := fun _ => fun
  | [d] => { results := [.lit (.bool false)], args := [d] }
  | _ => none }
def FnExactValuesInWrongFalsely : Prop := fnExactValuesInRow.holds Try.pinned (OpenSpec.ofChange fnExactValuesInWrong)

/-- 'laws.FnExactAddTo': WHATEVER THE INPUT: true; the input reads as it did. -/
def fnExactAddToSpec : ChangeSpec := { name := "fnExactAddTo", fn := fun _ => fun
  | [d1, d2, d3] => { results := [.lit (.bool true)], args := [d1, d2, d3] }
  | _ => none }
def fnExactAddToRow : OpenClaim := { program := "ytdnapgnnliibfaa", sum := "536964012ee167454110893962d2f77a9f1e2f1bdaefe2fc2882e448bcb1eeaf", func := "loop.example/g00218/laws.FnExactAddTo", spec := "fnExactAddTo", unfollowed := true, recurses := true, apart := false }
def FnExactAddToSaid : Prop := fnExactAddToRow.holds Try.pinned (OpenSpec.ofChange fnExactAddToSpec)

/-- ITS FALSE NEIGHBOUR: 'it returns false'. Refute it at one input. -/
def fnExactAddToWrong : ChangeSpec := { name := "fnExactAddTo", fn := fun _ => fun
  | [d1, d2, d3] => { results := [.lit (.bool false)], args := [d1, d2, d3] }
  | _ => none }
def FnExactAddToWrongFalsely : Prop := fnExactAddToRow.holds Try.pinned (OpenSpec.ofChange fnExactAddToWrong)

/- THE SECOND FORM. 'bulk': how many values and letters a reading holds, each counted each time it is reached (what is shared counts as often as it is met; a slice's spare places count too). A statement '..UptoSaid' is the law's where the arguments, and the package variables that the reading takes, are together of bulk at most 1048576: NARROWER than '..Said'. Prove '..Said' where nothing that the law and all that it calls make is longer than what came in: it says more and counts as full. Else prove '..UptoSaid'. A law counts once. -/
mutual
def uptoBulk {H : Type} : DataW H → Nat
  | .lit (.string bytes) => bytes.length + 1
  | .lit _ => 1
  | .nil => 1
  | .ptr d => uptoBulk d + 1
  | .slice elems spare => uptoBulkAll elems + uptoBulkAll spare + 1
  | .agg parts => uptoBulkAll parts + 1
  | .iface _ d => uptoBulk d + 1
  | .map entries => uptoBulkEntries entries + 1
  | .held _ => 1
def uptoBulkAll {H : Type} : List (DataW H) → Nat
  | [] => 0
  | d :: r => uptoBulk d + uptoBulkAll r
def uptoBulkEntries {H : Type} : List (Lit × DataW H) → Nat
  | [] => 0
  | x :: r => uptoBulkEntry x + uptoBulkEntries r
def uptoBulkEntry {H : Type} : Lit × DataW H → Nat
  | (.string bytes, d) => bytes.length + uptoBulk d + 1
  | (_, d) => uptoBulk d + 1
 end
def uptoSmall : (H : Type) → List (DataW H) → Bool := fun _ ds => decide (uptoBulkAll ds ≤ 1048576)
def OpenSpec.upto (s : _root_.Go.ChangeSpec) : _root_.Go.OpenSpec := { _root_.Go.OpenSpec.ofChange s with cond := some uptoSmall }

/-- 'laws.FnExactGoodBag', WHERE WHAT IT READS IS OF BULK AT MOST 1048576: true; the input reads as it did. -/
def fnExactGoodBagUptoRow : OpenClaim := { program := "ytdnapgnnliibfaa", sum := "536964012ee167454110893962d2f77a9f1e2f1bdaefe2fc2882e448bcb1eeaf", func := "loop.example/g00218/laws.FnExactGoodBag", spec := "fnExactGoodBag", unfollowed := true, recurses := true, apart := false, narrowed := true }
def FnExactGoodBagUptoSaid : Prop := fnExactGoodBagUptoRow.holds Try.pinned (OpenSpec.upto fnExactGoodBagSpec)

/-- 'laws.FnExactRemoveFrom', WHERE WHAT IT READS IS OF BULK AT MOST 1048576: true; the input reads as it did. -/
def fnExactRemoveFromUptoRow : OpenClaim := { program := "ytdnapgnnliibfaa", sum := "536964012ee167454110893962d2f77a9f1e2f1bdaefe2fc2882e448bcb1eeaf", func := "loop.example/g00218/laws.FnExactRemoveFrom", spec := "fnExactRemoveFrom", unfollowed := true, recurses := true, apart := false, narrowed := true }
def FnExactRemoveFromUptoSaid : Prop := fnExactRemoveFromUptoRow.holds Try.pinned (OpenSpec.upto fnExactRemoveFromSpec)

/-- 'laws.FnExactMergeBag', WHERE WHAT IT READS IS OF BULK AT MOST 1048576: true; the input reads as it did. -/
def fnExactMergeBagUptoRow : OpenClaim := { program := "ytdnapgnnliibfaa", sum := "536964012ee167454110893962d2f77a9f1e2f1bdaefe2fc2882e448bcb1eeaf", func := "loop.example/g00218/laws.FnExactMergeBag", spec := "fnExactMergeBag", unfollowed := true, recurses := true, apart := false, narrowed := true }
def FnExactMergeBagUptoSaid : Prop := fnExactMergeBagUptoRow.holds Try.pinned (OpenSpec.upto fnExactMergeBagSpec)

/-- 'laws.FnExactValuesIn', WHERE WHAT IT READS IS OF BULK AT MOST 1048576: true; the input reads as it did. -/
def fnExactValuesInUptoRow : OpenClaim := { program := "ytdnapgnnliibfaa", sum := "536964012ee167454110893962d2f77a9f1e2f1bdaefe2fc2882e448bcb1eeaf", func := "loop.example/g00218/laws.FnExactValuesIn", spec := "fnExactValuesIn", unfollowed := true, recurses := true, apart := false, narrowed := true }
def FnExactValuesInUptoSaid : Prop := fnExactValuesInUptoRow.holds Try.pinned (OpenSpec.upto fnExactValuesInSpec)

/-- 'laws.FnExactAddTo', WHERE WHAT IT READS IS OF BULK AT MOST 1048576: true; the input reads as it did. -/
def fnExactAddToUptoRow : OpenClaim := { program := "ytdnapgnnliibfaa", sum := "536964012ee167454110893962d2f77a9f1e2f1bdaefe2fc2882e448bcb1eeaf", func := "loop.example/g00218/laws.FnExactAddTo", spec := "fnExactAddTo", unfollowed := true, recurses := true, apart := false, narrowed := true }
def FnExactAddToUptoSaid : Prop := fnExactAddToUptoRow.holds Try.pinned (OpenSpec.upto fnExactAddToSpec)

end Rows
end Go.Proofs.Ytdnapgnnliibfaa
