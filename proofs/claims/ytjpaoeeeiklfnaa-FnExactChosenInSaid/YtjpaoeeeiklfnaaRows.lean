/-
  No cell of these rows narrows 'for every input' (looked for: loops, veiled, ifaces, maps, wideKeys, modest, calm, conditions, laid).
  DERIVED. THE GIVEN ROWS OF THIS SEAT. 4 by the template 'for every input the law returns true; each argument reads behind the call as it read before'; 0 by the template 'total and deterministic' (their statements: YtjpaoeeeiklfnaaTotals.lean).
  GIVEN WITH THE SEED: the statements are not yours to turn. If you find one false, say at which input.
  Laid BY PROGRAM, IN A SANDBOX (cutbox-rows.mjs): the forced cells as the released guide's own fill.sh prints them over the translation 2c5b3317ddf322fd… (all of the seat's roots in one cut). By AI agents, Wed Nov 11 2026. No macro, syntax, notation, axiom, sorry.
-/
import Derived.Test.YtjpaoeeeiklfnaaChecked
import GoSem.Claim
import GoSem.ClaimJoined
import GoSem.ClaimMapViews
import Derived.JoinedTies
import Derived.KernelRfl
namespace Go.Proofs.Ytjpaoeeeiklfnaa
/- THE CELL 'sum', in the pinned program and in every row, IS THE sha256 OF THE DUMP (.gsa) THAT YtjpaoeeeiklfnaaProg.lean LOADS. Nothing in Lean hashes anything: it is a label: what it is worth is what the hold of that sum in a sandbox is worth. -/
noncomputable def Try.pinned : Pinned := { name := "ytjpaoeeeiklfnaa", sum := "2c5b3317ddf322fde667ba1b85b078d71903201995c82ff27cb9b86c3d459f68", checked := Try.checked }
namespace Rows
def none {H : Type} : Left H := { results := [], args := [] }

/-- 'laws.FnExactChosenIn': WHATEVER THE INPUT: true; the input reads as it did. -/
def fnExactChosenInSpec : ChangeSpec := { name := "fnExactChosenIn", fn := fun _ => fun
  | [d] => { results := [.lit (.bool true)], args := [d] }
  | _ => none }
def fnExactChosenInRow : OpenClaim := { program := "ytjpaoeeeiklfnaa", sum := "2c5b3317ddf322fde667ba1b85b078d71903201995c82ff27cb9b86c3d459f68", func := "loop.example/g00218/laws.FnExactChosenIn", spec := "fnExactChosenIn", recurses := true, apart := false }
def FnExactChosenInSaid : Prop := fnExactChosenInRow.holds Try.pinned (OpenSpec.ofChange fnExactChosenInSpec)

/-- ITS FALSE NEIGHBOUR: 'it returns false'. Refute it at one input. -/
def fnExactChosenInWrong : ChangeSpec := { name := "fnExactChosenIn", fn := fun _ => fun
  | [d] => { results := [.lit (.bool false)], args := [d] }
  | _ => none }
def FnExactChosenInWrongFalsely : Prop := fnExactChosenInRow.holds Try.pinned (OpenSpec.ofChange fnExactChosenInWrong)

/-- 'laws.FnExactNewSynod': WHATEVER THE INPUT: true; the input reads as it did. -/
def fnExactNewSynodSpec : ChangeSpec := { name := "fnExactNewSynod", fn := fun _ => fun
  | [d1, d2] => { results := [.lit (.bool true)], args := [d1, d2] }
  | _ => none }
def fnExactNewSynodRow : OpenClaim := { program := "ytjpaoeeeiklfnaa", sum := "2c5b3317ddf322fde667ba1b85b078d71903201995c82ff27cb9b86c3d459f68", func := "loop.example/g00218/laws.FnExactNewSynod", spec := "fnExactNewSynod", apart := false }
def FnExactNewSynodSaid : Prop := fnExactNewSynodRow.holds Try.pinned (OpenSpec.ofChange fnExactNewSynodSpec)

/-- ITS FALSE NEIGHBOUR: 'it returns false'. Refute it at one input. -/
def fnExactNewSynodWrong : ChangeSpec := { name := "fnExactNewSynod", fn := fun _ => fun
  | [d1, d2] => { results := [.lit (.bool false)], args := [d1, d2] }
  | _ => none }
def FnExactNewSynodWrongFalsely : Prop := fnExactNewSynodRow.holds Try.pinned (OpenSpec.ofChange fnExactNewSynodWrong)

/-- 'laws.FnExactGoodSynod': WHATEVER THE INPUT: true; the input reads as it did. -/
def fnExactGoodSynodSpec : ChangeSpec := { name := "fnExactGoodSynod", fn := fun _ => fun
  | [d] => { results := [.lit (.bool true)], args := [d] }
  | _ => none }
def fnExactGoodSynodRow : OpenClaim := { program := "ytjpaoeeeiklfnaa", sum := "2c5b3317ddf322fde667ba1b85b078d71903201995c82ff27cb9b86c3d459f68", func := "loop.example/g00218/laws.FnExactGoodSynod", spec := "fnExactGoodSynod", apart := false }
def FnExactGoodSynodSaid : Prop := fnExactGoodSynodRow.holds Try.pinned (OpenSpec.ofChange fnExactGoodSynodSpec)

/-- ITS FALSE NEIGHBOUR: 'it returns false'. Refute it at one input. -/
def fnExactGoodSynodWrong : ChangeSpec := { name := "fnExactGoodSynod", fn := fun _ => fun
  | [d] => { results := [.lit (.bool false)], args := [d] }
  | _ => none }
def FnExactGoodSynodWrongFalsely : Prop := fnExactGoodSynodRow.holds Try.pinned (OpenSpec.ofChange fnExactGoodSynodWrong)

/-- 'laws.FnExactValueAt': WHATEVER THE INPUT: true; the input reads as it did. -/
def fnExactValueAtSpec : ChangeSpec := { name := "fnExactValueAt", fn := fun _ => fun
  | [d1, d2] => { results := [.lit (.bool true)], args := [d1, d2] }
  | _ => none }
def fnExactValueAtRow : OpenClaim := { program := "ytjpaoeeeiklfnaa", sum := "2c5b3317ddf322fde667ba1b85b078d71903201995c82ff27cb9b86c3d459f68", func := "loop.example/g00218/laws.FnExactValueAt", spec := "fnExactValueAt", apart := false }
def FnExactValueAtSaid : Prop := fnExactValueAtRow.holds Try.pinned (OpenSpec.ofChange fnExactValueAtSpec)

/-- ITS FALSE NEIGHBOUR: 'it returns false'. Refute it at one input. -/
def fnExactValueAtWrong : ChangeSpec := { name := "fnExactValueAt", fn := fun _ => fun
  | [d1, d2] => { results := [.lit (.bool false)], args := [d1, d2] }
  | _ => none }
def FnExactValueAtWrongFalsely : Prop := fnExactValueAtRow.holds Try.pinned (OpenSpec.ofChange fnExactValueAtWrong)

/- THE SECOND FORM. 'bulk': how many values and letters a reading holds, each counted each time it is reached (what is shared counts as often as it is met; a slice's spare places count too). A statement '..UptoSaid' is the law's where the arguments, and the package variables that the reading takes, are together of bulk at most 1048576: NARROWER than '..Said'. Prove '..Said' where nothing that the law and all that it calls make is longer than what came in: it says more and counts as full. Else prove '..UptoSaid'. A law counts once. -/
mutual
def uptoBulk {H : Type} : DataW H → Nat
  | .lit (.string bytes) => bytes.length + 1
  | .lit _ => 1
  | .nil => 1
  | .ptr d => uptoBulk d + 1
  | .slice elems spare => uptoBulkAll elems + uptoBulkAll spare + 1
  | .agg parts => uptoBulkAll parts + 1
  | .iface _ d => uptoBulk d + 1
  | .map entries => uptoBulkEntries entries + 1
  | .held _ => 1
def uptoBulkAll {H : Type} : List (DataW H) → Nat
  | [] => 0
  | d :: r => uptoBulk d + uptoBulkAll r
def uptoBulkEntries {H : Type} : List (Lit × DataW H) → Nat
  | [] => 0
  | x :: r => uptoBulkEntry x + uptoBulkEntries r
def uptoBulkEntry {H : Type} : Lit × DataW H → Nat
  | (.string bytes, d) => bytes.length + uptoBulk d + 1
  | (_, d) => uptoBulk d + 1
 end
def uptoSmall : (H : Type) → List (DataW H) → Bool := fun _ ds => decide (uptoBulkAll ds ≤ 1048576)
def OpenSpec.upto (s : _root_.Go.ChangeSpec) : _root_.Go.OpenSpec := { _root_.Go.OpenSpec.ofChange s with cond := some uptoSmall }

/-- 'laws.FnExactChosenIn', WHERE WHAT IT READS IS OF BULK AT MOST 1048576: true; the input reads as it did. -/
def fnExactChosenInUptoRow : OpenClaim := { program := "ytjpaoeeeiklfnaa", sum := "2c5b3317ddf322fde667ba1b85b078d71903201995c82ff27cb9b86c3d459f68", func := "loop.example/g00218/laws.FnExactChosenIn", spec := "fnExactChosenIn", recurses := true, apart := false, narrowed := true }
def FnExactChosenInUptoSaid : Prop := fnExactChosenInUptoRow.holds Try.pinned (OpenSpec.upto fnExactChosenInSpec)

/-- 'laws.FnExactNewSynod', WHERE WHAT IT READS IS OF BULK AT MOST 1048576: true; the input reads as it did. -/
def fnExactNewSynodUptoRow : OpenClaim := { program := "ytjpaoeeeiklfnaa", sum := "2c5b3317ddf322fde667ba1b85b078d71903201995c82ff27cb9b86c3d459f68", func := "loop.example/g00218/laws.FnExactNewSynod", spec := "fnExactNewSynod", apart := false, narrowed := true }
def FnExactNewSynodUptoSaid : Prop := fnExactNewSynodUptoRow.holds Try.pinned (OpenSpec.upto fnExactNewSynodSpec)

/-- 'laws.FnExactGoodSynod', WHERE WHAT IT READS IS OF BULK AT MOST 1048576: true; the input reads as it did. -/
def fnExactGoodSynodUptoRow : OpenClaim := { program := "ytjpaoeeeiklfnaa", sum := "2c5b3317ddf322fde667ba1b85b078d71903201995c82ff27cb9b86c3d459f68", func := "loop.example/g00218/laws.FnExactGoodSynod", spec := "fnExactGoodSynod", apart := false, narrowed := true }
def FnExactGoodSynodUptoSaid : Prop := fnExactGoodSynodUptoRow.holds Try.pinned (OpenSpec.upto fnExactGoodSynodSpec)

/-- 'laws.FnExactValueAt', WHERE WHAT IT READS IS OF BULK AT MOST 1048576: true; the input reads as it did. -/
def fnExactValueAtUptoRow : OpenClaim := { program := "ytjpaoeeeiklfnaa", sum := "2c5b3317ddf322fde667ba1b85b078d71903201995c82ff27cb9b86c3d459f68", func := "loop.example/g00218/laws.FnExactValueAt", spec := "fnExactValueAt", apart := false, narrowed := true }
def FnExactValueAtUptoSaid : Prop := fnExactValueAtUptoRow.holds Try.pinned (OpenSpec.upto fnExactValueAtSpec)

end Rows
end Go.Proofs.Ytjpaoeeeiklfnaa
