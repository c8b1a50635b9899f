/-
  No cell of these rows narrows 'for every input' (looked for: loops, veiled, ifaces, maps, wideKeys, modest, calm, conditions, laid).
  DERIVED. THE GIVEN ROWS OF THIS SEAT. 9 by the template 'for every input the law returns true; each argument reads behind the call as it read before'; 0 by the template 'total and deterministic' (their statements: YthbollaceiffpaaTotals.lean).
  GIVEN WITH THE SEED: the statements are not yours to turn. If you find one false, say at which input.
  Laid BY PROGRAM, IN A SANDBOX (cutbox-rows.mjs): the forced cells as the released guide's own fill.sh prints them over the translation eb22e29579d2fc11… (all of the seat's roots in one cut). By AI agents, Wed Nov 11 2026. No macro, syntax, notation, axiom, sorry.
-/
import Derived.Test.YthbollaceiffpaaChecked
import GoSem.Claim
import GoSem.ClaimJoined
import GoSem.ClaimMapViews
import Derived.JoinedTies
import Derived.KernelRfl
namespace Go.Proofs.Ythbollaceiffpaa
/- THE CELL 'sum', in the pinned program and in every row, IS THE sha256 OF THE DUMP (.gsa) THAT YthbollaceiffpaaProg.lean LOADS. Nothing in Lean hashes anything: it is a label: what it is worth is what the hold of that sum in a sandbox is worth. -/
noncomputable def Try.pinned : Pinned := { name := "ythbollaceiffpaa", sum := "eb22e29579d2fc11aaa2931d6fdfb1388904f5408655111f39280ca146996611", checked := Try.checked }
namespace Rows
def none {H : Type} : Left H := { results := [], args := [] }

/-- 'laws.FnExactIsMajority': WHATEVER THE INPUT: true; the input reads as it did. -/
def fnExactIsMajoritySpec : ChangeSpec := { name := "fnExactIsMajority", fn := fun _ => fun
  | [d1, d2] => { results := [.lit (.bool true)], args := [d1, d2] }
  | _ => none }
def fnExactIsMajorityRow : OpenClaim := { program := "ythbollaceiffpaa", sum := "eb22e29579d2fc11aaa2931d6fdfb1388904f5408655111f39280ca146996611", func := "loop.example/g00218/laws.FnExactIsMajority", spec := "fnExactIsMajority", apart := false }
def FnExactIsMajoritySaid : Prop := fnExactIsMajorityRow.holds Try.pinned (OpenSpec.ofChange fnExactIsMajoritySpec)

/-- ITS FALSE NEIGHBOUR: 'it returns false'. Refute it at one input. -/
def fnExactIsMajorityWrong : ChangeSpec := { name := "fnExactIsMajority", fn := fun _ => fun
  | [d1, d2] => { results := [.lit (.bool false)], args := [d1, d2] }
  | _ => none }
def FnExactIsMajorityWrongFalsely : Prop := fnExactIsMajorityRow.holds Try.pinned (OpenSpec.ofChange fnExactIsMajorityWrong)

/-- 'laws.FnExactWeightOf': WHATEVER THE INPUT: true; the input reads as it did. -/
def fnExactWeightOfSpec : ChangeSpec := { name := "fnExactWeightOf", fn := fun _ => fun
  | [d1, d2] => { results := [.lit (.bool true)], args := [d1, d2] }
  | _ => none }
def fnExactWeightOfRow : OpenClaim := { program := "ythbollaceiffpaa", sum := "eb22e29579d2fc11aaa2931d6fdfb1388904f5408655111f39280ca146996611", func := "loop.example/g00218/laws.FnExactWeightOf", spec := "fnExactWeightOf", apart := false }
def FnExactWeightOfSaid : Prop := fnExactWeightOfRow.holds Try.pinned (OpenSpec.ofChange fnExactWeightOfSpec)

/-- ITS FALSE NEIGHBOUR: 'it returns false'. Refute it at one input. -/
def fnExactWeightOfWrong : ChangeSpec := { name := "fnExactWeightOf", fn := fun _ => fun
  | [d1, d2] => { results := [.lit (.bool false)], args := [d1, d2] }
  | _ => none }
def FnExactWeightOfWrongFalsely : Prop := fnExactWeightOfRow.holds Try.pinned (OpenSpec.ofChange fnExactWeightOfWrong)

/-- 'laws.FnExactIsRead': WHATEVER THE INPUT: true; the input reads as it did. -/
def fnExactIsReadSpec : ChangeSpec := { name := "fnExactIsRead", fn := fun _ => fun
  | [d1, d2, d3] => { results := [.lit (.bool true)], args := [d1, d2, d3] }
  | _ => none }
def fnExactIsReadRow : OpenClaim := { program := "ythbollaceiffpaa", sum := "eb22e29579d2fc11aaa2931d6fdfb1388904f5408655111f39280ca146996611", func := "loop.example/g00218/laws.FnExactIsRead", spec := "fnExactIsRead", apart := false }
def FnExactIsReadSaid : Prop := fnExactIsReadRow.holds Try.pinned (OpenSpec.ofChange fnExactIsReadSpec)

/-- ITS FALSE NEIGHBOUR: 'it returns false'. Refute it at one input. -/
def fnExactIsReadWrong : ChangeSpec := { name := "fnExactIsRead", fn := fun _ => fun
  | [d1, d2, d3] => { results := [.lit (.bool false)], args := [d1, d2, d3] }
  | _ => none }
def FnExactIsReadWrongFalsely : Prop := fnExactIsReadRow.holds Try.pinned (OpenSpec.ofChange fnExactIsReadWrong)

/-- 'laws.FnExactIsWrite': WHATEVER THE INPUT: true; the input reads as it did. -/
def fnExactIsWriteSpec : ChangeSpec := { name := "fnExactIsWrite", fn := fun _ => fun
  | [d1, d2, d3] => { results := [.lit (.bool true)], args := [d1, d2, d3] }
  | _ => none }
def fnExactIsWriteRow : OpenClaim := { program := "ythbollaceiffpaa", sum := "eb22e29579d2fc11aaa2931d6fdfb1388904f5408655111f39280ca146996611", func := "loop.example/g00218/laws.FnExactIsWrite", spec := "fnExactIsWrite", apart := false }
def FnExactIsWriteSaid : Prop := fnExactIsWriteRow.holds Try.pinned (OpenSpec.ofChange fnExactIsWriteSpec)

/-- ITS FALSE NEIGHBOUR: 'it returns false'. Refute it at one input. -/
def fnExactIsWriteWrong : ChangeSpec := { name := "fnExactIsWrite", fn := fun _ => fun
  | [d1, d2, d3] => { results := [.lit (.bool false)], args := [d1, d2, d3] }
  | _ => none }
def FnExactIsWriteWrongFalsely : Prop := fnExactIsWriteRow.holds Try.pinned (OpenSpec.ofChange fnExactIsWriteWrong)

/-- 'laws.FnGrid': WHATEVER THE INPUT: true; the input reads as it did. -/
def fnGridSpec : ChangeSpec := { name := "fnGrid", fn := fun _ => fun
  | [d1, d2] => { results := [.lit (.bool true)], args := [d1, d2] }
  | _ => none }
def fnGridRow : OpenClaim := { program := "ythbollaceiffpaa", sum := "eb22e29579d2fc11aaa2931d6fdfb1388904f5408655111f39280ca146996611", func := "loop.example/g00218/laws.FnGrid", spec := "fnGrid", unfollowed := true, recurses := true, apart := false }
def FnGridSaid : Prop := fnGridRow.holds Try.pinned (OpenSpec.ofChange fnGridSpec)

/-- ITS FALSE NEIGHBOUR: 'it returns false'. Refute it at one input. -/
def fnGridWrong : ChangeSpec := { name := "fnGrid", fn := fun _ => fun
  | [d1, d2] => { results := [.lit (.bool false)], args := [d1, d2] }
  | _ => none }
def FnGridWrongFalsely : Prop := fnGridRow.holds Try.pinned (OpenSpec.ofChange fnGridWrong)

/-- 'laws.FnExactMeetOf': WHATEVER THE INPUT: true; the input reads as it did. -/
def fnExactMeetOfSpec : ChangeSpec := { name := "fnExactMeetOf", fn := fun _ => fun
  | [d1, d2, d3] => { results := [.lit (.bool true)], args := [d1, d2, d3] }
  | _ => none }
def fnExactMeetOfRow : OpenClaim := { program := "ythbollaceiffpaa", sum := "eb22e29579d2fc11aaa2931d6fdfb1388904f5408655111f39280ca146996611", func := "loop.example/g00218/laws.FnExactMeetOf", spec := "fnExactMeetOf", unfollowed := true, recurses := true, apart := false }
def FnExactMeetOfSaid : Prop := fnExactMeetOfRow.holds Try.pinned (OpenSpec.ofChange fnExactMeetOfSpec)

/-- ITS FALSE NEIGHBOUR: 'it returns false'. Refute it at one input. -/
def fnExactMeetOfWrong : ChangeSpec := { name := "fnExactMeetOf", fn := fun _ => fun
  | [d1, d2, d3] => { results := [.lit (.bool false)], args := [d1, d2, d3] }
  | _ => none }
def FnExactMeetOfWrongFalsely : Prop := fnExactMeetOfRow.holds Try.pinned (OpenSpec.ofChange fnExactMeetOfWrong)

/-- 'laws.FnGifford': WHATEVER THE INPUT: true; the input reads as it did. -/
def fnGiffordSpec : ChangeSpec := { name := "fnGifford", fn := fun _ => fun
  | [d1, d2] => { results := [.lit (.bool true)], args := [d1, d2] }
  | _ => none }
def fnGiffordRow : OpenClaim := { program := "ythbollaceiffpaa", sum := "eb22e29579d2fc11aaa2931d6fdfb1388904f5408655111f39280ca146996611", func := "loop.example/g00218/laws.FnGifford", spec := "fnGifford", unfollowed := true, recurses := true, apart := false }
def FnGiffordSaid : Prop := fnGiffordRow.holds Try.pinned (OpenSpec.ofChange fnGiffordSpec)

/-- ITS FALSE NEIGHBOUR: 'it returns false'. Refute it at one input. -/
def fnGiffordWrong : ChangeSpec := { name := "fnGifford", fn := fun _ => fun
  | [d1, d2] => { results := [.lit (.bool false)], args := [d1, d2] }
  | _ => none }
def FnGiffordWrongFalsely : Prop := fnGiffordRow.holds Try.pinned (OpenSpec.ofChange fnGiffordWrong)

/-- 'laws.FnExactAllMeet': WHATEVER THE INPUT: true; the input reads as it did. -/
def fnExactAllMeetSpec : ChangeSpec := { name := "fnExactAllMeet", fn := fun _ => fun
  | [d1, d2] => { results := [.lit (.bool true)], args := [d1, d2] }
  | _ => none }
def fnExactAllMeetRow : OpenClaim := { program := "ythbollaceiffpaa", sum := "eb22e29579d2fc11aaa2931d6fdfb1388904f5408655111f39280ca146996611", func := "loop.example/g00218/laws.FnExactAllMeet", spec := "fnExactAllMeet", unfollowed := true, recurses := true, apart := false }
def FnExactAllMeetSaid : Prop := fnExactAllMeetRow.holds Try.pinned (OpenSpec.ofChange fnExactAllMeetSpec)

/-- ITS FALSE NEIGHBOUR: 'it returns false'. Refute it at one input. -/
def fnExactAllMeetWrong : ChangeSpec := { name := "fnExactAllMeet", fn := fun _ => fun
  | [d1, d2] => { results := [.lit (.bool false)], args := [d1, d2] }
  | _ => none }
def FnExactAllMeetWrongFalsely : Prop := fnExactAllMeetRow.holds Try.pinned (OpenSpec.ofChange fnExactAllMeetWrong)

/-- 'laws.FnExactMinimalOf': WHATEVER THE INPUT: true; the input reads as it did. -/
def fnExactMinimalOfSpec : ChangeSpec := { name := "fnExactMinimalOf", fn := fun _ => fun
  | [d1, d2] => { results := [.lit (.bool true)], args := [d1, d2] }
  | _ => none }
def fnExactMinimalOfRow : OpenClaim := { program := "ythbollaceiffpaa", sum := "eb22e29579d2fc11aaa2931d6fdfb1388904f5408655111f39280ca146996611", func := "loop.example/g00218/laws.FnExactMinimalOf", spec := "fnExactMinimalOf", unfollowed := true, recurses := true, apart := false }
def FnExactMinimalOfSaid : Prop := fnExactMinimalOfRow.holds Try.pinned (OpenSpec.ofChange fnExactMinimalOfSpec)

/-- ITS FALSE NEIGHBOUR: 'it returns false'. Refute it at one input. -/
def fnExactMinimalOfWrong : ChangeSpec := { name := "fnExactMinimalOf", fn := fun _ => fun
  | [d1, d2] => { results := [.lit (.bool false)], args := [d1, d2] }
  | _ => none }
def FnExactMinimalOfWrongFalsely : Prop := fnExactMinimalOfRow.holds Try.pinned (OpenSpec.ofChange fnExactMinimalOfWrong)

/- THE SECOND FORM. 'bulk': how many values and letters a reading holds, each counted each time it is reached (what is shared counts as often as it is met; a slice's spare places count too). A statement '..UptoSaid' is the law's where the arguments, and the package variables that the reading takes, are together of bulk at most 1048576: NARROWER than '..Said'. Prove '..Said' where nothing that the law and all that it calls make is longer than what came in: it says more and counts as full. Else prove '..UptoSaid'. A law counts once. -/
mutual
def uptoBulk {H : Type} : DataW H → Nat
  | .lit (.string bytes) => bytes.length + 1
  | .lit _ => 1
  | .nil => 1
  | .ptr d => uptoBulk d + 1
  | .slice elems spare => uptoBulkAll elems + uptoBulkAll spare + 1
  | .agg parts => uptoBulkAll parts + 1
  | .iface _ d => uptoBulk d + 1
  | .map entries => uptoBulkEntries entries + 1
  | .held _ => 1
def uptoBulkAll {H : Type} : List (DataW H) → Nat
  | [] => 0
  | d :: r => uptoBulk d + uptoBulkAll r
def uptoBulkEntries {H : Type} : List (Lit × DataW H) → Nat
  | [] => 0
  | x :: r => uptoBulkEntry x + uptoBulkEntries r
def uptoBulkEntry {H : Type} : Lit × DataW H → Nat
  | (.string bytes, d) => bytes.length + uptoBulk d + 1
  | (_, d) => uptoBulk d + 1
 end
def uptoSmall : (H : Type) → List (DataW H) → Bool := fun _ ds => decide (uptoBulkAll ds ≤ 1048576)
def OpenSpec.upto (s : _root_.Go.ChangeSpec) : _root_.Go.OpenSpec := { _root_.Go.OpenSpec.ofChange s with cond := some uptoSmall }

/-- 'laws.FnExactIsMajority', WHERE WHAT IT READS IS OF BULK AT MOST 1048576: true; the input reads as it did. -/
def fnExactIsMajorityUptoRow : OpenClaim := { program := "ythbollaceiffpaa", sum := "eb22e29579d2fc11aaa2931d6fdfb1388904f5408655111f39280ca146996611", func := "loop.example/g00218/laws.FnExactIsMajority", spec := "fnExactIsMajority", apart := false, narrowed := true }
def FnExactIsMajorityUptoSaid : Prop := fnExactIsMajorityUptoRow.holds Try.pinned (OpenSpec.upto fnExactIsMajoritySpec)

/-- 'laws.FnExactWeightOf', WHERE WHAT IT READS IS OF BULK AT MOST 1048576: true; the input reads as it did. -/
def fnExactWeightOfUptoRow : OpenClaim := { program := "ythbollaceiffpaa", sum := "eb22e29579d2fc11aaa2931d6fdfb1388904f5408655111f39280ca146996611", func := "loop.example/g00218/laws.FnExactWeightOf", spec := "fnExactWeightOf", apart := false, narrowed := true }
def FnExactWeightOfUptoSaid : Prop := fnExactWeightOfUptoRow.holds Try.pinned (OpenSpec.upto fnExactWeightOfSpec)

/-- 'laws.FnExactIsRead', WHERE WHAT IT READS IS OF BULK AT MOST 1048576: true; the input reads as it did. -/
def fnExactIsReadUptoRow : OpenClaim := { program := "ythbollaceiffpaa", sum := "eb22e29579d2fc11aaa2931d6fdfb1388904f5408655111f39280ca146996611", func := "loop.example/g00218/laws.FnExactIsRead", spec := "fnExactIsRead", apart := false, narrowed := true }
def FnExactIsReadUptoSaid : Prop := fnExactIsReadUptoRow.holds Try.pinned (OpenSpec.upto fnExactIsReadSpec)

/-- 'laws.FnExactIsWrite', WHERE WHAT IT READS IS OF BULK AT MOST 1048576: true; the input reads as it did. -/
def fnExactIsWriteUptoRow : OpenClaim := { program := "ythbollaceiffpaa", sum := "eb22e29579d2fc11aaa2931d6fdfb1388904f5408655111f39280ca146996611", func := "loop.example/g00218/laws.FnExactIsWrite", spec := "fnExactIsWrite", apart := false, narrowed := true }
def FnExactIsWriteUptoSaid : Prop := fnExactIsWriteUptoRow.holds Try.pinned (OpenSpec.upto fnExactIsWriteSpec)

/-- 'laws.FnGrid', WHERE WHAT IT READS IS OF BULK AT MOST 1048576: true; the input reads as it did. -/
def fnGridUptoRow : OpenClaim := { program := "ythbollaceiffpaa", sum := "eb22e29579d2fc11aaa2931d6fdfb1388904f5408655111f39280ca146996611", func := "loop.example/g00218/laws.FnGrid", spec := "fnGrid", unfollowed := true, recurses := true, apart := false, narrowed := true }
def FnGridUptoSaid : Prop := fnGridUptoRow.holds Try.pinned (OpenSpec.upto fnGridSpec)

/-- 'laws.FnExactMeetOf', WHERE WHAT IT READS IS OF BULK AT MOST 1048576: true; the input reads as it did. -/
def fnExactMeetOfUptoRow : OpenClaim := { program := "ythbollaceiffpaa", sum := "eb22e29579d2fc11aaa2931d6fdfb1388904f5408655111f39280ca146996611", func := "loop.example/g00218/laws.FnExactMeetOf", spec := "fnExactMeetOf", unfollowed := true, recurses := true, apart := false, narrowed := true }
def FnExactMeetOfUptoSaid : Prop := fnExactMeetOfUptoRow.holds Try.pinned (OpenSpec.upto fnExactMeetOfSpec)

/-- 'laws.FnGifford', WHERE WHAT IT READS IS OF BULK AT MOST 1048576: true; the input reads as it did. -/
def fnGiffordUptoRow : OpenClaim := { program := "ythbollaceiffpaa", sum := "eb22e29579d2fc11aaa2931d6fdfb1388904f5408655111f39280ca146996611", func := "loop.example/g00218/laws.FnGifford", spec := "fnGifford", unfollowed := true, recurses := true, apart := false, narrowed := true }
def FnGiffordUptoSaid : Prop := fnGiffordUptoRow.holds Try.pinned (OpenSpec.upto fnGiffordSpec)

/-- 'laws.FnExactAllMeet', WHERE WHAT IT READS IS OF BULK AT MOST 1048576: true; the input reads as it did. -/
def fnExactAllMeetUptoRow : OpenClaim := { program := "ythbollaceiffpaa", sum := "eb22e29579d2fc11aaa2931d6fdfb1388904f5408655111f39280ca146996611", func := "loop.example/g00218/laws.FnExactAllMeet", spec := "fnExactAllMeet", unfollowed := true, recurses := true, apart := false, narrowed := true }
def FnExactAllMeetUptoSaid : Prop := fnExactAllMeetUptoRow.holds Try.pinned (OpenSpec.upto fnExactAllMeetSpec)

/-- 'laws.FnExactMinimalOf', WHERE WHAT IT READS IS OF BULK AT MOST 1048576: true; the input reads as it did. -/
def fnExactMinimalOfUptoRow : OpenClaim := { program := "ythbollaceiffpaa", sum := "eb22e29579d2fc11aaa2931d6fdfb1388904f5408655111f39280ca146996611", func := "loop.example/g00218/laws.FnExactMinimalOf", spec := "fnExactMinimalOf", unfollowed := true, recurses := true, apart := false, narrowed := true }
def FnExactMinimalOfUptoSaid : Prop := fnExactMinimalOfUptoRow.holds Try.pinned (OpenSpec.upto fnExactMinimalOfSpec)

end Rows
end Go.Proofs.Ythbollaceiffpaa
