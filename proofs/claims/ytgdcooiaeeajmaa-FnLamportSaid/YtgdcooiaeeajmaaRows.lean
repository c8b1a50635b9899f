/-
  No cell of these rows narrows 'for every input' (looked for: loops, veiled, ifaces, maps, wideKeys, modest, calm, conditions, laid).
  DERIVED. THE GIVEN ROWS OF THIS SEAT. 3 by the template 'for every input the law returns true; each argument reads behind the call as it read before'; 0 by the template 'total and deterministic' (their statements: YtgdcooiaeeajmaaTotals.lean).
  GIVEN WITH THE SEED: the statements are not yours to turn. If you find one false, say at which input.
  Laid BY PROGRAM, IN A SANDBOX (cutbox-rows.mjs): the forced cells as the released guide's own fill.sh prints them over the translation c537c6e03ba5a79a… (all of the seat's roots in one cut). By AI agents, Wed Nov 11 2026. No macro, syntax, notation, axiom, sorry.
-/
import Derived.Test.YtgdcooiaeeajmaaChecked
import GoSem.Claim
import GoSem.ClaimJoined
import GoSem.ClaimMapViews
import Derived.JoinedTies
import Derived.KernelRfl
namespace Go.Proofs.Ytgdcooiaeeajmaa
/- THE CELL 'sum', in the pinned program and in every row, IS THE sha256 OF THE DUMP (.gsa) THAT YtgdcooiaeeajmaaProg.lean LOADS. Nothing in Lean hashes anything: it is a label: what it is worth is what the hold of that sum in a sandbox is worth. -/
noncomputable def Try.pinned : Pinned := { name := "ytgdcooiaeeajmaa", sum := "c537c6e03ba5a79a9d24ea63e48db9d65f7f389af0c604581c25343e40b07a4c", checked := Try.checked }
namespace Rows
def none {H : Type} : Left H := { results := [], args := [] }

/-- 'laws.FnNext': WHATEVER THE INPUT: true; the input reads as it did. -/
def fnNextSpec : ChangeSpec := { name := "fnNext", fn := fun _ => fun
  | [d] => { results := [.lit (.bool true)], args := [d] }
  | _ => none }
def fnNextRow : OpenClaim := { program := "ytgdcooiaeeajmaa", sum := "c537c6e03ba5a79a9d24ea63e48db9d65f7f389af0c604581c25343e40b07a4c", func := "loop.example/g00218/laws.FnNext", spec := "fnNext", apart := false }
def FnNextSaid : Prop := fnNextRow.holds Try.pinned (OpenSpec.ofChange fnNextSpec)

/-- ITS FALSE NEIGHBOUR: 'it returns false'. Refute it at one input. -/
def fnNextWrong : ChangeSpec := { name := "fnNext", fn := fun _ => fun
  | [d] => { results := [.lit (.bool false)], args := [d] }
  | _ => none }
def FnNextWrongFalsely : Prop := fnNextRow.holds Try.pinned (OpenSpec.ofChange fnNextWrong)

/-- 'laws.FnTids': WHATEVER THE INPUT: true; the input reads as it did. -/
def fnTidsSpec : ChangeSpec := { name := "fnTids", fn := fun _ => fun
  | [d1, d2] => { results := [.lit (.bool true)], args := [d1, d2] }
  | _ => none }
def fnTidsRow : OpenClaim := { program := "ytgdcooiaeeajmaa", sum := "c537c6e03ba5a79a9d24ea63e48db9d65f7f389af0c604581c25343e40b07a4c", func := "loop.example/g00218/laws.FnTids", spec := "fnTids", apart := false }
def FnTidsSaid : Prop := fnTidsRow.holds Try.pinned (OpenSpec.ofChange fnTidsSpec)

/-- ITS FALSE NEIGHBOUR: 'it returns false'. Refute it at one input. -/
def fnTidsWrong : ChangeSpec := { name := "fnTids", fn := fun _ => fun
  | [d1, d2] => { results := [.lit (.bool false)], args := [d1, d2] }
  | _ => none }
def FnTidsWrongFalsely : Prop := fnTidsRow.holds Try.pinned (OpenSpec.ofChange fnTidsWrong)

/-- 'laws.FnLamport': WHATEVER THE INPUT: true; the input reads as it did. -/
def fnLamportSpec : ChangeSpec := { name := "fnLamport", fn := fun _ => fun
  | [d] => { results := [.lit (.bool true)], args := [d] }
  | _ => none }
def fnLamportRow : OpenClaim := { program := "ytgdcooiaeeajmaa", sum := "c537c6e03ba5a79a9d24ea63e48db9d65f7f389af0c604581c25343e40b07a4c", func := "loop.example/g00218/laws.FnLamport", spec := "fnLamport", apart := false }
def FnLamportSaid : Prop := fnLamportRow.holds Try.pinned (OpenSpec.ofChange fnLamportSpec)

/-- ITS FALSE NEIGHBOUR: 'it returns false'. Refute it at one input. -/
def fnLamportWrong : ChangeSpec := { name := "fnLamport", fn := fun _ => fun
  | [d] => { results := [.lit (.bool false)], args := [d] }
  | _ => none }
def FnLamportWrongFalsely : Prop := fnLamportRow.holds Try.pinned (OpenSpec.ofChange fnLamportWrong)

/- THE SECOND FORM. 'bulk': how many values and letters a reading holds, each counted each time it is reached (what is shared counts as often as it is met; a slice's spare places count too). A statement '..UptoSaid' is the law's where the arguments, and the package variables that the reading takes, are together of bulk at most 1048576: NARROWER than '..Said'. Prove '..Said' where nothing that the law and all that it calls make is longer than what came in: it says more and counts as full. Else prove '..UptoSaid'. A law counts once. -/
mutual
def uptoBulk {H : Type} : DataW H → Nat
  | .lit (.string bytes) => bytes.length + 1
  | .lit _ => 1
  | .nil => 1
  | .ptr d => uptoBulk d + 1
  | .slice elems spare => uptoBulkAll elems + uptoBulkAll spare + 1
  | .agg parts => uptoBulkAll parts + 1
  | .iface _ d => uptoBulk d + 1
  | .map entries => uptoBulkEntries entries + 1
  | .held _ => 1
def uptoBulkAll {H : Type} : List (DataW H) → Nat
  | [] => 0
  | d :: r => uptoBulk d + uptoBulkAll r
def uptoBulkEntries {H : Type} : List (Lit × DataW H) → Nat
  | [] => 0
  | x :: r => uptoBulkEntry x + uptoBulkEntries r
def uptoBulkEntry {H : Type} : Lit × DataW H → Nat
  | (.string bytes, d) => bytes.length + uptoBulk d + 1
  | (_, d) => uptoBulk d + 1
 end
def uptoSmall : (H : Type) → List (DataW H) → Bool := fun _ ds => decide (uptoBulkAll ds ≤ 1048576)
def OpenSpec.upto (s : _root_.Go.ChangeSpec) : _root_.Go.OpenSpec := { _root_.Go.OpenSpec.ofChange s with cond := some uptoSmall }

/-- 'laws.FnNext', WHERE WHAT IT READS IS OF BULK AT MOST 1048576: true; the input reads as it did. -/
def fnNextUptoRow : OpenClaim := { program := "ytgdcooiaeeajmaa", sum := "c537c6e03ba5a79a9d24ea63e48db9d65f7f389af0c604581c25343e40b07a4c", func := "loop.example/g00218/laws.FnNext", spec := "fnNext", apart := false, narrowed := true }
def FnNextUptoSaid : Prop := fnNextUptoRow.holds Try.pinned (OpenSpec.upto fnNextSpec)

/-- 'laws.FnTids', WHERE WHAT IT READS IS OF BULK AT MOST 1048576: true; the input reads as it did. -/
def fnTidsUptoRow : OpenClaim := { program := "ytgdcooiaeeajmaa", sum := "c537c6e03ba5a79a9d24ea63e48db9d65f7f389af0c604581c25343e40b07a4c", func := "loop.example/g00218/laws.FnTids", spec := "fnTids", apart := false, narrowed := true }
def FnTidsUptoSaid : Prop := fnTidsUptoRow.holds Try.pinned (OpenSpec.upto fnTidsSpec)

/-- 'laws.FnLamport', WHERE WHAT IT READS IS OF BULK AT MOST 1048576: true; the input reads as it did. -/
def fnLamportUptoRow : OpenClaim := { program := "ytgdcooiaeeajmaa", sum := "c537c6e03ba5a79a9d24ea63e48db9d65f7f389af0c604581c25343e40b07a4c", func := "loop.example/g00218/laws.FnLamport", spec := "fnLamport", apart := false, narrowed := true }
def FnLamportUptoSaid : Prop := fnLamportUptoRow.holds Try.pinned (OpenSpec.upto fnLamportSpec)

end Rows
end Go.Proofs.Ytgdcooiaeeajmaa
