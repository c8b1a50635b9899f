/-
  No cell of these rows narrows 'for every input' (looked for: loops, veiled, ifaces, maps, wideKeys, modest, calm, conditions, laid).
  DERIVED. THE GIVEN ROWS OF THIS SEAT. 7 by the template 'for every input the law returns true; each argument reads behind the call as it read before'; 0 by the template 'total and deterministic' (their statements: YtcloilddgimamaaTotals.lean).
  GIVEN WITH THE SEED: the statements are not yours to turn. If you find one false, say at which input.
  Laid BY PROGRAM, IN A SANDBOX (cutbox-rows.mjs): the forced cells as the released guide's own fill.sh prints them over the translation f4377d0d815c5927… (all of the seat's roots in one cut). By AI agents, Wed Nov 11 2026. No macro, syntax, notation, axiom, sorry.
-/
import Derived.Test.YtcloilddgimamaaChecked
import GoSem.Claim
import GoSem.ClaimJoined
import GoSem.ClaimMapViews
import Derived.JoinedTies
import Derived.KernelRfl
namespace Go.Proofs.Ytcloilddgimamaa
/- THE CELL 'sum', in the pinned program and in every row, IS THE sha256 OF THE DUMP (.gsa) THAT YtcloilddgimamaaProg.lean LOADS. Nothing in Lean hashes anything: it is a label: what it is worth is what the hold of that sum in a sandbox is worth. -/
noncomputable def Try.pinned : Pinned := { name := "ytcloilddgimamaa", sum := "f4377d0d815c5927e71dc435db8a2c12074497fb3b6c3a3c9ff1d23d5d306668", checked := Try.checked }
namespace Rows
def none {H : Type} : Left H := { results := [], args := [] }

/-- 'laws.FnExactGoodCounter': WHATEVER THE INPUT: true; the input reads as it did. -/
def fnExactGoodCounterSpec : ChangeSpec := { name := "fnExactGoodCounter", fn := fun _ => fun
  | [d] => { results := [.lit (.bool true)], args := [d] }
  | _ => none }
def fnExactGoodCounterRow : OpenClaim := { program := "ytcloilddgimamaa", sum := "f4377d0d815c5927e71dc435db8a2c12074497fb3b6c3a3c9ff1d23d5d306668", func := "loop.example/g00218/laws.FnExactGoodCounter", spec := "fnExactGoodCounter", unfollowed := true, recurses := true, apart := false }
def FnExactGoodCounterSaid : Prop := fnExactGoodCounterRow.holds Try.pinned (OpenSpec.ofChange fnExactGoodCounterSpec)

/-- ITS FALSE NEIGHBOUR: 'it returns false'. Refute it at one input. -/
def fnExactGoodCounterWrong : ChangeSpec := { name := "fnExactGoodCounter", fn := fun _ => fun
  | [d] => { results := [.lit (.bool false)], args := [d] }
  | _ => none }
def FnExactGoodCounterWrongFalsely : Prop := fnExactGoodCounterRow.holds Try.pinned (OpenSpec.ofChange fnExactGoodCounterWrong)

/-- 'laws.FnExactValueOf': WHATEVER THE INPUT: true; the input reads as it did. -/
def fnExactValueOfSpec : ChangeSpec := { name := "fnExactValueOf", fn := fun _ => fun
  | [d] => { results := [.lit (.bool true)], args := [d] }
  | _ => none }
def fnExactValueOfRow : OpenClaim := { program := "ytcloilddgimamaa", sum := "f4377d0d815c5927e71dc435db8a2c12074497fb3b6c3a3c9ff1d23d5d306668", func := "loop.example/g00218/laws.FnExactValueOf", spec := "fnExactValueOf", unfollowed := true, recurses := true, apart := false }
def FnExactValueOfSaid : Prop := fnExactValueOfRow.holds Try.pinned (OpenSpec.ofChange fnExactValueOfSpec)

/-- ITS FALSE NEIGHBOUR: 'it returns false'. Refute it at one input. -/
def fnExactValueOfWrong : ChangeSpec := { name := "fnExactValueOf", fn := fun _ => fun
  | [d] => { results := [.lit (.bool false)], args := [d] }
  | _ => none }
def FnExactValueOfWrongFalsely : Prop := fnExactValueOfRow.holds Try.pinned (OpenSpec.ofChange fnExactValueOfWrong)

/-- 'laws.FnExactMergeLatest': WHATEVER THE INPUT: true; the input reads as it did. -/
def fnExactMergeLatestSpec : ChangeSpec := { name := "fnExactMergeLatest", fn := fun _ => fun
  | [d1, d2] => { results := [.lit (.bool true)], args := [d1, d2] }
  | _ => none }
def fnExactMergeLatestRow : OpenClaim := { program := "ytcloilddgimamaa", sum := "f4377d0d815c5927e71dc435db8a2c12074497fb3b6c3a3c9ff1d23d5d306668", func := "loop.example/g00218/laws.FnExactMergeLatest", spec := "fnExactMergeLatest", apart := false }
def FnExactMergeLatestSaid : Prop := fnExactMergeLatestRow.holds Try.pinned (OpenSpec.ofChange fnExactMergeLatestSpec)

/-- ITS FALSE NEIGHBOUR: 'it returns false'. Refute it at one input. -/
def fnExactMergeLatestWrong : ChangeSpec := { name := "fnExactMergeLatest", fn := fun _ => fun
  | [d1, d2] => { results := [.lit (.bool false)], args := [d1, d2] }
  | _ => none }
def FnExactMergeLatestWrongFalsely : Prop := fnExactMergeLatestRow.holds Try.pinned (OpenSpec.ofChange fnExactMergeLatestWrong)

/-- 'laws.FnLatest': WHATEVER THE INPUT: true; the input reads as it did. -/
def fnLatestSpec : ChangeSpec := { name := "fnLatest", fn := fun _ => fun
  | [d1, d2] => { results := [.lit (.bool true)], args := [d1, d2] }
  | _ => none }
def fnLatestRow : OpenClaim := { program := "ytcloilddgimamaa", sum := "f4377d0d815c5927e71dc435db8a2c12074497fb3b6c3a3c9ff1d23d5d306668", func := "loop.example/g00218/laws.FnLatest", spec := "fnLatest", apart := false }
def FnLatestSaid : Prop := fnLatestRow.holds Try.pinned (OpenSpec.ofChange fnLatestSpec)

/-- ITS FALSE NEIGHBOUR: 'it returns false'. Refute it at one input. -/
def fnLatestWrong : ChangeSpec := { name := "fnLatest", fn := fun _ => fun
  | [d1, d2] => { results := [.lit (.bool false)], args := [d1, d2] }
  | _ => none }
def FnLatestWrongFalsely : Prop := fnLatestRow.holds Try.pinned (OpenSpec.ofChange fnLatestWrong)

/-- 'laws.FnExactMergeCounter': WHATEVER THE INPUT: true; the input reads as it did. -/
def fnExactMergeCounterSpec : ChangeSpec := { name := "fnExactMergeCounter", fn := fun _ => fun
  | [d1, d2] => { results := [.lit (.bool true)], args := [d1, d2] }
  | _ => none }
def fnExactMergeCounterRow : OpenClaim := { program := "ytcloilddgimamaa", sum := "f4377d0d815c5927e71dc435db8a2c12074497fb3b6c3a3c9ff1d23d5d306668", func := "loop.example/g00218/laws.FnExactMergeCounter", spec := "fnExactMergeCounter", unfollowed := true, recurses := true, apart := false }
def FnExactMergeCounterSaid : Prop := fnExactMergeCounterRow.holds Try.pinned (OpenSpec.ofChange fnExactMergeCounterSpec)

/-- ITS FALSE NEIGHBOUR: 'it returns false'. Refute it at one input. -/
def fnExactMergeCounterWrong : ChangeSpec := { name := "fnExactMergeCounter", fn := fun _ => fun
  | [d1, d2] => { results := [.lit (.bool false)], args := [d1, d2] }
  | _ => none }
def FnExactMergeCounterWrongFalsely : Prop := fnExactMergeCounterRow.holds Try.pinned (OpenSpec.ofChange fnExactMergeCounterWrong)

/-- 'laws.FnExactCountBy': WHATEVER THE INPUT: true; the input reads as it did. -/
def fnExactCountBySpec : ChangeSpec := { name := "fnExactCountBy", fn := fun _ => fun
  | [d1, d2, d3] => { results := [.lit (.bool true)], args := [d1, d2, d3] }
  | _ => none }
def fnExactCountByRow : OpenClaim := { program := "ytcloilddgimamaa", sum := "f4377d0d815c5927e71dc435db8a2c12074497fb3b6c3a3c9ff1d23d5d306668", func := "loop.example/g00218/laws.FnExactCountBy", spec := "fnExactCountBy", unfollowed := true, recurses := true, apart := false }
def FnExactCountBySaid : Prop := fnExactCountByRow.holds Try.pinned (OpenSpec.ofChange fnExactCountBySpec)

/-- ITS FALSE NEIGHBOUR: 'it returns false'. Refute it at one input. -/
def fnExactCountByWrong : ChangeSpec := { name := "fnExactCountBy", fn := fun _ => fun
  | [d1, d2, d3] => { results := [.lit (.bool false)], args := [d1, d2, d3] }
  | _ => none }
def FnExactCountByWrongFalsely : Prop := fnExactCountByRow.holds Try.pinned (OpenSpec.ofChange fnExactCountByWrong)

/-- 'laws.FnCounters': WHATEVER THE INPUT: true; the input reads as it did. -/
def fnCountersSpec : ChangeSpec := { name := "fnCounters", fn := fun _ => fun
  | [d1, d2] => { results := [.lit (.bool true)], args := [d1, d2] }
  | _ => none }
def fnCountersRow : OpenClaim := { program := "ytcloilddgimamaa", sum := "f4377d0d815c5927e71dc435db8a2c12074497fb3b6c3a3c9ff1d23d5d306668", func := "loop.example/g00218/laws.FnCounters", spec := "fnCounters", unfollowed := true, recurses := true, apart := false }
def FnCountersSaid : Prop := fnCountersRow.holds Try.pinned (OpenSpec.ofChange fnCountersSpec)

/-- ITS FALSE NEIGHBOUR: 'it returns false'. Refute it at one input. -/
def fnCountersWrong : ChangeSpec := { name := "fnCounters", fn := fun _ => fun
  | [d1, d2] => { results := [.lit (.bool false)], args := [d1, d2] }
  | _ => none }
def FnCountersWrongFalsely : Prop := fnCountersRow.holds Try.pinned (OpenSpec.ofChange fnCountersWrong)

/- THE SECOND FORM. 'bulk': how many values and letters a reading holds, each counted each time it is reached (what is shared counts as often as it is met; a slice's spare places count too). A statement '..UptoSaid' is the law's where the arguments, and the package variables that the reading takes, are together of bulk at most 1048576: NARROWER than '..Said'. Prove '..Said' where nothing that the law and all that it calls make is longer than what came in: it says more and counts as full. Else prove '..UptoSaid'. A law counts once. -/
mutual
def uptoBulk {H : Type} : DataW H → Nat
  | .lit (.string bytes) => bytes.length + 1
  | .lit _ => 1
  | .nil => 1
  | .ptr d => uptoBulk d + 1
  | .slice elems spare => uptoBulkAll elems + uptoBulkAll spare + 1
  | .agg parts => uptoBulkAll parts + 1
  | .iface _ d => uptoBulk d + 1
  | .map entries => uptoBulkEntries entries + 1
  | .held _ => 1
def uptoBulkAll {H : Type} : List (DataW H) → Nat
  | [] => 0
  | d :: r => uptoBulk d + uptoBulkAll r
def uptoBulkEntries {H : Type} : List (Lit × DataW H) → Nat
  | [] => 0
  | x :: r => uptoBulkEntry x + uptoBulkEntries r
def uptoBulkEntry {H : Type} : Lit × DataW H → Nat
  | (.string bytes, d) => bytes.length + uptoBulk d + 1
  | (_, d) => uptoBulk d + 1
 end
def uptoSmall : (H : Type) → List (DataW H) → Bool := fun _ ds => decide (uptoBulkAll ds ≤ 1048576)
def OpenSpec.upto (s : _root_.Go.ChangeSpec) : _root_.Go.OpenSpec := { _root_.Go.OpenSpec.ofChange s with cond := some uptoSmall }

/-- 'laws.FnExactGoodCounter', WHERE WHAT IT READS IS OF BULK AT MOST 1048576: true; the input reads as it did. -/
def fnExactGoodCounterUptoRow : OpenClaim := { program := "ytcloilddgimamaa", sum := "f4377d0d815c5927e71dc435db8a2c12074497fb3b6c3a3c9ff1d23d5d306668", func := "loop.example/g00218/laws.FnExactGoodCounter", spec := "fnExactGoodCounter", unfollowed := true, recurses := true, apart := false, narrowed := true }
def FnExactGoodCounterUptoSaid : Prop := fnExactGoodCounterUptoRow.holds Try.pinned (OpenSpec.upto fnExactGoodCounterSpec)

/-- 'laws.FnExactValueOf', WHERE WHAT IT READS IS OF BULK AT MOST 1048576: true; the input reads as it did. -/
def fnExactValueOfUptoRow : OpenClaim := { program := "ytcloilddgimamaa", sum := "f4377d0d815c5927e71dc435db8a2c12074497fb3b6c3a3c9ff1d23d5d306668", func := "loop.example/g00218/laws.FnExactValueOf", spec := "fnExactValueOf", unfollowed := true, recurses := true, apart := false, narrowed := true }
def FnExactValueOfUptoSaid : Prop := fnExactValueOfUptoRow.holds Try.pinned (OpenSpec.upto fnExactValueOfSpec)

/-- 'laws.FnExactMergeLatest', WHERE WHAT IT READS IS OF BULK AT MOST 1048576: true; the input reads as it did. -/
def fnExactMergeLatestUptoRow : OpenClaim := { program := "ytcloilddgimamaa", sum := "f4377d0d815c5927e71dc435db8a2c12074497fb3b6c3a3c9ff1d23d5d306668", func := "loop.example/g00218/laws.FnExactMergeLatest", spec := "fnExactMergeLatest", apart := false, narrowed := true }
def FnExactMergeLatestUptoSaid : Prop := fnExactMergeLatestUptoRow.holds Try.pinned (OpenSpec.upto fnExactMergeLatestSpec)

/-- 'laws.FnLatest', WHERE WHAT IT READS IS OF BULK AT MOST 1048576: true; the input reads as it did. -/
def fnLatestUptoRow : OpenClaim := { program := "ytcloilddgimamaa", sum := "f4377d0d815c5927e71dc435db8a2c12074497fb3b6c3a3c9ff1d23d5d306668", func := "loop.example/g00218/laws.FnLatest", spec := "fnLatest", apart := false, narrowed := true }
def FnLatestUptoSaid : Prop := fnLatestUptoRow.holds Try.pinned (OpenSpec.upto fnLatestSpec)

/-- 'laws.FnExactMergeCounter', WHERE WHAT IT READS IS OF BULK AT MOST 1048576: true; the input reads as it did. -/
def fnExactMergeCounterUptoRow : OpenClaim := { program := "ytcloilddgimamaa", sum := "f4377d0d815c5927e71dc435db8a2c12074497fb3b6c3a3c9ff1d23d5d306668", func := "loop.example/g00218/laws.FnExactMergeCounter", spec := "fnExactMergeCounter", unfollowed := true, recurses := true, apart := false, narrowed := true }
def FnExactMergeCounterUptoSaid : Prop := fnExactMergeCounterUptoRow.holds Try.pinned (OpenSpec.upto fnExactMergeCounterSpec)

/-- 'laws.FnExactCountBy', WHERE WHAT IT READS IS OF BULK AT MOST 1048576: true; the input reads as it did. -/
def fnExactCountByUptoRow : OpenClaim := { program := "ytcloilddgimamaa", sum := "f4377d0d815c5927e71dc435db8a2c12074497fb3b6c3a3c9ff1d23d5d306668", func := "loop.example/g00218/laws.FnExactCountBy", spec := "fnExactCountBy", unfollowed := true, recurses := true, apart := false, narrowed := true }
def FnExactCountByUptoSaid : Prop := fnExactCountByUptoRow.holds Try.pinned (OpenSpec.upto fnExactCountBySpec)

/-- 'laws.FnCounters', WHERE WHAT IT READS IS OF BULK AT MOST 1048576: true; the input reads as it did. -/
def fnCountersUptoRow : OpenClaim := { program := "ytcloilddgimamaa", sum := "f4377d0d815c5927e71dc435db8a2c12074497fb3b6c3a3c9ff1d23d5d306668", func := "loop.example/g00218/laws.FnCounters", spec := "fnCounters", unfollowed := true, recurses := true, apart := false, narrowed := true }
def FnCountersUptoSaid : Prop := fnCountersUptoRow.holds Try.pinned (OpenSpec.upto fnCountersSpec)

end Rows
end Go.Proofs.Ytcloilddgimamaa
