/-
  No cell of these rows narrows 'for every input' (looked for: loops, veiled, ifaces, maps, wideKeys, modest, calm, conditions, laid).
  DERIVED. THE GIVEN ROWS OF THIS SEAT. 8 by the template 'for every input the law returns true; each argument reads behind the call as it read before'; 0 by the template 'total and deterministic' (their statements: YtipfikmbldgliaaTotals.lean).
  GIVEN WITH THE SEED: the statements are not yours to turn. If you find one false, say at which input.
  Laid BY PROGRAM, IN A SANDBOX (cutbox-rows.mjs): the forced cells as the released guide's own fill.sh prints them over the translation d200a7809fbd9417… (all of the seat's roots in one cut). By AI agents, Wed Nov 11 2026. No macro, syntax, notation, axiom, sorry.
-/
import Derived.Test.YtipfikmbldgliaaChecked
import GoSem.Claim
import GoSem.ClaimJoined
import GoSem.ClaimMapViews
import Derived.JoinedTies
import Derived.KernelRfl
namespace Go.Proofs.Ytipfikmbldgliaa
/- THE CELL 'sum', in the pinned program and in every row, IS THE sha256 OF THE DUMP (.gsa) THAT YtipfikmbldgliaaProg.lean LOADS. Nothing in Lean hashes anything: it is a label: what it is worth is what the hold of that sum in a sandbox is worth. -/
noncomputable def Try.pinned : Pinned := { name := "ytipfikmbldgliaa", sum := "d200a7809fbd94175dfb11b78c73806d9a052f14cd26ce9eac660d843cf63a15", checked := Try.checked }
namespace Rows
def none {H : Type} : Left H := { results := [], args := [] }

/-- 'laws.FnExactNewRegister': WHATEVER THE INPUT: true; the input reads as it did. -/
def fnExactNewRegisterSpec : ChangeSpec := { name := "fnExactNewRegister", fn := fun _ => fun
  | [d] => { results := [.lit (.bool true)], args := [d] }
  | _ => none }
def fnExactNewRegisterRow : OpenClaim := { program := "ytipfikmbldgliaa", sum := "d200a7809fbd94175dfb11b78c73806d9a052f14cd26ce9eac660d843cf63a15", func := "loop.example/g00218/laws.FnExactNewRegister", spec := "fnExactNewRegister", apart := false }
def FnExactNewRegisterSaid : Prop := fnExactNewRegisterRow.holds Try.pinned (OpenSpec.ofChange fnExactNewRegisterSpec)

/-- ITS FALSE NEIGHBOUR: 'it returns false'. Refute it at one input. -/
def fnExactNewRegisterWrong : ChangeSpec := { name := "fnExactNewRegister", fn := fun _ => fun
  | [d] => { results := [.lit (.bool false)], args := [d] }
  | _ => none }
def FnExactNewRegisterWrongFalsely : Prop := fnExactNewRegisterRow.holds Try.pinned (OpenSpec.ofChange fnExactNewRegisterWrong)

/-- 'laws.FnExactGoodRegister': WHATEVER THE INPUT: true; the input reads as it did. -/
def fnExactGoodRegisterSpec : ChangeSpec := { name := "fnExactGoodRegister", fn := fun _ => fun
  | [d] => { results := [.lit (.bool true)], args := [d] }
  | _ => none }
def fnExactGoodRegisterRow : OpenClaim := { program := "ytipfikmbldgliaa", sum := "d200a7809fbd94175dfb11b78c73806d9a052f14cd26ce9eac660d843cf63a15", func := "loop.example/g00218/laws.FnExactGoodRegister", spec := "fnExactGoodRegister", unfollowed := true, recurses := true, apart := false }
def FnExactGoodRegisterSaid : Prop := fnExactGoodRegisterRow.holds Try.pinned (OpenSpec.ofChange fnExactGoodRegisterSpec)

/-- ITS FALSE NEIGHBOUR: 'it returns false'. Refute it at one input. -/
def fnExactGoodRegisterWrong : ChangeSpec := { name := "fnExactGoodRegister", fn := fun _ => fun
  | [d] => { results := [.lit (.bool false)], args := [d] }
  | _ => none }
def FnExactGoodRegisterWrongFalsely : Prop := fnExactGoodRegisterRow.holds Try.pinned (OpenSpec.ofChange fnExactGoodRegisterWrong)

/-- 'laws.FnExactNewestOf': WHATEVER THE INPUT: true; the input reads as it did. -/
def fnExactNewestOfSpec : ChangeSpec := { name := "fnExactNewestOf", fn := fun _ => fun
  | [d] => { results := [.lit (.bool true)], args := [d] }
  | _ => none }
def fnExactNewestOfRow : OpenClaim := { program := "ytipfikmbldgliaa", sum := "d200a7809fbd94175dfb11b78c73806d9a052f14cd26ce9eac660d843cf63a15", func := "loop.example/g00218/laws.FnExactNewestOf", spec := "fnExactNewestOf", unfollowed := true, recurses := true, apart := false }
def FnExactNewestOfSaid : Prop := fnExactNewestOfRow.holds Try.pinned (OpenSpec.ofChange fnExactNewestOfSpec)

/-- ITS FALSE NEIGHBOUR: 'it returns false'. Refute it at one input. -/
def fnExactNewestOfWrong : ChangeSpec := { name := "fnExactNewestOf", fn := fun _ => fun
  | [d] => { results := [.lit (.bool false)], args := [d] }
  | _ => none }
def FnExactNewestOfWrongFalsely : Prop := fnExactNewestOfRow.holds Try.pinned (OpenSpec.ofChange fnExactNewestOfWrong)

/-- 'laws.FnExactCallsOf': WHATEVER THE INPUT: true; the input reads as it did. -/
def fnExactCallsOfSpec : ChangeSpec := { name := "fnExactCallsOf", fn := fun _ => fun
  | [d] => { results := [.lit (.bool true)], args := [d] }
  | _ => none }
def fnExactCallsOfRow : OpenClaim := { program := "ytipfikmbldgliaa", sum := "d200a7809fbd94175dfb11b78c73806d9a052f14cd26ce9eac660d843cf63a15", func := "loop.example/g00218/laws.FnExactCallsOf", spec := "fnExactCallsOf", unfollowed := true, recurses := true, apart := false }
def FnExactCallsOfSaid : Prop := fnExactCallsOfRow.holds Try.pinned (OpenSpec.ofChange fnExactCallsOfSpec)

/-- ITS FALSE NEIGHBOUR: 'it returns false'. Refute it at one input. -/
def fnExactCallsOfWrong : ChangeSpec := { name := "fnExactCallsOf", fn := fun _ => fun
  | [d] => { results := [.lit (.bool false)], args := [d] }
  | _ => none }
def FnExactCallsOfWrongFalsely : Prop := fnExactCallsOfRow.holds Try.pinned (OpenSpec.ofChange fnExactCallsOfWrong)

/-- 'laws.FnExactNewNet': WHATEVER THE INPUT: true; the input reads as it did. -/
def fnExactNewNetSpec : ChangeSpec := { name := "fnExactNewNet", fn := fun _ => fun
  | [d] => { results := [.lit (.bool true)], args := [d] }
  | _ => none }
def fnExactNewNetRow : OpenClaim := { program := "ytipfikmbldgliaa", sum := "d200a7809fbd94175dfb11b78c73806d9a052f14cd26ce9eac660d843cf63a15", func := "loop.example/g00218/laws.FnExactNewNet", spec := "fnExactNewNet", apart := false }
def FnExactNewNetSaid : Prop := fnExactNewNetRow.holds Try.pinned (OpenSpec.ofChange fnExactNewNetSpec)

/-- ITS FALSE NEIGHBOUR: 'it returns false'. Refute it at one input. -/
def fnExactNewNetWrong : ChangeSpec := { name := "fnExactNewNet", fn := fun _ => fun
  | [d] => { results := [.lit (.bool false)], args := [d] }
  | _ => none }
def FnExactNewNetWrongFalsely : Prop := fnExactNewNetRow.holds Try.pinned (OpenSpec.ofChange fnExactNewNetWrong)

/-- 'laws.FnExactGoodNet': WHATEVER THE INPUT: true; the input reads as it did. -/
def fnExactGoodNetSpec : ChangeSpec := { name := "fnExactGoodNet", fn := fun _ => fun
  | [d] => { results := [.lit (.bool true)], args := [d] }
  | _ => none }
def fnExactGoodNetRow : OpenClaim := { program := "ytipfikmbldgliaa", sum := "d200a7809fbd94175dfb11b78c73806d9a052f14cd26ce9eac660d843cf63a15", func := "loop.example/g00218/laws.FnExactGoodNet", spec := "fnExactGoodNet", unfollowed := true, recurses := true, apart := false }
def FnExactGoodNetSaid : Prop := fnExactGoodNetRow.holds Try.pinned (OpenSpec.ofChange fnExactGoodNetSpec)

/-- ITS FALSE NEIGHBOUR: 'it returns false'. Refute it at one input. -/
def fnExactGoodNetWrong : ChangeSpec := { name := "fnExactGoodNet", fn := fun _ => fun
  | [d] => { results := [.lit (.bool false)], args := [d] }
  | _ => none }
def FnExactGoodNetWrongFalsely : Prop := fnExactGoodNetRow.holds Try.pinned (OpenSpec.ofChange fnExactGoodNetWrong)

/-- 'laws.FnExactTotalOf': WHATEVER THE INPUT: true; the input reads as it did. -/
def fnExactTotalOfSpec : ChangeSpec := { name := "fnExactTotalOf", fn := fun _ => fun
  | [d] => { results := [.lit (.bool true)], args := [d] }
  | _ => none }
def fnExactTotalOfRow : OpenClaim := { program := "ytipfikmbldgliaa", sum := "d200a7809fbd94175dfb11b78c73806d9a052f14cd26ce9eac660d843cf63a15", func := "loop.example/g00218/laws.FnExactTotalOf", spec := "fnExactTotalOf", unfollowed := true, recurses := true, apart := false }
def FnExactTotalOfSaid : Prop := fnExactTotalOfRow.holds Try.pinned (OpenSpec.ofChange fnExactTotalOfSpec)

/-- ITS FALSE NEIGHBOUR: 'it returns false'. Refute it at one input. -/
def fnExactTotalOfWrong : ChangeSpec := { name := "fnExactTotalOf", fn := fun _ => fun
  | [d] => { results := [.lit (.bool false)], args := [d] }
  | _ => none }
def FnExactTotalOfWrongFalsely : Prop := fnExactTotalOfRow.holds Try.pinned (OpenSpec.ofChange fnExactTotalOfWrong)

/-- 'laws.FnExactPictureOf': WHATEVER THE INPUT: true; the input reads as it did. -/
def fnExactPictureOfSpec : ChangeSpec := { name := "fnExactPictureOf", fn := fun _ => fun
  | [d] => { results := [.lit (.bool true)], args := [d] }
  | _ => none }
def fnExactPictureOfRow : OpenClaim := { program := "ytipfikmbldgliaa", sum := "d200a7809fbd94175dfb11b78c73806d9a052f14cd26ce9eac660d843cf63a15", func := "loop.example/g00218/laws.FnExactPictureOf", spec := "fnExactPictureOf", unfollowed := true, recurses := true, apart := false }
def FnExactPictureOfSaid : Prop := fnExactPictureOfRow.holds Try.pinned (OpenSpec.ofChange fnExactPictureOfSpec)

/-- ITS FALSE NEIGHBOUR: 'it returns false'. Refute it at one input. -/
def fnExactPictureOfWrong : ChangeSpec := { name := "fnExactPictureOf", fn := fun _ => fun
  | [d] => { results := [.lit (.bool false)], args := [d] }
  | _ => none }
def FnExactPictureOfWrongFalsely : Prop := fnExactPictureOfRow.holds Try.pinned (OpenSpec.ofChange fnExactPictureOfWrong)

/- THE SECOND FORM. 'bulk': how many values and letters a reading holds, each counted each time it is reached (what is shared counts as often as it is met; a slice's spare places count too). A statement '..UptoSaid' is the law's where the arguments, and the package variables that the reading takes, are together of bulk at most 1048576: NARROWER than '..Said'. Prove '..Said' where nothing that the law and all that it calls make is longer than what came in: it says more and counts as full. Else prove '..UptoSaid'. A law counts once. -/
mutual
def uptoBulk {H : Type} : DataW H → Nat
  | .lit (.string bytes) => bytes.length + 1
  | .lit _ => 1
  | .nil => 1
  | .ptr d => uptoBulk d + 1
  | .slice elems spare => uptoBulkAll elems + uptoBulkAll spare + 1
  | .agg parts => uptoBulkAll parts + 1
  | .iface _ d => uptoBulk d + 1
  | .map entries => uptoBulkEntries entries + 1
  | .held _ => 1
def uptoBulkAll {H : Type} : List (DataW H) → Nat
  | [] => 0
  | d :: r => uptoBulk d + uptoBulkAll r
def uptoBulkEntries {H : Type} : List (Lit × DataW H) → Nat
  | [] => 0
  | x :: r => uptoBulkEntry x + uptoBulkEntries r
def uptoBulkEntry {H : Type} : Lit × DataW H → Nat
  | (.string bytes, d) => bytes.length + uptoBulk d + 1
  | (_, d) => uptoBulk d + 1
 end
def uptoSmall : (H : Type) → List (DataW H) → Bool := fun _ ds => decide (uptoBulkAll ds ≤ 1048576)
def OpenSpec.upto (s : _root_.Go.ChangeSpec) : _root_.Go.OpenSpec := { _root_.Go.OpenSpec.ofChange s with cond := some uptoSmall }

/-- 'laws.FnExactNewRegister', WHERE WHAT IT READS IS OF BULK AT MOST 1048576: true; the input reads as it did. -/
def fnExactNewRegisterUptoRow : OpenClaim := { program := "ytipfikmbldgliaa", sum := "d200a7809fbd94175dfb11b78c73806d9a052f14cd26ce9eac660d843cf63a15", func := "loop.example/g00218/laws.FnExactNewRegister", spec := "fnExactNewRegister", apart := false, narrowed := true }
def FnExactNewRegisterUptoSaid : Prop := fnExactNewRegisterUptoRow.holds Try.pinned (OpenSpec.upto fnExactNewRegisterSpec)

/-- 'laws.FnExactGoodRegister', WHERE WHAT IT READS IS OF BULK AT MOST 1048576: true; the input reads as it did. -/
def fnExactGoodRegisterUptoRow : OpenClaim := { program := "ytipfikmbldgliaa", sum := "d200a7809fbd94175dfb11b78c73806d9a052f14cd26ce9eac660d843cf63a15", func := "loop.example/g00218/laws.FnExactGoodRegister", spec := "fnExactGoodRegister", unfollowed := true, recurses := true, apart := false, narrowed := true }
def FnExactGoodRegisterUptoSaid : Prop := fnExactGoodRegisterUptoRow.holds Try.pinned (OpenSpec.upto fnExactGoodRegisterSpec)

/-- 'laws.FnExactNewestOf', WHERE WHAT IT READS IS OF BULK AT MOST 1048576: true; the input reads as it did. -/
def fnExactNewestOfUptoRow : OpenClaim := { program := "ytipfikmbldgliaa", sum := "d200a7809fbd94175dfb11b78c73806d9a052f14cd26ce9eac660d843cf63a15", func := "loop.example/g00218/laws.FnExactNewestOf", spec := "fnExactNewestOf", unfollowed := true, recurses := true, apart := false, narrowed := true }
def FnExactNewestOfUptoSaid : Prop := fnExactNewestOfUptoRow.holds Try.pinned (OpenSpec.upto fnExactNewestOfSpec)

/-- 'laws.FnExactCallsOf', WHERE WHAT IT READS IS OF BULK AT MOST 1048576: true; the input reads as it did. -/
def fnExactCallsOfUptoRow : OpenClaim := { program := "ytipfikmbldgliaa", sum := "d200a7809fbd94175dfb11b78c73806d9a052f14cd26ce9eac660d843cf63a15", func := "loop.example/g00218/laws.FnExactCallsOf", spec := "fnExactCallsOf", unfollowed := true, recurses := true, apart := false, narrowed := true }
def FnExactCallsOfUptoSaid : Prop := fnExactCallsOfUptoRow.holds Try.pinned (OpenSpec.upto fnExactCallsOfSpec)

/-- 'laws.FnExactNewNet', WHERE WHAT IT READS IS OF BULK AT MOST 1048576: true; the input reads as it did. -/
def fnExactNewNetUptoRow : OpenClaim := { program := "ytipfikmbldgliaa", sum := "d200a7809fbd94175dfb11b78c73806d9a052f14cd26ce9eac660d843cf63a15", func := "loop.example/g00218/laws.FnExactNewNet", spec := "fnExactNewNet", apart := false, narrowed := true }
def FnExactNewNetUptoSaid : Prop := fnExactNewNetUptoRow.holds Try.pinned (OpenSpec.upto fnExactNewNetSpec)

/-- 'laws.FnExactGoodNet', WHERE WHAT IT READS IS OF BULK AT MOST 1048576: true; the input reads as it did. -/
def fnExactGoodNetUptoRow : OpenClaim := { program := "ytipfikmbldgliaa", sum := "d200a7809fbd94175dfb11b78c73806d9a052f14cd26ce9eac660d843cf63a15", func := "loop.example/g00218/laws.FnExactGoodNet", spec := "fnExactGoodNet", unfollowed := true, recurses := true, apart := false, narrowed := true }
def FnExactGoodNetUptoSaid : Prop := fnExactGoodNetUptoRow.holds Try.pinned (OpenSpec.upto fnExactGoodNetSpec)

/-- 'laws.FnExactTotalOf', WHERE WHAT IT READS IS OF BULK AT MOST 1048576: true; the input reads as it did. -/
def fnExactTotalOfUptoRow : OpenClaim := { program := "ytipfikmbldgliaa", sum := "d200a7809fbd94175dfb11b78c73806d9a052f14cd26ce9eac660d843cf63a15", func := "loop.example/g00218/laws.FnExactTotalOf", spec := "fnExactTotalOf", unfollowed := true, recurses := true, apart := false, narrowed := true }
def FnExactTotalOfUptoSaid : Prop := fnExactTotalOfUptoRow.holds Try.pinned (OpenSpec.upto fnExactTotalOfSpec)

/-- 'laws.FnExactPictureOf', WHERE WHAT IT READS IS OF BULK AT MOST 1048576: true; the input reads as it did. -/
def fnExactPictureOfUptoRow : OpenClaim := { program := "ytipfikmbldgliaa", sum := "d200a7809fbd94175dfb11b78c73806d9a052f14cd26ce9eac660d843cf63a15", func := "loop.example/g00218/laws.FnExactPictureOf", spec := "fnExactPictureOf", unfollowed := true, recurses := true, apart := false, narrowed := true }
def FnExactPictureOfUptoSaid : Prop := fnExactPictureOfUptoRow.holds Try.pinned (OpenSpec.upto fnExactPictureOfSpec)

end Rows
end Go.Proofs.Ytipfikmbldgliaa
