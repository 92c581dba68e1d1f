/-
  No cell of these rows narrows 'for every input' (looked for: loops, veiled, ifaces, maps, wideKeys, modest, calm, conditions, laid).
  DERIVED. THE GIVEN ROWS OF THIS SEAT. 7 by the template 'for every input the law returns true; each argument reads behind the call as it read before'; 0 by the template 'total and deterministic' (their statements: YtlphbpjejdhaoaaTotals.lean).
  GIVEN WITH THE SEED: the statements are not yours to turn. If you find one false, say at which input.
  Laid BY PROGRAM, IN A SANDBOX (cutbox-rows.mjs): the forced cells as the released guide's own fill.sh prints them over the translation e2cd55c5d0c5c704… (all of the seat's roots in one cut). By AI agents, Wed Nov 11 2026. No macro, syntax, notation, axiom, sorry.
-/
import Derived.Test.YtlphbpjejdhaoaaChecked
import GoSem.Claim
import GoSem.ClaimJoined
import GoSem.ClaimMapViews
import Derived.JoinedTies
import Derived.KernelRfl
namespace Go.Proofs.Ytlphbpjejdhaoaa
/- THE CELL 'sum', in the pinned program and in every row, IS THE sha256 OF THE DUMP (.gsa) THAT YtlphbpjejdhaoaaProg.lean LOADS. Nothing in Lean hashes anything: it is a label: what it is worth is what the hold of that sum in a sandbox is worth. -/
noncomputable def Try.pinned : Pinned := { name := "ytlphbpjejdhaoaa", sum := "e2cd55c5d0c5c70487ef953b4ece5ea6e2cc9c3f4d87c26f76a8d91c93ae4d36", checked := Try.checked }
namespace Rows
def none {H : Type} : Left H := { results := [], args := [] }

/-- 'laws.FnFoldNew': WHATEVER THE INPUT: true; the input reads as it did. -/
def fnFoldNewSpec : ChangeSpec := { name := "fnFoldNew", fn := fun _ => fun
  | [d] => { results := [.lit (.bool true)], args := [d] }
  | _ => none }
def fnFoldNewRow : OpenClaim := { program := "ytlphbpjejdhaoaa", sum := "e2cd55c5d0c5c70487ef953b4ece5ea6e2cc9c3f4d87c26f76a8d91c93ae4d36", func := "loop.example/stepstone/laws.FnFoldNew", spec := "fnFoldNew", unfollowed := true, recurses := true, apart := false }
def FnFoldNewSaid : Prop := fnFoldNewRow.holds Try.pinned (OpenSpec.ofChange fnFoldNewSpec)

/-- ITS FALSE NEIGHBOUR: 'it returns false'. Refute it at one input. -/
def fnFoldNewWrong : ChangeSpec := { name := "fnFoldNew", fn := fun _ => fun
  | [d] => { results := [.lit (.bool false)], args := [d] }
  | _ => none }
def FnFoldNewWrongFalsely : Prop := fnFoldNewRow.holds Try.pinned (OpenSpec.ofChange fnFoldNewWrong)

/-- 'laws.FnFoldAgain': WHATEVER THE INPUT: true; the input reads as it did. -/
def fnFoldAgainSpec : ChangeSpec := { name := "fnFoldAgain", fn := fun _ => fun
  | [d] => { results := [.lit (.bool true)], args := [d] }
  | _ => none }
def fnFoldAgainRow : OpenClaim := { program := "ytlphbpjejdhaoaa", sum := "e2cd55c5d0c5c70487ef953b4ece5ea6e2cc9c3f4d87c26f76a8d91c93ae4d36", func := "loop.example/stepstone/laws.FnFoldAgain", spec := "fnFoldAgain", unfollowed := true, recurses := true, apart := false }
def FnFoldAgainSaid : Prop := fnFoldAgainRow.holds Try.pinned (OpenSpec.ofChange fnFoldAgainSpec)

/-- ITS FALSE NEIGHBOUR: 'it returns false'. Refute it at one input. -/
def fnFoldAgainWrong : ChangeSpec := { name := "fnFoldAgain", fn := fun _ => fun
  | [d] => { results := [.lit (.bool false)], args := [d] }
  | _ => none }
def FnFoldAgainWrongFalsely : Prop := fnFoldAgainRow.holds Try.pinned (OpenSpec.ofChange fnFoldAgainWrong)

/-- 'laws.FnFoldBody': WHATEVER THE INPUT: true; the input reads as it did. -/
def fnFoldBodySpec : ChangeSpec := { name := "fnFoldBody", fn := fun _ => fun
  | [d] => { results := [.lit (.bool true)], args := [d] }
  | _ => none }
def fnFoldBodyRow : OpenClaim := { program := "ytlphbpjejdhaoaa", sum := "e2cd55c5d0c5c70487ef953b4ece5ea6e2cc9c3f4d87c26f76a8d91c93ae4d36", func := "loop.example/stepstone/laws.FnFoldBody", spec := "fnFoldBody", unfollowed := true, recurses := true, apart := false }
def FnFoldBodySaid : Prop := fnFoldBodyRow.holds Try.pinned (OpenSpec.ofChange fnFoldBodySpec)

/-- ITS FALSE NEIGHBOUR: 'it returns false'. Refute it at one input. -/
def fnFoldBodyWrong : ChangeSpec := { name := "fnFoldBody", fn := fun _ => fun
  | [d] => { results := [.lit (.bool false)], args := [d] }
  | _ => none }
def FnFoldBodyWrongFalsely : Prop := fnFoldBodyRow.holds Try.pinned (OpenSpec.ofChange fnFoldBodyWrong)

/-- 'laws.FnFoldTwo': WHATEVER THE INPUT: true; the input reads as it did. -/
def fnFoldTwoSpec : ChangeSpec := { name := "fnFoldTwo", fn := fun _ => fun
  | [d] => { results := [.lit (.bool true)], args := [d] }
  | _ => none }
def fnFoldTwoRow : OpenClaim := { program := "ytlphbpjejdhaoaa", sum := "e2cd55c5d0c5c70487ef953b4ece5ea6e2cc9c3f4d87c26f76a8d91c93ae4d36", func := "loop.example/stepstone/laws.FnFoldTwo", spec := "fnFoldTwo", unfollowed := true, recurses := true, apart := false }
def FnFoldTwoSaid : Prop := fnFoldTwoRow.holds Try.pinned (OpenSpec.ofChange fnFoldTwoSpec)

/-- ITS FALSE NEIGHBOUR: 'it returns false'. Refute it at one input. -/
def fnFoldTwoWrong : ChangeSpec := { name := "fnFoldTwo", fn := fun _ => fun
  | [d] => { results := [.lit (.bool false)], args := [d] }
  | _ => none }
def FnFoldTwoWrongFalsely : Prop := fnFoldTwoRow.holds Try.pinned (OpenSpec.ofChange fnFoldTwoWrong)

/-- 'laws.FnMapSpot': WHATEVER THE INPUT: true; the input reads as it did. -/
def fnMapSpotSpec : ChangeSpec := { name := "fnMapSpot", fn := fun _ => fun
  | [d] => { results := [.lit (.bool true)], args := [d] }
  | _ => none }
def fnMapSpotRow : OpenClaim := { program := "ytlphbpjejdhaoaa", sum := "e2cd55c5d0c5c70487ef953b4ece5ea6e2cc9c3f4d87c26f76a8d91c93ae4d36", func := "loop.example/stepstone/laws.FnMapSpot", spec := "fnMapSpot", unfollowed := true, recurses := true, apart := false }
def FnMapSpotSaid : Prop := fnMapSpotRow.holds Try.pinned (OpenSpec.ofChange fnMapSpotSpec)

/-- ITS FALSE NEIGHBOUR: 'it returns false'. Refute it at one input. -/
def fnMapSpotWrong : ChangeSpec := { name := "fnMapSpot", fn := fun _ => fun
  | [d] => { results := [.lit (.bool false)], args := [d] }
  | _ => none }
def FnMapSpotWrongFalsely : Prop := fnMapSpotRow.holds Try.pinned (OpenSpec.ofChange fnMapSpotWrong)

/-- 'laws.FnMapAt': WHATEVER THE INPUT: true; the input reads as it did. -/
def fnMapAtSpec : ChangeSpec := { name := "fnMapAt", fn := fun _ => fun
  | [d] => { results := [.lit (.bool true)], args := [d] }
  | _ => none }
def fnMapAtRow : OpenClaim := { program := "ytlphbpjejdhaoaa", sum := "e2cd55c5d0c5c70487ef953b4ece5ea6e2cc9c3f4d87c26f76a8d91c93ae4d36", func := "loop.example/stepstone/laws.FnMapAt", spec := "fnMapAt", unfollowed := true, recurses := true, apart := false }
def FnMapAtSaid : Prop := fnMapAtRow.holds Try.pinned (OpenSpec.ofChange fnMapAtSpec)

/-- ITS FALSE NEIGHBOUR: 'it returns false'. Refute it at one input. -/
def fnMapAtWrong : ChangeSpec := { name := "fnMapAt", fn := fun _ => fun
  | [d] => { results := [.lit (.bool false)], args := [d] }
  | _ => none }
def FnMapAtWrongFalsely : Prop := fnMapAtRow.holds Try.pinned (OpenSpec.ofChange fnMapAtWrong)

/-- 'laws.FnMap': WHATEVER THE INPUT: true; the input reads as it did. -/
def fnMapSpec : ChangeSpec := { name := "fnMap", fn := fun _ => fun
  | [d] => { results := [.lit (.bool true)], args := [d] }
  | _ => none }
def fnMapRow : OpenClaim := { program := "ytlphbpjejdhaoaa", sum := "e2cd55c5d0c5c70487ef953b4ece5ea6e2cc9c3f4d87c26f76a8d91c93ae4d36", func := "loop.example/stepstone/laws.FnMap", spec := "fnMap", unfollowed := true, recurses := true, apart := false }
def FnMapSaid : Prop := fnMapRow.holds Try.pinned (OpenSpec.ofChange fnMapSpec)

/-- ITS FALSE NEIGHBOUR: 'it returns false'. Refute it at one input. -/
def fnMapWrong : ChangeSpec := { name := "fnMap", fn := fun _ => fun
  | [d] => { results := [.lit (.bool false)], args := [d] }
  | _ => none }
def FnMapWrongFalsely : Prop := fnMapRow.holds Try.pinned (OpenSpec.ofChange fnMapWrong)

/- THE SECOND FORM. 'bulk': how many values and letters a reading holds, each counted each time it is reached (what is shared counts as often as it is met; a slice's spare places count too). A statement '..UptoSaid' is the law's where the arguments, and the package variables that the reading takes, are together of bulk at most 1048576: NARROWER than '..Said'. Prove '..Said' where nothing that the law and all that it calls make is longer than what came in: it says more and counts as full. Else prove '..UptoSaid'. A law counts once. -/
mutual
def uptoBulk {H : Type} : DataW H → Nat
  | .lit (.string bytes) => bytes.length + 1
  | .lit _ => 1
  | .nil => 1
  | .ptr d => uptoBulk d + 1
  | .slice elems spare => uptoBulkAll elems + uptoBulkAll spare + 1
  | .agg parts => uptoBulkAll parts + 1
  | .iface _ d => uptoBulk d + 1
  | .map entries => uptoBulkEntries entries + 1
  | .held _ => 1
def uptoBulkAll {H : Type} : List (DataW H) → Nat
  | [] => 0
  | d :: r => uptoBulk d + uptoBulkAll r
def uptoBulkEntries {H : Type} : List (Lit × DataW H) → Nat
  | [] => 0
  | x :: r => uptoBulkEntry x + uptoBulkEntries r
def uptoBulkEntry {H : Type} : Lit × DataW H → Nat
  | (.string bytes, d) => bytes.length + uptoBulk d + 1
  | (_, d) => uptoBulk d + 1
 end
def uptoSmall : (H : Type) → List (DataW H) → Bool := fun _ ds => decide (uptoBulkAll ds ≤ 1048576)
def OpenSpec.upto (s : _root_.Go.ChangeSpec) : _root_.Go.OpenSpec := { _root_.Go.OpenSpec.ofChange s with cond := some uptoSmall }

/-- 'laws.FnFoldNew', WHERE WHAT IT READS IS OF BULK AT MOST 1048576: true; the input reads as it did. -/
def fnFoldNewUptoRow : OpenClaim := { program := "ytlphbpjejdhaoaa", sum := "e2cd55c5d0c5c70487ef953b4ece5ea6e2cc9c3f4d87c26f76a8d91c93ae4d36", func := "loop.example/stepstone/laws.FnFoldNew", spec := "fnFoldNew", unfollowed := true, recurses := true, apart := false, narrowed := true }
def FnFoldNewUptoSaid : Prop := fnFoldNewUptoRow.holds Try.pinned (OpenSpec.upto fnFoldNewSpec)

/-- 'laws.FnFoldAgain', WHERE WHAT IT READS IS OF BULK AT MOST 1048576: true; the input reads as it did. -/
def fnFoldAgainUptoRow : OpenClaim := { program := "ytlphbpjejdhaoaa", sum := "e2cd55c5d0c5c70487ef953b4ece5ea6e2cc9c3f4d87c26f76a8d91c93ae4d36", func := "loop.example/stepstone/laws.FnFoldAgain", spec := "fnFoldAgain", unfollowed := true, recurses := true, apart := false, narrowed := true }
def FnFoldAgainUptoSaid : Prop := fnFoldAgainUptoRow.holds Try.pinned (OpenSpec.upto fnFoldAgainSpec)

/-- 'laws.FnFoldBody', WHERE WHAT IT READS IS OF BULK AT MOST 1048576: true; the input reads as it did. -/
def fnFoldBodyUptoRow : OpenClaim := { program := "ytlphbpjejdhaoaa", sum := "e2cd55c5d0c5c70487ef953b4ece5ea6e2cc9c3f4d87c26f76a8d91c93ae4d36", func := "loop.example/stepstone/laws.FnFoldBody", spec := "fnFoldBody", unfollowed := true, recurses := true, apart := false, narrowed := true }
def FnFoldBodyUptoSaid : Prop := fnFoldBodyUptoRow.holds Try.pinned (OpenSpec.upto fnFoldBodySpec)

/-- 'laws.FnFoldTwo', WHERE WHAT IT READS IS OF BULK AT MOST 1048576: true; the input reads as it did. -/
def fnFoldTwoUptoRow : OpenClaim := { program := "ytlphbpjejdhaoaa", sum := "e2cd55c5d0c5c70487ef953b4ece5ea6e2cc9c3f4d87c26f76a8d91c93ae4d36", func := "loop.example/stepstone/laws.FnFoldTwo", spec := "fnFoldTwo", unfollowed := true, recurses := true, apart := false, narrowed := true }
def FnFoldTwoUptoSaid : Prop := fnFoldTwoUptoRow.holds Try.pinned (OpenSpec.upto fnFoldTwoSpec)

/-- 'laws.FnMapSpot', WHERE WHAT IT READS IS OF BULK AT MOST 1048576: true; the input reads as it did. -/
def fnMapSpotUptoRow : OpenClaim := { program := "ytlphbpjejdhaoaa", sum := "e2cd55c5d0c5c70487ef953b4ece5ea6e2cc9c3f4d87c26f76a8d91c93ae4d36", func := "loop.example/stepstone/laws.FnMapSpot", spec := "fnMapSpot", unfollowed := true, recurses := true, apart := false, narrowed := true }
def FnMapSpotUptoSaid : Prop := fnMapSpotUptoRow.holds Try.pinned (OpenSpec.upto fnMapSpotSpec)

/-- 'laws.FnMapAt', WHERE WHAT IT READS IS OF BULK AT MOST 1048576: true; the input reads as it did. -/
def fnMapAtUptoRow : OpenClaim := { program := "ytlphbpjejdhaoaa", sum := "e2cd55c5d0c5c70487ef953b4ece5ea6e2cc9c3f4d87c26f76a8d91c93ae4d36", func := "loop.example/stepstone/laws.FnMapAt", spec := "fnMapAt", unfollowed := true, recurses := true, apart := false, narrowed := true }
def FnMapAtUptoSaid : Prop := fnMapAtUptoRow.holds Try.pinned (OpenSpec.upto fnMapAtSpec)

/-- 'laws.FnMap', WHERE WHAT IT READS IS OF BULK AT MOST 1048576: true; the input reads as it did. -/
def fnMapUptoRow : OpenClaim := { program := "ytlphbpjejdhaoaa", sum := "e2cd55c5d0c5c70487ef953b4ece5ea6e2cc9c3f4d87c26f76a8d91c93ae4d36", func := "loop.example/stepstone/laws.FnMap", spec := "fnMap", unfollowed := true, recurses := true, apart := false, narrowed := true }
def FnMapUptoSaid : Prop := fnMapUptoRow.holds Try.pinned (OpenSpec.upto fnMapSpec)

end Rows
end Go.Proofs.Ytlphbpjejdhaoaa
