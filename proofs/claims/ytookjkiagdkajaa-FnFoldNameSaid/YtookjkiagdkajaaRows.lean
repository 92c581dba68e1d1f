/-
  No cell of these rows narrows 'for every input' (looked for: loops, veiled, ifaces, maps, wideKeys, modest, calm, conditions, laid).
  DERIVED. THE GIVEN ROWS OF THIS SEAT. 6 by the template 'for every input the law returns true; each argument reads behind the call as it read before'; 0 by the template 'total and deterministic' (their statements: YtookjkiagdkajaaTotals.lean).
  GIVEN WITH THE SEED: the statements are not yours to turn. If you find one false, say at which input.
  Laid BY PROGRAM, IN A SANDBOX (cutbox-rows.mjs): the forced cells as the released guide's own fill.sh prints them over the translation 771e521afec7bd97… (all of the seat's roots in one cut). By AI agents, Wed Nov 11 2026. No macro, syntax, notation, axiom, sorry.
-/
import Derived.Test.YtookjkiagdkajaaChecked
import GoSem.Claim
import GoSem.ClaimJoined
import GoSem.ClaimMapViews
import Derived.JoinedTies
import Derived.KernelRfl
namespace Go.Proofs.Ytookjkiagdkajaa
/- THE CELL 'sum', in the pinned program and in every row, IS THE sha256 OF THE DUMP (.gsa) THAT YtookjkiagdkajaaProg.lean LOADS. Nothing in Lean hashes anything: it is a label: what it is worth is what the hold of that sum in a sandbox is worth. -/
noncomputable def Try.pinned : Pinned := { name := "ytookjkiagdkajaa", sum := "771e521afec7bd97cbbc51005de087f9ea783e1a661c31b8505eac0a88c99544", checked := Try.checked }
namespace Rows
def none {H : Type} : Left H := { results := [], args := [] }

/-- 'laws.FnFoldName': WHATEVER THE INPUT: true; the input reads as it did. -/
def fnFoldNameSpec : ChangeSpec := { name := "fnFoldName", fn := fun _ => fun
  | [d] => { results := [.lit (.bool true)], args := [d] }
  | _ => none }
def fnFoldNameRow : OpenClaim := { program := "ytookjkiagdkajaa", sum := "771e521afec7bd97cbbc51005de087f9ea783e1a661c31b8505eac0a88c99544", func := "loop.example/stepstone/laws.FnFoldName", spec := "fnFoldName", unfollowed := true, recurses := true, apart := false }
def FnFoldNameSaid : Prop := fnFoldNameRow.holds Try.pinned (OpenSpec.ofChange fnFoldNameSpec)

/-- ITS FALSE NEIGHBOUR: 'it returns false'. Refute it at one input. -/
def fnFoldNameWrong : ChangeSpec := { name := "fnFoldName", fn := fun _ => fun
  | [d] => { results := [.lit (.bool false)], args := [d] }
  | _ => none }
def FnFoldNameWrongFalsely : Prop := fnFoldNameRow.holds Try.pinned (OpenSpec.ofChange fnFoldNameWrong)

/-- 'laws.FnExactFoldName': WHATEVER THE INPUT: true; the input reads as it did. -/
def fnExactFoldNameSpec : ChangeSpec := { name := "fnExactFoldName", fn := fun _ => fun
  | [d1, d2, d3] => { results := [.lit (.bool true)], args := [d1, d2, d3] }
  | _ => none }
def fnExactFoldNameRow : OpenClaim := { program := "ytookjkiagdkajaa", sum := "771e521afec7bd97cbbc51005de087f9ea783e1a661c31b8505eac0a88c99544", func := "loop.example/stepstone/laws.FnExactFoldName", spec := "fnExactFoldName", unfollowed := true, recurses := true, apart := false }
def FnExactFoldNameSaid : Prop := fnExactFoldNameRow.holds Try.pinned (OpenSpec.ofChange fnExactFoldNameSpec)

/-- ITS FALSE NEIGHBOUR: 'it returns false'. Refute it at one input. -/
def fnExactFoldNameWrong : ChangeSpec := { name := "fnExactFoldName", fn := fun _ => fun
  | [d1, d2, d3] => { results := [.lit (.bool false)], args := [d1, d2, d3] }
  | _ => none }
def FnExactFoldNameWrongFalsely : Prop := fnExactFoldNameRow.holds Try.pinned (OpenSpec.ofChange fnExactFoldNameWrong)

/-- 'laws.FnExactFoldTwo': WHATEVER THE INPUT: true; the input reads as it did. -/
def fnExactFoldTwoSpec : ChangeSpec := { name := "fnExactFoldTwo", fn := fun _ => fun
  | [d] => { results := [.lit (.bool true)], args := [d] }
  | _ => none }
def fnExactFoldTwoRow : OpenClaim := { program := "ytookjkiagdkajaa", sum := "771e521afec7bd97cbbc51005de087f9ea783e1a661c31b8505eac0a88c99544", func := "loop.example/stepstone/laws.FnExactFoldTwo", spec := "fnExactFoldTwo", unfollowed := true, recurses := true, apart := false }
def FnExactFoldTwoSaid : Prop := fnExactFoldTwoRow.holds Try.pinned (OpenSpec.ofChange fnExactFoldTwoSpec)

/-- ITS FALSE NEIGHBOUR: 'it returns false'. Refute it at one input. -/
def fnExactFoldTwoWrong : ChangeSpec := { name := "fnExactFoldTwo", fn := fun _ => fun
  | [d] => { results := [.lit (.bool false)], args := [d] }
  | _ => none }
def FnExactFoldTwoWrongFalsely : Prop := fnExactFoldTwoRow.holds Try.pinned (OpenSpec.ofChange fnExactFoldTwoWrong)

/-- 'laws.FnExactMapAt': WHATEVER THE INPUT: true; the input reads as it did. -/
def fnExactMapAtSpec : ChangeSpec := { name := "fnExactMapAt", fn := fun _ => fun
  | [d1, d2, d3] => { results := [.lit (.bool true)], args := [d1, d2, d3] }
  | _ => none }
def fnExactMapAtRow : OpenClaim := { program := "ytookjkiagdkajaa", sum := "771e521afec7bd97cbbc51005de087f9ea783e1a661c31b8505eac0a88c99544", func := "loop.example/stepstone/laws.FnExactMapAt", spec := "fnExactMapAt", unfollowed := true, recurses := true, apart := false }
def FnExactMapAtSaid : Prop := fnExactMapAtRow.holds Try.pinned (OpenSpec.ofChange fnExactMapAtSpec)

/-- ITS FALSE NEIGHBOUR: 'it returns false'. Refute it at one input. -/
def fnExactMapAtWrong : ChangeSpec := { name := "fnExactMapAt", fn := fun _ => fun
  | [d1, d2, d3] => { results := [.lit (.bool false)], args := [d1, d2, d3] }
  | _ => none }
def FnExactMapAtWrongFalsely : Prop := fnExactMapAtRow.holds Try.pinned (OpenSpec.ofChange fnExactMapAtWrong)

/-- 'laws.FnExactFoldOne': WHATEVER THE INPUT: true; the input reads as it did. -/
def fnExactFoldOneSpec : ChangeSpec := { name := "fnExactFoldOne", fn := fun _ => fun
  | [d] => { results := [.lit (.bool true)], args := [d] }
  | _ => none }
def fnExactFoldOneRow : OpenClaim := { program := "ytookjkiagdkajaa", sum := "771e521afec7bd97cbbc51005de087f9ea783e1a661c31b8505eac0a88c99544", func := "loop.example/stepstone/laws.FnExactFoldOne", spec := "fnExactFoldOne", unfollowed := true, recurses := true, apart := false }
def FnExactFoldOneSaid : Prop := fnExactFoldOneRow.holds Try.pinned (OpenSpec.ofChange fnExactFoldOneSpec)

/-- ITS FALSE NEIGHBOUR: 'it returns false'. Refute it at one input. -/
def fnExactFoldOneWrong : ChangeSpec := { name := "fnExactFoldOne", fn := fun _ => fun
  | [d] => { results := [.lit (.bool false)], args := [d] }
  | _ => none }
def FnExactFoldOneWrongFalsely : Prop := fnExactFoldOneRow.holds Try.pinned (OpenSpec.ofChange fnExactFoldOneWrong)

/-- 'laws.FnExactMapSpot': WHATEVER THE INPUT: true; the input reads as it did. -/
def fnExactMapSpotSpec : ChangeSpec := { name := "fnExactMapSpot", fn := fun _ => fun
  | [d1, d2, d3] => { results := [.lit (.bool true)], args := [d1, d2, d3] }
  | _ => none }
def fnExactMapSpotRow : OpenClaim := { program := "ytookjkiagdkajaa", sum := "771e521afec7bd97cbbc51005de087f9ea783e1a661c31b8505eac0a88c99544", func := "loop.example/stepstone/laws.FnExactMapSpot", spec := "fnExactMapSpot", unfollowed := true, recurses := true, apart := false }
def FnExactMapSpotSaid : Prop := fnExactMapSpotRow.holds Try.pinned (OpenSpec.ofChange fnExactMapSpotSpec)

/-- ITS FALSE NEIGHBOUR: 'it returns false'. Refute it at one input. -/
def fnExactMapSpotWrong : ChangeSpec := { name := "fnExactMapSpot", fn := fun _ => fun
  | [d1, d2, d3] => { results := [.lit (.bool false)], args := [d1, d2, d3] }
  | _ => none }
def FnExactMapSpotWrongFalsely : Prop := fnExactMapSpotRow.holds Try.pinned (OpenSpec.ofChange fnExactMapSpotWrong)

/- THE SECOND FORM. 'bulk': how many values and letters a reading holds, each counted each time it is reached (what is shared counts as often as it is met; a slice's spare places count too). A statement '..UptoSaid' is the law's where the arguments, and the package variables that the reading takes, are together of bulk at most 1048576: NARROWER than '..Said'. Prove '..Said' where nothing that the law and all that it calls make is longer than what came in: it says more and counts as full. Else prove '..UptoSaid'. A law counts once. -/
mutual
def uptoBulk {H : Type} : DataW H → Nat
  | .lit (.string bytes) => bytes.length + 1
  | .lit _ => 1
  | .nil => 1
  | .ptr d => uptoBulk d + 1
  | .slice elems spare => uptoBulkAll elems + uptoBulkAll spare + 1
  | .agg parts => uptoBulkAll parts + 1
  | .iface _ d => uptoBulk d + 1
  | .map entries => uptoBulkEntries entries + 1
  | .held _ => 1
def uptoBulkAll {H : Type} : List (DataW H) → Nat
  | [] => 0
  | d :: r => uptoBulk d + uptoBulkAll r
def uptoBulkEntries {H : Type} : List (Lit × DataW H) → Nat
  | [] => 0
  | x :: r => uptoBulkEntry x + uptoBulkEntries r
def uptoBulkEntry {H : Type} : Lit × DataW H → Nat
  | (.string bytes, d) => bytes.length + uptoBulk d + 1
  | (_, d) => uptoBulk d + 1
 end
def uptoSmall : (H : Type) → List (DataW H) → Bool := fun _ ds => decide (uptoBulkAll ds ≤ 1048576)
def OpenSpec.upto (s : _root_.Go.ChangeSpec) : _root_.Go.OpenSpec := { _root_.Go.OpenSpec.ofChange s with cond := some uptoSmall }

/-- 'laws.FnFoldName', WHERE WHAT IT READS IS OF BULK AT MOST 1048576: true; the input reads as it did. -/
def fnFoldNameUptoRow : OpenClaim := { program := "ytookjkiagdkajaa", sum := "771e521afec7bd97cbbc51005de087f9ea783e1a661c31b8505eac0a88c99544", func := "loop.example/stepstone/laws.FnFoldName", spec := "fnFoldName", unfollowed := true, recurses := true, apart := false, narrowed := true }
def FnFoldNameUptoSaid : Prop := fnFoldNameUptoRow.holds Try.pinned (OpenSpec.upto fnFoldNameSpec)

/-- 'laws.FnExactFoldName', WHERE WHAT IT READS IS OF BULK AT MOST 1048576: true; the input reads as it did. -/
def fnExactFoldNameUptoRow : OpenClaim := { program := "ytookjkiagdkajaa", sum := "771e521afec7bd97cbbc51005de087f9ea783e1a661c31b8505eac0a88c99544", func := "loop.example/stepstone/laws.FnExactFoldName", spec := "fnExactFoldName", unfollowed := true, recurses := true, apart := false, narrowed := true }
def FnExactFoldNameUptoSaid : Prop := fnExactFoldNameUptoRow.holds Try.pinned (OpenSpec.upto fnExactFoldNameSpec)

/-- 'laws.FnExactFoldTwo', WHERE WHAT IT READS IS OF BULK AT MOST 1048576: true; the input reads as it did. -/
def fnExactFoldTwoUptoRow : OpenClaim := { program := "ytookjkiagdkajaa", sum := "771e521afec7bd97cbbc51005de087f9ea783e1a661c31b8505eac0a88c99544", func := "loop.example/stepstone/laws.FnExactFoldTwo", spec := "fnExactFoldTwo", unfollowed := true, recurses := true, apart := false, narrowed := true }
def FnExactFoldTwoUptoSaid : Prop := fnExactFoldTwoUptoRow.holds Try.pinned (OpenSpec.upto fnExactFoldTwoSpec)

/-- 'laws.FnExactMapAt', WHERE WHAT IT READS IS OF BULK AT MOST 1048576: true; the input reads as it did. -/
def fnExactMapAtUptoRow : OpenClaim := { program := "ytookjkiagdkajaa", sum := "771e521afec7bd97cbbc51005de087f9ea783e1a661c31b8505eac0a88c99544", func := "loop.example/stepstone/laws.FnExactMapAt", spec := "fnExactMapAt", unfollowed := true, recurses := true, apart := false, narrowed := true }
def FnExactMapAtUptoSaid : Prop := fnExactMapAtUptoRow.holds Try.pinned (OpenSpec.upto fnExactMapAtSpec)

/-- 'laws.FnExactFoldOne', WHERE WHAT IT READS IS OF BULK AT MOST 1048576: true; the input reads as it did. -/
def fnExactFoldOneUptoRow : OpenClaim := { program := "ytookjkiagdkajaa", sum := "771e521afec7bd97cbbc51005de087f9ea783e1a661c31b8505eac0a88c99544", func := "loop.example/stepstone/laws.FnExactFoldOne", spec := "fnExactFoldOne", unfollowed := true, recurses := true, apart := false, narrowed := true }
def FnExactFoldOneUptoSaid : Prop := fnExactFoldOneUptoRow.holds Try.pinned (OpenSpec.upto fnExactFoldOneSpec)

/-- 'laws.FnExactMapSpot', WHERE WHAT IT READS IS OF BULK AT MOST 1048576: true; the input reads as it did. -/
def fnExactMapSpotUptoRow : OpenClaim := { program := "ytookjkiagdkajaa", sum := "771e521afec7bd97cbbc51005de087f9ea783e1a661c31b8505eac0a88c99544", func := "loop.example/stepstone/laws.FnExactMapSpot", spec := "fnExactMapSpot", unfollowed := true, recurses := true, apart := false, narrowed := true }
def FnExactMapSpotUptoSaid : Prop := fnExactMapSpotUptoRow.holds Try.pinned (OpenSpec.upto fnExactMapSpotSpec)

end Rows
end Go.Proofs.Ytookjkiagdkajaa
