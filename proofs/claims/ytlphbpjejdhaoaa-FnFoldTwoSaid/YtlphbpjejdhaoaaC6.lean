/- What the law's comparisons answer. No condition. -/
import Derived.Test.YtlphbpjejdhaoaaC5
open Go Go.AI Go.Proofs
set_option maxRecDepth 100000
set_option maxHeartbeats 4000000
set_option linter.unusedSimpArgs false
set_option linter.unusedVariables false
namespace Go.Proofs.Ytlphbpjejdhaoaa
attribute [local irreducible] awpOps opA callA Then Fork SWP

theorem mixed : Try.prog.follows .mixedOrders = true := by kernel_rfl

@[go_sem] theorem marked_len {k : Nat} {l : List I} : (marked k l).length = l.length := by simp [marked]
@[go_sem high] theorem marked_get {k i : Nat} {l : List I} (h : i < l.length) : ((marked k l).map ic)[i]? = some (ic (mk k i)) := by simp [marked, h]
@[go_sem] theorem mk_op {k i : Nat} : (mk k i).op = ((k + 3 * i : Nat) : Int) := rfl
@[go_sem] theorem mk_n {k i : Nat} : (mk k i).n = ((k + 3 * i + 1 : Nat) : Int) := rfl
@[go_sem] theorem mk_s {k i : Nat} : (mk k i).s = mtext (k + 3 * i + 2) := rfl

end Go.Proofs.Ytlphbpjejdhaoaa
