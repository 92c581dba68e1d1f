/- What the law's own functions answer: sizes, copies, marks. No condition. -/
import Derived.Test.YtlphbpjejdhaoaaC4
open Go Go.AI Go.Proofs
set_option maxRecDepth 100000
set_option maxHeartbeats 4000000
set_option linter.unusedSimpArgs false
set_option linter.unusedVariables false
namespace Go.Proofs.Ytlphbpjejdhaoaa
attribute [local irreducible] awpOps opA callA Then Fork SWP

/-! Rows that are made one by one. -/
def mixG (f : Nat → I) (i : Nat) (l : List I) : List I := (List.range i).map f ++ l.drop i
theorem mixG_zero {f : Nat → I} {l : List I} : mixG f 0 l = l := by simp [mixG]
theorem mixG_all {f : Nat → I} {i : Nat} {l : List I} (h : l.length ≤ i) : mixG f i l = (List.range i).map f := by simp [mixG, List.drop_eq_nil_of_le h]
theorem mixG_lt {f : Nat → I} {i : Nat} {l : List I} (h : i < l.length) : mixG f i l = (List.range i).map f ++ l[i] :: l.drop (i + 1) := by
  rw [mixG, List.drop_eq_getElem_cons h]
theorem mixG_succ {f : Nat → I} {i : Nat} {l : List I} : mixG f (i + 1) l = (List.range i).map f ++ f i :: l.drop (i + 1) := by
  rw [mixG, List.range_succ, List.map_append, List.append_assoc]; rfl
@[go_sem] theorem mixG_len {f : Nat → I} {i : Nat} {l : List I} (h : i ≤ l.length) : (mixG f i l).length = l.length := by simp [mixG]; omega
@[go_sem high] theorem mixG_get {f : Nat → I} {i : Nat} {l : List I} (h : i < l.length) : ((mixG f i l).map ic)[i]? = some (ic l[i]) := by
  have : i - (List.map ic ((List.range i).map f)).length = 0 := by simp
  rw [mixG_lt h, List.map_append, List.getElem?_append_right (by simp), this]; rfl
theorem mixG_set {f : Nat → I} {i : Nat} {l : List I} (h : i < l.length) : ((mixG f i l).map ic).set i (ic (f i)) = (mixG f (i + 1) l).map ic := by
  rw [mixG_lt h, mixG_succ, List.map_append, List.map_append, List.set_append_right _ _ (by simp)]
  congr 1
  have : i - (List.map ic ((List.range i).map f)).length = 0 := by simp
  rw [this]; rfl
theorem cast32 : ((32 : Nat) : Int) = 32 := rfl
attribute [go_sem] cast32 List.length_replicate List.length_set List.set_set List.getElem?_set_self

def zI : I := ⟨0, 0, ⟨#[]⟩⟩
theorem getD_range (l : List I) : (List.range l.length).map (fun j => l.getD j zI) = l := by
  apply List.ext_getElem (by simp)
  intro i h1 h2
  simp [h2]

def mstep (n : Nat) (acc : ByteArray) : ByteArray := strOfNums [IntKind.u8.wrap (48 + ((n % 10 : Nat) : Int))] ++ acc
def mdig (n : Nat) (acc : ByteArray) : ByteArray := if h : n = 0 then acc else mdig (n / 10) (mstep n acc)
  termination_by n
  decreasing_by omega
def mtext (n : Nat) : ByteArray := if n = 0 then ⟨#[109, 48]⟩ else ⟨#[109]⟩ ++ mdig n ⟨#[]⟩

instance : DecidableEq I := fun a b => if h : a.op = b.op ∧ a.n = b.n ∧ a.s = b.s then .isTrue (by cases a; cases b; simp_all) else .isFalse (by rintro rfl; simp at h)

def mk (k : Nat) (j : Nat) : I := ⟨((k + 3 * j : Nat) : Int), ((k + 3 * j + 1 : Nat) : Int), mtext (k + 3 * j + 2)⟩
def marked (k : Nat) (l : List I) : List I := (List.range l.length).map (mk k)

attribute [go_sem] vbase extOut
end Go.Proofs.Ytlphbpjejdhaoaa
