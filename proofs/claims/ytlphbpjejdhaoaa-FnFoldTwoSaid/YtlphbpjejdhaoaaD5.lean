/- The law FnExactFoldTwo, walked. No condition. -/
import Derived.Test.YtlphbpjejdhaoaaD4
open Go Go.AI Go.Proofs
set_option maxRecDepth 100000
set_option maxHeartbeats 4000000
set_option linter.unusedSimpArgs false
set_option linter.unusedVariables false
namespace Go.Proofs.Ytlphbpjejdhaoaa
attribute [local irreducible] awpOps opA callA Then Fork SWP

def sizedF (f : F) : Prop := f.nm.size ≤ 140737488355328 ∧ f.bd.length ≤ 140737488355328 ∧ ∀ x ∈ f.bd, x.s.size ≤ 140737488355328

/-! Rows that are made one by one. -/
def mixR (f : Nat → List D) (i : Nat) (l : List (List D)) : List (List D) := (List.range i).map f ++ l.drop i
theorem mixR_zero {f : Nat → List D} {l : List (List D)} : mixR f 0 l = l := by simp [mixR]
theorem mixR_all {f : Nat → List D} {i : Nat} {l : List (List D)} (h : l.length ≤ i) : mixR f i l = (List.range i).map f := by simp [mixR, List.drop_eq_nil_of_le h]
@[go_sem] theorem mixR_len {f : Nat → List D} {i : Nat} {l : List (List D)} (h : i ≤ l.length) : (mixR f i l).length = l.length := by simp [mixR]; omega
@[go_sem] theorem mixR_get {f : Nat → List D} {i n : Nat} {z : List D} (h : i < n) : (mixR f i (List.replicate n z))[i]? = some z := by
  rw [mixR, List.getElem?_append_right (by simp)]
  have : i - ((List.range i).map f).length = 0 := by simp
  rw [this, List.getElem?_drop, Nat.add_zero]
  simp [h]
theorem mixR_set {f : Nat → List D} {i : Nat} {l : List (List D)} (h : i < l.length) : (mixR f i l).set i (f i) = mixR f (i + 1) l := by
  rw [mixR, mixR, List.set_append_right _ _ (by simp), List.range_succ, List.map_append, List.append_assoc]
  congr 1
  have : i - ((List.range i).map f).length = 0 := by simp
  rw [this, List.drop_eq_getElem_cons h]; rfl
def zF : F := ⟨⟨#[]⟩, false, []⟩
theorem getF_range (u : List F) : (List.range u.length).map (fun j => fc (u.getD j zF)) = u.map fc := by
  apply List.ext_getElem (by simp)
  intro i h1 h2
  simp at h2
  simp [h2]
def fcAt (u : List F) (j : Nat) : List D := fc (u.getD j zF)
theorem fcAt_lt {u : List F} {j : Nat} (h : j < u.length) : fcAt u j = fc u[j] := by simp [fcAt, h]

theorem two_same {u : List F} {i j i' j' : Int} {b b' : Bool} (h : if keepOk u = true then TwoS u i j b else i = 0 ∧ j = 0 ∧ b = false) (h' : if keepOk u = true then TwoS u i' j' b' else i' = 0 ∧ j' = 0 ∧ b' = false) : i = i' ∧ j = j' ∧ b = b' := by
  split at h
  · next hk => rw [if_pos hk] at h'; exact two_unique h h'
  · next hk =>
    rw [if_neg hk] at h'
    obtain ⟨rfl, rfl, rfl⟩ := h
    obtain ⟨rfl, rfl, rfl⟩ := h'
    exact ⟨rfl, rfl, rfl⟩

end Go.Proofs.Ytlphbpjejdhaoaa
