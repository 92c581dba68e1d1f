/- Functions' rows are marked, and the marks are looked for. No condition. -/
import Derived.Test.YtlphbpjejdhaoaaG2
open Go Go.AI Go.Proofs
set_option maxRecDepth 100000
set_option maxHeartbeats 4000000
set_option linter.unusedSimpArgs false
set_option linter.unusedVariables false
namespace Go.Proofs.Ytlphbpjejdhaoaa
attribute [local irreducible] awpOps opA callA Then Fork SWP

def mixH (f : Nat → F) (i : Nat) (l : List F) : List F := (List.range i).map f ++ l.drop i
theorem mixH_zero {f : Nat → F} {l : List F} : mixH f 0 l = l := by simp [mixH]
theorem mixH_all {f : Nat → F} {i : Nat} {l : List F} (h : l.length ≤ i) : mixH f i l = (List.range i).map f := by simp [mixH, List.drop_eq_nil_of_le h]
@[go_sem] theorem mixH_len {f : Nat → F} {i : Nat} {l : List F} (h : i ≤ l.length) : (mixH f i l).length = l.length := by simp [mixH]; omega
@[go_sem high] theorem mixH_get {f : Nat → F} {i : Nat} {l : List F} (h : i < l.length) : ((mixH f i l).map fcO)[i]? = some (fcO l[i]) := by
  rw [List.getElem?_map, mixH, List.getElem?_append_right (by simp)]
  simp [h]
theorem mixH_set {f : Nat → F} {i : Nat} {l : List F} (h : i < l.length) : ((mixH f i l).map fcO).set i (fcO (f i)) = (mixH f (i + 1) l).map fcO := by
  rw [mixH, mixH, ← List.map_set]
  congr 1
  rw [List.set_append_right _ _ (by simp), List.range_succ, List.map_append, List.append_assoc]
  congr 1
  have : i - ((List.range i).map f).length = 0 := by simp
  rw [this, List.drop_eq_getElem_cons h]; rfl

def off (k : Nat) (u : List F) : Nat → Nat
  | 0 => k
  | i + 1 => off k u i + 2 + 3 * (u.getD i zF).bd.length
theorem off_le {k : Nat} {u : List F} (hU : smallU u) : ∀ i, off k u i ≤ k + i * 3145730
  | 0 => by simp [off]
  | i + 1 => by
    have h1 := off_le (k := k) hU i
    have h2 : (u.getD i zF).bd.length ≤ 1048576 := by
      rcases Nat.lt_or_ge i u.length with h | h
      · have := (smallU_at hU h).2.1
        simpa [h] using this
      · rw [List.getD_eq_getElem?_getD, List.getElem?_eq_none h]; exact Nat.zero_le _
    simp only [off]
    omega
def mkF (k : Nat) (f : F) : F := ⟨mtext k, decide (((k + 1 : Nat) : Int).tmod 3 = 0), marked (k + 2) f.bd⟩
def markAt (k : Nat) (u : List F) (j : Nat) : F := mkF (off k u j) (u.getD j zF)
def markedU (k : Nat) (u : List F) : List F := (List.range u.length).map (markAt k u)

theorem markedU_len {k : Nat} {u : List F} : (markedU k u).length = u.length := by simp [markedU]
theorem markedU_at {k : Nat} {u : List F} {i : Nat} (h : i < u.length) (h2 : i < (markedU k u).length) : (markedU k u)[i] = mkF (off k u i) u[i] := by simp [markedU, markAt, h]
end Go.Proofs.Ytlphbpjejdhaoaa
