/- What is drawn: units, bent. No condition. -/
import Derived.Test.YtlphbpjejdhaoaaK4
open Go Go.AI Go.Proofs
set_option maxRecDepth 100000
set_option maxHeartbeats 4000000
set_option linter.unusedSimpArgs false
set_option linter.unusedVariables false
namespace Go.Proofs.Ytlphbpjejdhaoaa
attribute [local irreducible] awpOps opA callA Then Fork SWP

attribute [go_sem] St.grab
@[go_sem ↓] theorem fc_all (u : List F) : ((u.map fc).all fun x => x.length == 3) = true := by
  simp only [List.all_map, List.all_eq_true]; intro x _; rfl
@[go_sem ↓] theorem ic_all (l : List I) : ((l.map ic).all fun x => x.length == 3) = true := by
  simp only [List.all_map, List.all_eq_true]; intro x _; rfl
theorem swp_fzAt {P : Program} {σ : St} {Q : Exit → St → Prop} (k s : Nat) {sz : Nat} {rows rows' : List (List D)} {c : Code} (hk : firstR c = some k) (hs : σ.sl s = .one (.sl true sz rows)) (hr : (rows.map fun r => r.map D.ro) = rows')
    (h : SWP P c Q ((σ.setTop (.s s) 0 0 (.sl true sz rows')).bump (.s s) 0 0)) : SWP P c Q σ := swp_freezeIn s hs hr h
theorem swp_nilAt {P : Program} {σ : St} {Q : Exit → St → Prop} (k s i l sz' : Nat) {sz : Nat} {rows : List (List D)} {row : List D} {c : Code} (hk : firstR c = some k) (hs : σ.sl s = .one (.sl true sz rows)) (hi : rows[i]? = some row) (hl : row[l]? = some .nil)
    (h : SWP P c Q ((σ.setTop (.s s) 0 0 (.sl true sz (rows.set i (row.set l (.sl true sz' []))))).bumpC (.s s) 0 0)) : SWP P c Q σ := swp_nilIn s i l sz' hs hi hl h
theorem fzO {u : List F} : ((u.map fcO).map fun r => r.map D.ro) = u.map fc := by
  rw [List.map_map]; exact List.map_congr_left fun x _ => rfl
def smH (f : F) : Prop := f.nm.size ≤ 16 ∧ f.bd.length ≤ 8 ∧ smB f.bd
theorem smH_of {f : F} (h : smG f) : smH f := ⟨h.1, by have := h.2.1; omega, h.2.2⟩
end Go.Proofs.Ytlphbpjejdhaoaa
