/- What is drawn: units, bent. No condition. -/
import Derived.Test.YtlphbpjejdhaoaaK4
open Go Go.AI Go.Proofs
set_option maxRecDepth 100000
set_option maxHeartbeats 4000000
set_option linter.unusedSimpArgs false
set_option linter.unusedVariables false
namespace Go.Proofs.Ytlphbpjejdhaoaa
attribute [local irreducible] awpOps opA callA Then Fork SWP

attribute [go_sem] St.grab
@[go_sem ↓] theorem fc_all (u : List F) : ((u.map fc).all fun x => x.length == 3) = true := by
  simp only [List.all_map, List.all_eq_true]; intro x _; rfl
@[go_sem ↓] theorem ic_all (l : List I) : ((l.map ic).all fun x => x.length == 3) = true := by
  simp only [List.all_map, List.all_eq_true]; intro x _; rfl
theorem swp_fzAt {P : Program} {σ : St} {Q : Exit → St → Prop} (k s : Nat) {sz : Nat} {rows rows' : List (List D)} {c : Code} (hk : firstR c = some k) (hs : σ.sl s = .one (.sl true sz rows)) (hr : (rows.map fun r => r.map D.ro) = rows')
    (h : SWP P c Q ((σ.setTop (.s s) 0 0 (.sl true sz rows')).bump (.s s) 0 0)) : SWP P c Q σ := swp_freezeIn s hs hr h
theorem swp_nilAt {P : Program} {σ : St} {Q : Exit → St → Prop} (k s i l sz' : Nat) {sz : Nat} {rows : List (List D)} {row : List D} {c : Code} (hk : firstR c = some k) (hs : σ.sl s = .one (.sl true sz rows)) (hi : rows[i]? = some row) (hl : row[l]? = some .nil)
    (h : SWP P c Q ((σ.setTop (.s s) 0 0 (.sl true sz (rows.set i (row.set l (.sl true sz' []))))).bumpC (.s s) 0 0)) : SWP P c Q σ := swp_nilIn s i l sz' hs hi hl h
theorem dw_grabS {P : Program} {σ τ : St} {L : List Pl} {ops : Array Oper} (s t : Nat) {i l sz sz' : Nat} {rows rows' : List (List D)} {row : List D} {Q : St → Prop} {fuel : Nat} {listed : Array Bool} (hsl : σ.sl s = .one (.bor (.s t) [(0, 0), (i, l)] (σ.sc (.s t) (0, 0)) Option.none)) (hsn : s < σ.n) (hts : t ≠ s)
    (hq : σ.sl t = .one (.sl true sz rows)) (hi : rows[i]? = some row) (hl : row[l]? = some (.sl true sz' rows')) (hqL : Pl.s t ∈ L) (hsL : Pl.s s ∈ L)
    (h : ∀ v, DW P ops L Q fuel listed (σ.grab s (.s t) 0 0 sz i l rows row (.sl true sz' rows') v) τ) : DW P ops L Q fuel listed σ τ :=
  dw_grab s (.s t) hsn (fun e => hts (by cases e; rfl)) hsl (by simp [St.rows, hq, SV.rows, cellIn]) hi hl hqL hsL h
theorem fzO {u : List F} : ((u.map fcO).map fun r => r.map D.ro) = u.map fc := by
  rw [List.map_map]; exact List.map_congr_left fun x _ => rfl
theorem setO {u : List F} {k : Nat} {f : F} : (u.map fcO).set k [.lit (.string f.nm), .lit (.bool f.wk), .sl true 3 (f.bd.map ic)] = (u.set k f).map fcO := by rw [List.map_set]; rfl
def smH (f : F) : Prop := f.nm.size ≤ 16 ∧ f.bd.length ≤ 8 ∧ smB f.bd
theorem smH_of {f : F} (h : smG f) : smH f := ⟨h.1, by have := h.2.1; omega, h.2.2⟩
theorem smG_set {u : List F} {k : Nat} {f : F} (h : ∀ g ∈ u, smG g) (hf : smH f) : ∀ g ∈ u.set k f, smH g := fun g hg => by
  rcases List.mem_or_eq_of_mem_set hg with h1 | h1
  · exact smH_of (h g h1)
  · subst h1; exact hf
def bentQ (b : List Nat) (p : Nat) (sv : SV) (E' : Nat → Option (Bool × List D)) : Prop := ∃ (u : List F) (p' : Nat), (0 < u.length ∧ u.length ≤ 4) ∧ (∀ f ∈ u, smH f) ∧ sv = .one (.sl true 3 (u.map fc)) ∧ p ≤ p' ∧ p' ≤ p + 220 ∧ E' 100000 = RD b p'
end Go.Proofs.Ytlphbpjejdhaoaa
