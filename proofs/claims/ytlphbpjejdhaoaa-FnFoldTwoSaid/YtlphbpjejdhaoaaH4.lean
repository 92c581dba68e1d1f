/- What folding keeps: names, kinds and numbers; what is folded away is named no more. No condition. -/
import Derived.Test.YtlphbpjejdhaoaaH1
open Go Go.AI Go.Proofs
set_option maxRecDepth 100000
set_option linter.unusedSimpArgs false
set_option linter.unusedVariables false
namespace Go.Proofs.Ytlphbpjejdhaoaa

/-- One function is another but for what it names. -/
def SameF (f g : F) : Prop := f.nm = g.nm ∧ f.bd.length = g.bd.length ∧ ∀ j (h1 : j < f.bd.length) (h2 : j < g.bd.length), f.bd[j].op = g.bd[j].op ∧ f.bd[j].n = g.bd[j].n
theorem SameF.refl (f : F) : SameF f f := ⟨rfl, rfl, fun _ _ _ => ⟨rfl, rfl⟩⟩
theorem SameF.trans {f g h : F} (h1 : SameF f g) (h2 : SameF g h) : SameF f h := ⟨h1.1.trans h2.1, h1.2.1.trans h2.2.1, fun j a b =>
  have c : j < g.bd.length := by have := h1.2.1; omega
  ⟨(h1.2.2 j a c).1.trans (h2.2.2 j c b).1, (h1.2.2 j a c).2.trans (h2.2.2 j c b).2⟩⟩
/-- A program that keeps the form has one function a name. -/
theorem keep_inj {u : List F} (hk : keepOk u = true) {i j : Nat} (hi : i < u.length) (hj : j < u.length) (h : u[i].nm = u[j].nm) : i = j := by
  rw [keepOk_iff] at hk
  have hn := hk.2.2.1
  exact (List.getElem_inj (xs := u.map F.nm) (h₀ := by simpa using hi) (h₁ := by simpa using hj) hn).1 (by simpa using h)
theorem two_some {u : List F} {i j : Int} (h : TwoS u i j true) : ∃ x y : Nat, i = x ∧ j = y ∧ x < y ∧ ∃ (hx : x < u.length) (hy : y < u.length), u[x].bd = u[y].bd := by
  rcases h with ⟨_, x, y, rfl, rfl, hxy, hal, _⟩ | ⟨h, _⟩
  · obtain ⟨hx, hy⟩ := al_lt hal
    exact ⟨x, y, rfl, rfl, hxy, hx, hy, (al_iff hx hy).1 hal⟩
  · cases h
theorem once_refs {u : List F} {x y : Nat} (hk : keepOk u = true) (hx : x < u.length) (hy : y < u.length) (hxy : x < y) : ∀ g ∈ onceU u x y, ∀ z ∈ g.bd, refers z.op = true → z.s ≠ u[y].nm := by
  intro g hg z hz hr
  unfold onceU at hg
  rw [nmU_lt hx, nmU_lt hy] at hg
  obtain ⟨f, hf, rfl⟩ := outU_mem _ hg
  obtain ⟨z0, hz0, rfl⟩ := List.mem_map.1 (show z ∈ f.bd.map (ren u[y].nm u[x].nm) from hz)
  rw [ren_op] at hr
  unfold ren
  split
  · intro e
    have := keep_inj hk hx hy e
    omega
  · next hc => intro e; exact hc ⟨hr, e⟩
theorem once_len {u : List F} {x y : Nat} (hy : y < u.length) : (onceU u x y).length + 1 = u.length := by
  rw [onceU_eq, List.length_map, List.length_eraseIdx_of_lt hy]; omega
end Go.Proofs.Ytlphbpjejdhaoaa
