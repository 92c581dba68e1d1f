/- What folding keeps: names, kinds and numbers; what is folded away is named no more. No condition. -/
import Derived.Test.YtlphbpjejdhaoaaH1
open Go Go.AI Go.Proofs
set_option maxRecDepth 100000
set_option linter.unusedSimpArgs false
set_option linter.unusedVariables false
namespace Go.Proofs.Ytlphbpjejdhaoaa

theorem ren_n2 {a b : ByteArray} {x : I} : (ren a b x).n = x.n := by unfold ren; split <;> rfl
/-- One function is another but for what it names. -/
def SameF (f g : F) : Prop := f.nm = g.nm ∧ f.bd.length = g.bd.length ∧ ∀ j (h1 : j < f.bd.length) (h2 : j < g.bd.length), f.bd[j].op = g.bd[j].op ∧ f.bd[j].n = g.bd[j].n
theorem SameF.refl (f : F) : SameF f f := ⟨rfl, rfl, fun _ _ _ => ⟨rfl, rfl⟩⟩
theorem SameF.trans {f g h : F} (h1 : SameF f g) (h2 : SameF g h) : SameF f h := ⟨h1.1.trans h2.1, h1.2.1.trans h2.2.1, fun j a b =>
  have c : j < g.bd.length := by have := h1.2.1; omega
  ⟨(h1.2.2 j a c).1.trans (h2.2.2 j c b).1, (h1.2.2 j a c).2.trans (h2.2.2 j c b).2⟩⟩
theorem sameF_ren {a b : ByteArray} {f : F} : SameF f (renF a b f) := ⟨rfl, by simp [renF], fun j h1 h2 => by simp [renF, ren_op, ren_n2]⟩
theorem one_mem {u v : List F} (h : OneS u true v) : ∀ g ∈ v, ∃ f ∈ u, SameF f g := by
  obtain ⟨i, j, _, rfl⟩ := h
  simp only [if_true]
  intro g hg
  unfold onceU at hg
  obtain ⟨f, hf, rfl⟩ := outU_mem _ hg
  exact ⟨f, hf, sameF_ren⟩
theorem reach_mem {u r : List F} (h : Reach u r) : ∀ g ∈ r, ∃ f ∈ u, SameF f g := by
  induction h with
  | refl u => exact fun g hg => ⟨g, hg, .refl g⟩
  | step h1 _ ih =>
    intro g hg
    obtain ⟨f, hf, h2⟩ := ih g hg
    obtain ⟨e, he, h3⟩ := one_mem h1 f hf
    exact ⟨e, he, h3.trans h2⟩
theorem reach_keep {u r : List F} (hk : keepOk u = true) (h : Reach u r) : keepOk r = true := by
  induction h with
  | refl u => exact hk
  | step h1 _ ih => exact ih (one_keep hk h1)
/-- A program that keeps the form has one function a name. -/
theorem keep_inj {u : List F} (hk : keepOk u = true) {i j : Nat} (hi : i < u.length) (hj : j < u.length) (h : u[i].nm = u[j].nm) : i = j := by
  rw [keepOk_iff] at hk
  have hn := hk.2.2.1
  exact (List.getElem_inj (xs := u.map F.nm) (h₀ := by simpa using hi) (h₁ := by simpa using hj) hn).1 (by simpa using h)
/-- Where the last two functions of a name are looked for, there is one place. -/
theorem reach_at {u r : List F} (hk : keepOk u = true) (h : Reach u r) {i : Nat} (hi : i < r.length) : ∃ k, ∃ hlt : k < u.length, SameF u[k] r[i] ∧ ∀ j (hj : j < u.length), u[j].nm = r[i].nm ↔ j = k := by
  obtain ⟨f, hf, hs⟩ := reach_mem h r[i] (List.getElem_mem hi)
  obtain ⟨k, hlt, rfl⟩ := List.getElem_of_mem hf
  refine ⟨k, hlt, hs, fun j hj => ⟨fun e => keep_inj hk hj hlt (e.trans hs.1.symm), fun e => ?_⟩⟩
  subst e; exact hs.1

/-- Some folds, one by one. -/
def InvN (u : List F) (x : List F × Nat) : Prop := smallU x.1 ∧ Reach u x.1 ∧ keepOk x.1 = true ∧ x.2 ≤ u.length ∧ (x.1.length + x.2 = u.length ∨ OneS x.1 false x.1)
theorem invN_start {u : List F} (hU : smallU u) (hk : keepOk u = true) : InvN u (u, 0) := ⟨hU, .refl u, hk, Nat.zero_le _, .inl rfl⟩
theorem invN_next {u r v : List F} {i : Nat} (h : InvN u (r, i)) (hi : i < u.length) (hF : FoldS r v) : InvN u (v, i + 1) := by
  obtain ⟨h1, h2, h3, h4, h5⟩ := h
  simp only at h1 h2 h3 h4 h5
  unfold FoldS at hF
  rw [if_pos h3] at hF
  obtain ⟨b, hF⟩ := hF
  cases b with
  | true =>
    have hlt := one_lt hF
    refine ⟨smallU_one h1 hF, h2.snoc hF, one_keep h3 hF, hi, ?_⟩
    rcases h5 with h5 | h5
    · exact .inl (by show v.length + (i + 1) = u.length; omega)
    · have := (one_unique h5 hF).1; cases this
  | false =>
    obtain rfl := one_false hF
    exact ⟨h1, h2, h3, hi, .inr hF⟩
theorem invN_end {u r : List F} (hk : keepOk u = true) (h : InvN u (r, u.length)) : AllS u r := by
  obtain ⟨h1, h2, h3, h4, h5⟩ := h
  simp only at h1 h2 h3 h4 h5
  unfold AllS
  rw [if_pos hk]
  refine ⟨h2, ?_⟩
  rcases h5 with h5 | h5
  · have := keepOk_len h3; omega
  · exact h5
theorem all_keep {u r : List F} (hk : keepOk u = true) (h : AllS u r) : keepOk r = true := by
  unfold AllS at h; rw [if_pos hk] at h; exact reach_keep hk h.1
theorem all_again {u r v : List F} (hk : keepOk u = true) (h : AllS u r) (h' : AllS r v) : v = r := by
  have hr := all_keep hk h
  unfold AllS at h h'
  rw [if_pos hk] at h
  rw [if_pos hr] at h'
  exact reach_unique h'.1 h'.2 (.refl r) h.2

theorem two_some {u : List F} {i j : Int} (h : TwoS u i j true) : ∃ x y : Nat, i = x ∧ j = y ∧ x < y ∧ ∃ (hx : x < u.length) (hy : y < u.length), u[x].bd = u[y].bd := by
  rcases h with ⟨_, x, y, rfl, rfl, hxy, hal, _⟩ | ⟨h, _⟩
  · obtain ⟨hx, hy⟩ := al_lt hal
    exact ⟨x, y, rfl, rfl, hxy, hx, hy, (al_iff hx hy).1 hal⟩
  · cases h
theorem once_refs {u : List F} {x y : Nat} (hk : keepOk u = true) (hx : x < u.length) (hy : y < u.length) (hxy : x < y) : ∀ g ∈ onceU u x y, ∀ z ∈ g.bd, refers z.op = true → z.s ≠ u[y].nm := by
  intro g hg z hz hr
  unfold onceU at hg
  rw [nmU_lt hx, nmU_lt hy] at hg
  obtain ⟨f, hf, rfl⟩ := outU_mem _ hg
  obtain ⟨z0, hz0, rfl⟩ := List.mem_map.1 (show z ∈ f.bd.map (ren u[y].nm u[x].nm) from hz)
  rw [ren_op] at hr
  unfold ren
  split
  · intro e
    have := keep_inj hk hx hy e
    omega
  · next hc => intro e; exact hc ⟨hr, e⟩
theorem once_len {u : List F} {x y : Nat} (hy : y < u.length) : (onceU u x y).length + 1 = u.length := by
  rw [onceU_eq, List.length_map, List.length_eraseIdx_of_lt hy]; omega
end Go.Proofs.Ytlphbpjejdhaoaa
