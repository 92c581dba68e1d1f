/- An abstract interpreter of the model's code, shown sound: walks that keep what slices own; slices inside of slices on loan. No condition. -/
import Derived.Test.YtookjkiagdkajaaAi4
set_option linter.unusedSimpArgs false
set_option linter.unusedVariables false

/-
  The abstract interpreter, part Zn: walks that keep what is owned inside of slices; a call that is lent a slice inside of a slice.
-/
namespace Go.AI
open Go.RowKit

def St.deep (σ : St) : St where
  n := σ.n
  sl := σ.sl
  vr := σ.vr
  sa k := if k = 0 then σ.tick + 1 else σ.sa k
  sb := σ.sb
  sc := σ.sc
  tick := σ.tick + 2

section
variable {P : Program} {G : Gh} {σ : St} {a : Act} {w : World} {i k : Nat} {p : Pl} {ij : Nat × Nat}
theorem deep_n : σ.deep.n = σ.n := rfl
theorem deep_sl : σ.deep.sl i = σ.sl i := rfl
theorem deep_vr : σ.deep.vr i = σ.vr i := rfl
theorem deep_sa : σ.deep.sa k = if k = 0 then σ.tick + 1 else σ.sa k := rfl
theorem deep_sb : σ.deep.sb p ij = σ.sb p ij := rfl
theorem deep_sc : σ.deep.sc p ij = σ.sc p ij := rfl
theorem deep_tick : σ.deep.tick = σ.tick + 2 := rfl

theorem deep_cell {p : Pl} {π : Path} : σ.deep.cell p π = σ.cell p π := St.cell_congr (by cases p <;> rfl) π

theorem deep_stp {p : Pl} {π : Path} {n : Nat} (hn : n < σ.tick) (h : σ.deep.stp p π = n) : σ.stp p π = n := by
  rcases π with _ | ⟨ij, _ | ⟨kl, π⟩⟩
  · cases p with
    | s i => exact h
    | v i =>
      simp only [St.stp, St.deep] at h ⊢
      split at h
      · omega
      · exact h
  · exact h
  · exact h

theorem deep_locV {u : Value} {x : D} (h : LocV G w σ u x) (hr : x.refLt σ.tick) : LocV G w σ.deep u x := by
  cases x with
  | bor p π n rg => exact fun hs sz rows hc => h (deep_stp hr hs) sz rows (by rw [← deep_cell]; exact hc)
  | addr p π i j n => exact fun hs ad hA => h (deep_stp hr hs) ad (by
      cases π with
      | nil => exact hA
      | cons kl π =>
        obtain ⟨sz, rows, b, o, m, c, h1, h2⟩ := hA
        exact ⟨sz, rows, b, o, m, c, by rw [← deep_cell]; exact h1, h2⟩)
  | sl u sz rows => cases u with
    | true => exact h.elim
    | false => exact h
  | _ => exact h

theorem R.deepOn (h : R G σ a w) : R G σ.deep a w := by
  refine ⟨h.size, h.defers, h.slots, h.vars, fun p π x hx => ?_, fun p ij kl ρ x hx => h.deep p ij kl ρ x (by rw [← deep_cell]; exact hx), h.immOwn, h.immLt, h.ownLt, fun k => ?_, fun p ij => ?_, fun p ij => ?_, fun p π q ρ n rg hx => ?_, fun p π q ρ i j n hx => ?_⟩
  · rw [deep_cell] at hx
    have hl := h.loc p π x hx
    by_cases ho : x.isOwn = true
    · cases x with
      | sl u sz rows => cases u with
        | false => simp [D.isOwn] at ho
        | true => exact hl
      | _ => simp [D.isOwn] at ho
    · exact Loc.ofV (deep_locV (hl.toV (by simpa using ho)) (h.refLt hx))
  · simp only [St.deep]
    split
    · omega
    · have := h.stA k; omega
  · have := h.stB p ij; simp only [St.deep]; omega
  · have := h.stC p ij; simp only [St.deep]; omega
  · rw [deep_cell] at hx; have := h.stBor p π q ρ n rg hx; simp only [St.deep]; omega
  · rw [deep_cell] at hx; have := h.stAddr p π q ρ i j n hx; simp only [St.deep]; omega

/-- From here on, what is put into a slice goes there with all that it owns. -/
theorem swp_deep {c : Code} {Q : Exit → St → Prop} (h : SWP P c Q σ.deep) : SWP P c Q σ := fun G a w hR => h G a w hR.deepOn |> fun h => wp_mono h fun e a' w' hl => by
  obtain ⟨σ', G', h1, h2, h3, h4, h5⟩ := hl
  exact ⟨σ', G', h1, h2, h3, h4, (Fx.of rfl (fun _ _ => rfl) (fun i _ ds' hd => ⟨ds', hd⟩) (fun _ _ _ _ => rfl) : Fx σ σ.deep G G).trans h5⟩
end
attribute [go_sem] deep_n deep_sl deep_vr deep_sa deep_sb deep_sc deep_tick

/-! ### A slice inside of a slice is taken out for a while -/
section
variable {P : Program} {G : Gh} {σ : St} {a : Act} {w : World}

/-- The subtree is hidden. -/
theorem R.hideSub (h : R G σ a w) {p : Pl} {k j sz i l : Nat} {rows : List (List D)} {row : List D} {x : D} (hp : cellIn (σ.rows p) (k, j) = some (.sl true sz rows)) (hrow : rows[i]? = some row) (hx : row[l]? = some x) (hxo : x.isOwn = true) :
    ∃ G' om f, R G' ((σ.setTop p k j (.sl true sz (rows.set i (row.set l (.lit (f [])))))).bumpC p k j) a w ∧ Tree G.imm w om f x ∧ f [] = G.val p [(k, j), (i, l)] ∧ G'.imm = G.imm ∧ G'.blk = G.blk ∧ G'.val = G.val ∧
      (∀ b π, om b = some π → G'.own b = Option.none ∧ ∃ ρ, G.own b = some (p, ρ)) ∧ (∀ b q, G'.own b = some q → G.own b = some q) ∧ (∀ b q π, q ≠ p → G.own b = some (q, π) → G'.own b = some (q, π)) := by
  have hcx : cellIn rows (i, l) = some x := cellIn_some.2 ⟨row, hrow, hx⟩
  have hcellO : ∀ ρ, σ.cell p ((k, j) :: ρ) = D.atU (.sl true sz rows) ρ := fun ρ => by simp [St.cell, hp]
  have hi := (List.getElem?_eq_some_iff.1 hrow).1
  have hl := (List.getElem?_eq_some_iff.1 hx).1
  have htree := (h.tree hp).sub hcx
  let sub : Pl × Path → Bool := fun q => match under p k j q with
    | some ρ => (strip (i, l) ρ).isSome
    | Option.none => false
  have hsub : ∀ q π, sub (q, π) = true ↔ q = p ∧ ∃ ρ, π = (k, j) :: (i, l) :: ρ := by
    intro q π
    simp only [sub]
    cases hu : under p k j (q, π) with
    | none =>
      simp only [Bool.false_eq_true, false_iff]
      rintro ⟨rfl, ρ, rfl⟩
      exact under_none.1 hu rfl ⟨_, rfl⟩
    | some τ =>
      obtain ⟨rfl, rfl⟩ := under_some.1 hu
      simp only [true_and, List.cons.injEq]
      cases hs : strip (i, l) τ with
      | none =>
        simp only [Option.isSome_none, Bool.false_eq_true, false_iff]
        rintro ⟨ρ, e⟩
        rw [strip_some.2 e] at hs; cases hs
      | some ρ => simp [strip_some.1 hs]
  let G' : Gh := { G with own := fun b => match G.own b with
    | some q => if sub q = true then Option.none else some q
    | Option.none => Option.none }
  have hown : ∀ b q, G'.own b = some q ↔ G.own b = some q ∧ sub q = false := by
    intro b q
    simp only [G']
    cases hb : G.own b with
    | none => simp
    | some q' =>
      by_cases e : sub q' = true
      · simp only [e, if_true]
        constructor
        · intro h; cases h
        · rintro ⟨h1, h2⟩; cases h1; rw [e] at h2; cases h2
      · simp only [e]
        constructor
        · intro h; simp at h; subst h; exact ⟨rfl, by simpa using e⟩
        · rintro ⟨h1, h2⟩; exact h1
  refine ⟨G', _, _, ?_, htree, rfl, rfl, rfl, rfl, fun b π hb => ?_, fun b q hb => ((hown b q).1 hb).1, fun b q π hq hb => (hown b (q, π)).2 ⟨hb, ?_⟩⟩
  · refine h.topC hp rfl rfl rfl rfl (h.same fun _ _ _ => rfl) (fun _ _ _ => rfl) (fun b q π hq hb => (hown b (q, π)).2 ⟨hb, ?_⟩) (fun b q π _ _ _ => SameAt.refl w b) (fun _ hb => hb) (fun b _ => SameAt.refl w b) ?_ h.immLt ?_ ?_ ?_
    · cases hs : sub (q, π) with
      | false => rfl
      | true => obtain ⟨e, ρ, e2⟩ := (hsub q π).1 hs; exact absurd ⟨_, e2⟩ (hq e)
    · intro b hb
      have := h.immOwn b hb
      simp [G', this]
    · intro b q hb; exact h.ownLt b q ((hown b q).1 hb).1
    · rintro i' ds rfl hv
      obtain ⟨_, h2, h3⟩ := h.vars i' ds hv
      exact ⟨h2, h3⟩
    · intro ρ x' hρ
      cases ρ with
      | nil =>
        simp [D.atU] at hρ; subst hρ
        refine ⟨?_, fun e => absurd rfl e⟩
        show LocOwn G' w p [(k, j)] sz _
        rcases (show LocOwn G w p [(k, j)] sz rows from h.loc p [(k, j)] (.sl true sz rows) (by rw [hcellO]; rfl)) with ⟨e1, e2⟩ | ⟨b, o, c, e1, e2, e3, e4, e5⟩
        · rw [e1] at hi; simp at hi
        · refine .inr ⟨b, o, c, by rw [List.length_set]; exact e1, by rw [List.length_set]; exact e2, (hown b _).2 ⟨e3, ?_⟩, e4, fun i' row' hr => ?_⟩
          · cases hs : sub (p, [(k, j)]) with
            | false => rfl
            | true => obtain ⟨_, ρ, e⟩ := (hsub _ _).1 hs; simp at e
          · by_cases e : i = i'
            · subst e
              rw [List.getElem?_set_self hi] at hr
              simp only [Option.some.injEq] at hr; subst hr
              rw [List.length_set]
              exact e5 i row hrow
            · rw [List.getElem?_set_ne e] at hr
              exact e5 i' row' hr
      | cons il ρ =>
        obtain ⟨i', l'⟩ := il
        simp only [D.atU] at hρ
        by_cases e : i' = i ∧ l' = l
        · obtain ⟨rfl, rfl⟩ := e
          have hc : cellIn (rows.set i' (row.set l' (.lit (G.val p [(k, j), (i', l')])))) (i', l') = some (.lit (G.val p [(k, j), (i', l')])) :=
            cellIn_some.2 ⟨_, List.getElem?_set_self hi, List.getElem?_set_self hl⟩
          rw [hc] at hρ
          simp only at hρ
          cases ρ with
          | nil => simp [D.atU] at hρ; subst hρ; exact ⟨RO.lit.2 rfl, fun _ => rfl⟩
          | cons kl ρ => simp [D.atU] at hρ
        · have hc : cellIn (rows.set i (row.set l (.lit (G.val p [(k, j), (i, l)])))) (i', l') = cellIn rows (i', l') := by
            simp only [cellIn]
            by_cases e1 : i = i'
            · subst e1
              have e2 : l ≠ l' := fun e2 => e ⟨rfl, e2.symm⟩
              rw [List.getElem?_set_self hi, hrow]
              simp only [Option.bind_some]
              rw [List.getElem?_set_ne e2]
            · rw [List.getElem?_set_ne e1]
          rw [hc] at hρ
          have hcx' : σ.cell p ((k, j) :: (i', l') :: ρ) = some x' := by
            rw [hcellO]; simpa only [D.atU] using hρ
          have hll := h.loc p _ x' hcx'
          have hsol := h.deep p (k, j) (i', l') ρ x' hcx'
          by_cases ho : x'.isOwn = true
          · cases x' with
            | sl u sz' rows' =>
              cases u with
              | false => simp [D.isOwn] at ho
              | true =>
                refine ⟨LocOwn.carry hll rfl (fun _ => rfl) (fun b hb => (hown b _).2 ⟨hb, ?_⟩) (fun b _ => SameAt.refl w b), fun _ => rfl⟩
                cases hs : sub (p, (k, j) :: (i', l') :: ρ) with
                | false => rfl
                | true =>
                  obtain ⟨_, τ, e3⟩ := (hsub _ _).1 hs
                  simp only [List.cons.injEq, true_and, Prod.mk.injEq] at e3
                  exact absurd e3.1 e
            | _ => simp [D.isOwn] at ho
          · have ho' : x'.isOwn = false := by simpa using ho
            exact ⟨Loc.ofV (LocV.ofSolid ((hll.toV ho').solid hsol) hsol ho'), fun _ => hsol⟩
  · obtain ⟨ρ, c1, c2⟩ := Option.bind_eq_some_iff.1 hb
    obtain ⟨⟨q, τ⟩, c3, c4⟩ := Option.bind_eq_some_iff.1 c1
    obtain ⟨rfl, rfl⟩ := under_some.1 c4
    rw [strip_some] at c2
    subst c2
    refine ⟨?_, _, c3⟩
    cases ho : G'.own b with
    | none => rfl
    | some q' =>
      obtain ⟨e1, e2⟩ := (hown b q').1 ho
      rw [c3] at e1; cases e1
      rw [(hsub _ _).2 ⟨rfl, _, rfl⟩] at e2; cases e2
  · cases hs : sub (q, π) with
    | false => rfl
    | true => exact absurd ((hsub q π).1 hs).1 hq

def St.withG (σ : St) (g : Nat) (x : D) : St where
  n := σ.n
  sl := σ.sl
  vr i := if i = g then some (false, [x]) else σ.vr i
  sa := σ.sa
  sb := σ.sb
  sc := σ.sc
  tick := σ.tick
def St.noG (σ : St) (g : Nat) : St where
  n := σ.n
  sl := σ.sl
  vr i := if i = g then Option.none else σ.vr i
  sa := σ.sa
  sb := σ.sb
  sc := σ.sc
  tick := σ.tick

theorem withG_stp {g : Nat} {x : D} {p : Pl} {π : Path} : (σ.withG g x).stp p π = σ.stp p π := by
  rcases π with _ | ⟨ij, _ | ⟨kl, π⟩⟩ <;> cases p <;> rfl
theorem noG_stp {g : Nat} {p : Pl} {π : Path} : (σ.noG g).stp p π = σ.stp p π := by
  rcases π with _ | ⟨ij, _ | ⟨kl, π⟩⟩ <;> cases p <;> rfl
theorem withG_cell {g : Nat} {x : D} {p : Pl} {π : Path} (hp : p ≠ .v g) : (σ.withG g x).cell p π = σ.cell p π := by
  refine St.cell_congr ?_ π
  cases p with
  | s i => rfl
  | v i =>
    have : i ≠ g := fun e => hp (by rw [e])
    simp [St.rows, St.withG, this]
theorem withG_dead {g : Nat} {π : Path} {y : D} (h : (σ.withG g .dead).cell (.v g) π = some y) : π = [(0, 0)] ∧ y = .dead := by
  have hr : (σ.withG g .dead).rows (.v g) = [[.dead]] := by simp [St.rows, St.withG]
  cases π with
  | nil => simp [St.cell] at h
  | cons ij π =>
    simp only [St.cell, hr] at h
    obtain ⟨i, j⟩ := ij
    cases hc : cellIn [[D.dead]] (i, j) with
    | none => rw [hc] at h; cases h
    | some z =>
      rw [hc] at h
      obtain ⟨row, h1, h2⟩ := cellIn_some.1 hc
      cases i with
      | succ i => simp at h1
      | zero =>
        simp at h1; subst h1
        cases j with
        | succ j => simp at h2
        | zero =>
          simp at h2; subst h2
          cases π with
          | nil => simp [D.atU] at h; exact ⟨rfl, h.symm⟩
          | cons kl π => simp [D.atU] at h
theorem noG_cell {g : Nat} {p : Pl} {π : Path} {y : D} (h : (σ.noG g).cell p π = some y) : p ≠ .v g ∧ σ.cell p π = some y := by
  by_cases hp : p = .v g
  · subst hp
    cases π with
    | nil => simp [St.cell] at h
    | cons ij π => simp [St.cell, St.rows, St.noG, cellIn] at h
  · refine ⟨hp, ?_⟩
    rw [← h]
    refine (St.cell_congr ?_ π).symm
    cases p with
    | s i => rfl
    | v i =>
      have : i ≠ g := fun e => hp (by rw [e])
      simp [St.rows, St.noG, this]

theorem R.noG (h : R G σ a w) {g : Nat} {ds : List D} (hg : σ.vr g = some (false, ds)) : R G (σ.noG g) a w := by
  have carry : ∀ {u : Value} {x : D}, LocV G w σ u x → LocV G w (σ.noG g) u x := fun {u x} hx => by
    refine hx.carry (fun _ hb => hb) (fun b _ => SameAt.refl w b) (fun q ρ n rg _ h1 sz rows h2 => ⟨by rw [noG_stp] at h1; exact h1, ⟨rows, (noG_cell h2).2⟩, rfl⟩) (fun q ρ i j n _ h1 ad h2 => ⟨by rw [noG_stp] at h1; exact h1, ?_⟩)
    refine h2.congr (fun _ i ds hq hi => ?_) (fun _ sz rows h3 => ⟨⟨rows, (noG_cell h3).2⟩, rfl⟩)
    simp only [St.noG] at hi
    split at hi
    · cases hi
    · exact ⟨⟨ds, hi⟩, rfl⟩
  refine ⟨h.size, h.defers, h.slots, fun i es hi => ?_, fun p π x hx => ?_, fun p ij kl ρ x hx => h.deep p ij kl ρ x (noG_cell hx).2, h.immOwn, h.immLt, h.ownLt, h.stA, h.stB, h.stC,
    fun p π q ρ n rg hx => h.stBor p π q ρ n rg (noG_cell hx).2, fun p π q ρ i j n hx => h.stAddr p π q ρ i j n (noG_cell hx).2⟩
  · simp only [St.noG] at hi
    split at hi
    · cases hi
    · exact h.vars i es hi
  · obtain ⟨hp, hx⟩ := noG_cell hx
    have hl := h.loc p π x hx
    by_cases hown : x.isOwn = true
    · cases x with
      | sl u sz rows =>
        cases u with
        | false => simp [D.isOwn] at hown
        | true => exact hl
      | _ => simp [D.isOwn] at hown
    · exact Loc.ofV (carry (hl.toV (by simpa using hown)))

theorem R.withDead (h : R G σ a w) {g : Nat} (hg : σ.vr g = Option.none) : R G (σ.withG g .dead) a w := by
  have back : ∀ {p : Pl} {π : Path} {y : D}, (σ.withG g .dead).cell p π = some y → (y = .dead ∧ p = .v g ∧ π = [(0, 0)]) ∨ (p ≠ .v g ∧ σ.cell p π = some y) := fun {p π y} hy => by
    by_cases hp : p = .v g
    · subst hp
      obtain ⟨h1, h2⟩ := withG_dead hy
      exact .inl ⟨h2, rfl, h1⟩
    · exact .inr ⟨hp, by rw [← withG_cell (x := .dead) hp]; exact hy⟩
  have carry : ∀ {u : Value} {x : D}, LocV G w σ u x → LocV G w (σ.withG g .dead) u x := fun {u x} hx => by
    refine hx.carry (fun _ hb => hb) (fun b _ => SameAt.refl w b) (fun q ρ n rg _ h1 sz rows h2 => ⟨by rw [withG_stp] at h1; exact h1, ⟨rows, ?_⟩, rfl⟩) (fun q ρ i j n _ h1 ad h2 => ⟨by rw [withG_stp] at h1; exact h1, ?_⟩)
    · rcases back h2 with ⟨e, _⟩ | ⟨_, e⟩
      · cases e
      · exact e
    · refine h2.congr (fun _ i ds hq hi => ?_) (fun _ sz rows h3 => ⟨⟨rows, ?_⟩, rfl⟩)
      · simp only [St.withG] at hi
        split at hi
        · cases hi
        · exact ⟨⟨ds, hi⟩, rfl⟩
      · rcases back h3 with ⟨e, _⟩ | ⟨_, e⟩
        · cases e
        · exact e
  refine ⟨h.size, h.defers, h.slots, fun i es hi => ?_, fun p π x hx => ?_, fun p ij kl ρ x hx => ?_, h.immOwn, h.immLt, h.ownLt, h.stA, h.stB, h.stC, fun p π q ρ n rg hx => ?_, fun p π q ρ i j n hx => ?_⟩
  · simp only [St.withG] at hi
    split at hi
    · cases hi
    · exact h.vars i es hi
  · rcases back hx with ⟨e, rfl, rfl⟩ | ⟨hp, hx⟩
    · subst e; exact trivial
    · have hl := h.loc p π x hx
      by_cases hown : x.isOwn = true
      · cases x with
        | sl u sz rows =>
          cases u with
          | false => simp [D.isOwn] at hown
          | true => exact hl
        | _ => simp [D.isOwn] at hown
      · exact Loc.ofV (carry (hl.toV (by simpa using hown)))
  · rcases back hx with ⟨_, _, e⟩ | ⟨hp, hx⟩
    · simp at e
    · exact h.deep p ij kl ρ x hx
  · rcases back hx with ⟨e, _⟩ | ⟨hp, hx⟩
    · cases e
    · exact h.stBor p π q ρ n rg hx
  · rcases back hx with ⟨e, _⟩ | ⟨hp, hx⟩
    · cases e
    · exact h.stAddr p π q ρ i j n hx

def St.addG (σ : St) (g : Nat) (x : D) : St := (σ.withG g x).bump (.v g) 0 0

theorem withG_set {g : Nat} {x y : D} : (σ.withG g x).setTop (.v g) 0 0 y = σ.withG g y := by
  simp only [St.setTop, St.withG]
  congr 1
  funext i
  by_cases e : i = g <;> simp [e]

/-- A tree that nobody owns gets a place of its own. -/
theorem R.newG (h : R G σ a w) {g : Nat} (hg : σ.vr g = Option.none) {om : Nat → Option Path} {f : Path → Value} {x : D} (ht : Tree G.imm w om f x) (hxo : x.isOwn = true)
    (hfree : ∀ b π, om b = some π → G.own b = Option.none ∧ ¬ G.imm b ∧ b < w.heap.size) :
    ∃ G', R G' (σ.addG g x) a w ∧ G'.val (.v g) [(0, 0)] = f [] ∧ G'.imm = G.imm ∧ G'.blk = G.blk ∧ (∀ b q π, q ≠ .v g → G.own b = some (q, π) → G'.own b = some (q, π)) ∧ (∀ b, G.own b = Option.none → G'.own b = Option.none ∨ ∃ π, om b = some π) ∧
      (∀ q π, q ≠ .v g → G'.val q π = G.val q π) := by
  let G' : Gh := { G with
    val := fun q π => match under (.v g) 0 0 (q, π) with
      | some ρ => f ρ
      | Option.none => G.val q π
    own := fun b => match G.own b with
      | some q => if (under (.v g) 0 0 q).isSome = true then Option.none else some q
      | Option.none => (om b).map fun π => (.v g, (0, 0) :: π) }
  have hvO : ∀ q π, (q = .v g → ¬ ∃ ρ, π = (0, 0) :: ρ) → G'.val q π = G.val q π := fun q π hq => by simp only [G', under_none.2 hq]
  have hvU : ∀ ρ, G'.val (.v g) ((0, 0) :: ρ) = f ρ := fun ρ => by
    have : under (.v g) 0 0 (.v g, (0, 0) :: ρ) = some ρ := under_some.2 ⟨rfl, rfl⟩
    simp only [G', this]
  have hownO : ∀ b q π, (q = .v g → ¬ ∃ ρ, π = (0, 0) :: ρ) → G.own b = some (q, π) → G'.own b = some (q, π) := fun b q π hq hb => by
    simp [G', hb, under_none.2 hq]
  have hownU : ∀ b π, om b = some π → G'.own b = some (.v g, (0, 0) :: π) := fun b π hb => by
    simp only [G', (hfree b π hb).1, hb, Option.map_some]
  have hown3 : ∀ b q, G'.own b = some q → G.own b = some q ∨ ∃ π, om b = some π := fun b q hb => by
    simp only [G'] at hb
    cases ho : G.own b with
    | some q' =>
      rw [ho] at hb
      simp only at hb
      split at hb
      · cases hb
      · exact .inl hb
    | none =>
      rw [ho] at hb
      simp only [Option.map_eq_some_iff] at hb
      obtain ⟨π, h1, _⟩ := hb
      exact .inr ⟨π, h1⟩
  have h0 := h.withDead hg
  have hcell : (cellIn ((σ.withG g .dead).rows (.v g)) (0, 0)).isSome = true := by simp [St.rows, St.withG, cellIn]
  have hsl : ∀ i k₂ j₂, G'.val (.s i) [(k₂, j₂)] = G.val (.s i) [(k₂, j₂)] := fun i k₂ j₂ => hvO _ _ (fun e => by cases e)
  have key := h0.top (p := .v g) (k := 0) (j := 0) (d' := x) (G' := G') (w' := w) (a' := a) hcell rfl rfl rfl (h0.same hsl) hvO hownO (fun b q π _ _ _ => SameAt.refl w b) (fun _ hb => hb) (fun b _ => SameAt.refl w b) (fun b hb => by
      have h1 := h.immOwn b hb
      cases ho : G'.own b with
      | none => rfl
      | some q =>
        rcases hown3 b q ho with h2 | ⟨π, h2⟩
        · rw [h1] at h2; cases h2
        · exact absurd hb (hfree b π h2).2.1) h.immLt (fun b q hb => by
      rcases hown3 b q hb with h1 | ⟨π, h1⟩
      · exact h.ownLt b q h1
      · exact (hfree b π h1).2.2) (fun i ds e hv => by
      cases e
      simp [St.withG] at hv) (fun ρ y hy => by
      have h1 := ht ρ y hy
      by_cases ho : y.isOwn = true
      · cases y with
        | sl u sz rows =>
          cases u with
          | false => simp [D.isOwn] at ho
          | true =>
            refine ⟨?_, fun _ => rfl⟩
            show LocOwn G' w (.v g) ((0, 0) :: ρ) sz rows
            rcases h1 with ⟨e1, e2⟩ | ⟨b, o, c, e1, e2, e3, e4, e5⟩
            · exact .inl ⟨e1, by rw [hvU]; exact e2⟩
            · exact .inr ⟨b, o, c, by rw [hvU]; exact e1, e2, hownU b ρ e3, e4, fun i row hr => ⟨(e5 i row hr).1, fun l hl => by rw [List.cons_append, hvU]; exact (e5 i row hr).2 l hl⟩⟩
        | _ => simp [D.isOwn] at ho
      · have ho' : y.isOwn = false := by simpa using ho
        obtain ⟨q1, q2⟩ := h1.ro ho'
        exact ⟨Loc.ofV (by rw [hvU]; exact LocV.ofSolid q1 q2 ho'), fun _ => q2⟩) (fun q ρ n rg e => by rw [e] at hxo; simp [D.isOwn] at hxo) (fun q ρ i l n e => by rw [e] at hxo; simp [D.isOwn] at hxo)
  rw [withG_set] at key
  refine ⟨G', key, hvU [], rfl, rfl, fun b q π hq hb => hownO b q π (fun e => absurd e hq) hb, fun b hb => ?_, fun q π hq => hvO q π (fun e => absurd e hq)⟩
  cases ho : G'.own b with
  | none => exact .inl rfl
  | some q =>
    rcases hown3 b q ho with h1 | h1
    · rw [hb] at h1; cases h1
    · exact .inr h1

end
end Go.AI

/-
  The abstract interpreter, part Zo: a call that is lent a slice inside of a slice.
-/
namespace Go.AI
open Go.RowKit

section
variable {P : Program} {G : Gh} {σ : St} {a : Act} {w : World}

/-- A call by contract, without captures, told of as it runs. -/
theorem lend_calls (h : R G σ a w) {g : FuncId} {xs : List Operand} {d : Nat} {X : List Pl} (hX : X.Nodup) (hd : d < σ.n) (hdX : ∀ q ∈ X, isD (some d) q = false) {Q : SV → (Nat → Option (Bool × List D)) → Prop}
    (hc : AC P g ((xs.map σ.rd).map (argSV σ X true)) (σ.ext X) Q)
    (hf : ∀ sv E', Q sv E' → sv.Fresh ∧ ∀ e b ds, vbase ≤ e → e - vbase < X.length → E' e = some (b, ds) → ∀ x ∈ ds, x.Fresh) :
    Calls P g (xs.map a.eval).toArray w fun e w' => ∃ v sv E' G', e = .returned v ∧ Q sv E' ∧ R G' (σ.after X (some d) sv E') (a.put (some d) v) w' ∧ Kp (X ++ [.s d]) G w G' w' ∧ Fx σ (σ.after X (some d) sv E') G G' := by
  obtain ⟨fF, hpin⟩ := h.portIn hX true (svs := xs.map σ.rd) (vs := xs.map a.eval) (by simp) (fun i sv hs => by
    rw [List.getElem?_map, Option.map_eq_some_iff] at hs
    obtain ⟨x, hx, rfl⟩ := hs
    exact ⟨a.eval x, by rw [List.getElem?_map, hx]; rfl, h.rd x⟩)
  refine Calls.mono (hc (G.portIn X true fF) (xs.map a.eval) w (by simp) hpin) fun e w' he => ?_
  cases e with
  | returned v =>
    obtain ⟨sv, E', G1, k1, k2, k3, k4⟩ := he
    obtain ⟨r1, r2, r3⟩ := h.after hX (f := fF) (svs := xs.map σ.rd) (d := some d) (fun i hi => by cases hi; exact hd) hdX k2 k3 k4 (fun _ => hf sv E' k1)
    exact ⟨v, sv, E', _, rfl, k1, r1, r2, r3⟩
  | panicked ch => exact he.elim
  | outgrown => exact he.elim

theorem rgval_none {sz : Nat} {v : Value} : rgval Option.none sz v = v := by cases v <;> rfl

/-- The state behind a call that was lent a slice inside of a slice. -/
def St.lentD (σ τ : St) (d : Nat) (sv : SV) (s q g : Nat) (b : Bool) (ds : List D) : St where
  n := σ.n
  sl i := if i = s then .none else if i = d then sv.map D.extD else σ.sl i
  vr k := if k = q then some (b, ds) else σ.vr k
  sa := σ.sa
  sb p ij := if p = .s d ∨ p = .v g then τ.sb p ij else σ.sb p ij
  sc p ij := if p = .s d ∨ p = .v g ∨ p = .v q then τ.sc p ij else σ.sc p ij
  tick := τ.tick

theorem lentD_n {τ : St} {d : Nat} {sv : SV} {s q g : Nat} {b : Bool} {ds : List D} : (σ.lentD τ d sv s q g b ds).n = σ.n := rfl
theorem lentD_sl {τ : St} {d : Nat} {sv : SV} {s q g i : Nat} {b : Bool} {ds : List D} : (σ.lentD τ d sv s q g b ds).sl i = if i = s then .none else if i = d then sv.map D.extD else σ.sl i := rfl
theorem lentD_vr {τ : St} {d : Nat} {sv : SV} {s q g i : Nat} {b : Bool} {ds : List D} : (σ.lentD τ d sv s q g b ds).vr i = if i = q then some (b, ds) else σ.vr i := rfl
theorem lentD_sa {τ : St} {d : Nat} {sv : SV} {s q g i : Nat} {b : Bool} {ds : List D} : (σ.lentD τ d sv s q g b ds).sa i = σ.sa i := rfl
theorem lentD_sb {τ : St} {d : Nat} {sv : SV} {s q g : Nat} {b : Bool} {ds : List D} {p : Pl} {ij : Nat × Nat} : (σ.lentD τ d sv s q g b ds).sb p ij = if p = .s d ∨ p = .v g then τ.sb p ij else σ.sb p ij := rfl
theorem lentD_sc {τ : St} {d : Nat} {sv : SV} {s q g : Nat} {b : Bool} {ds : List D} {p : Pl} {ij : Nat × Nat} : (σ.lentD τ d sv s q g b ds).sc p ij = if p = .s d ∨ p = .v g ∨ p = .v q then τ.sc p ij else σ.sc p ij := rfl
theorem lentD_tick {τ : St} {d : Nat} {sv : SV} {s q g : Nat} {b : Bool} {ds : List D} : (σ.lentD τ d sv s q g b ds).tick = τ.tick := rfl

/-- The state in which the callee is called: the slice stands in a place of its own. -/
def St.outD (σ : St) (s q g j sz i l : Nat) (rows : List (List D)) (row : List D) (x : D) (v : Value) : St :=
  (((((σ.setTop (.v q) 0 j (.sl true sz (rows.set i (row.set l (.lit v))))).bumpC (.v q) 0 j)).addG g x).put s (.one (.bor (.v g) [(0, 0)] (σ.tick + 1) Option.none)))

theorem outD_sb {s q g j sz i l : Nat} {rows : List (List D)} {row : List D} {x : D} {v : Value} : (σ.outD s q g j sz i l rows row x v).sb (.v g) (0, 0) = σ.tick + 1 := by
  simp [St.outD, St.put, St.addG, St.bump, St.bumpC, St.withG, St.setTop]

theorem outD_tick {s q g j sz i l : Nat} {rows : List (List D)} {row : List D} {x : D} {v : Value} : (σ.outD s q g j sz i l rows row x v).tick = σ.tick + 2 := by
  simp [St.outD, St.put, St.addG, St.bump, St.bumpC, St.withG, St.setTop]

theorem outD_vr_g {s q g j sz i l : Nat} {rows : List (List D)} {row : List D} {x : D} {v : Value} : (σ.outD s q g j sz i l rows row x v).vr g = some (false, [x]) := by
  simp [St.outD, St.put, St.addG, St.bump, St.bumpC, St.withG, St.setTop]
theorem outD_vr_q {s q g j sz i l : Nat} {rows : List (List D)} {row : List D} {x : D} {v : Value} {b : Bool} {ds : List D} (hq : σ.vr q = some (b, ds)) (hg : q ≠ g) : (σ.outD s q g j sz i l rows row x v).vr q = some (b, ds.set j (.sl true sz (rows.set i (row.set l (.lit v))))) := by
  simp [St.outD, St.put, St.addG, St.bump, St.bumpC, St.withG, St.setTop, hg, hq]
theorem outD_vr_o {s q g j sz i l k : Nat} {rows : List (List D)} {row : List D} {x : D} {v : Value} (hq : k ≠ q) (hg : k ≠ g) : (σ.outD s q g j sz i l rows row x v).vr k = σ.vr k := by
  simp [St.outD, St.put, St.addG, St.bump, St.bumpC, St.withG, St.setTop, hg, hq]

/-- A call that is lent a slice inside of a slice, and reads whatever else it is shown. -/
theorem call_lendD (s q g j i l : Nat) {f : Operand} {xs : List Operand} {d : Nat} {T : Pl → Prop} {K : St → Prop} {gid : FuncId} {args : List SV} {Q : SV → (Nat → Option (Bool × List D)) → Prop} {bq : Bool} {dsq : List D} {sz sz' : Nat} {rows rows' : List (List D)} {row : List D}
    (hrd : σ.rd f = .one (.clo gid [])) (hent : enters P gid = true) (hsn : s < σ.n) (hdn : d < σ.n) (hsd : s ≠ d) (hsl : σ.sl s = .one (.bor (.v q) [(0, j), (i, l)] (σ.sc (.v q) (0, j)) Option.none))
    (hq : σ.vr q = some (bq, dsq)) (hj : dsq[j]? = some (.sl true sz rows)) (hi : rows[i]? = some row) (hl : row[l]? = some (.sl true sz' rows')) (hgn : σ.n ≤ g) (hg : σ.vr g = Option.none)
    (hTq : T (.v q)) (hTg : T (.v g)) (hTs : T (.s s)) (hTd : T (.s d))
    (hargs : ∀ v, (xs.map (σ.outD s q g j sz i l rows row (.sl true sz' rows') v).rd).map (argSV (σ.outD s q g j sz i l rows row (.sl true sz' rows') v) [.v g] true) = args)
    (hc : ∀ E, E vbase = some (false, [.sl true sz' rows']) → AC P gid args E Q)
    (hK : ∀ sv E', Q sv E' → sv.Fresh ∧ ∃ rows'', E' vbase = some (false, [.sl true sz' rows'']) ∧ (D.sl true sz' rows'').Fresh ∧ ∀ τ, K (σ.lentD τ d sv s q g bq (dsq.set j (.sl true sz (rows.set i (row.set l (.sl true sz' rows'')))))) ) :
    callA P σ f xs (some d) T K := by
  refine .inr ⟨gid, hrd, hent, fun G a w h => ?_⟩
  have hgq : g ≠ q := fun e => by rw [e, hq] at hg; cases hg
  have hil := (List.getElem?_eq_some_iff.1 hi).1
  have hll := (List.getElem?_eq_some_iff.1 hl).1
  have hjl := (List.getElem?_eq_some_iff.1 hj).1
  have hp : cellIn (σ.rows (.v q)) (0, j) = some (.sl true sz rows) := by simp [St.rows, hq, cellIn, hj]
  obtain ⟨G1, om, f0, h1, ht1, hf0, hi1, hb1, hv1, hom1, hown1, hother1⟩ := h.hideSub hp hi hl rfl
  have hg1 : ((σ.setTop (.v q) 0 j (.sl true sz (rows.set i (row.set l (.lit (f0 [])))))).bumpC (.v q) 0 j).vr g = Option.none := by
    simp [St.bumpC, St.setTop, hgq, hg]
  obtain ⟨G2, h2, hv2, hi2, hb2, hown2, hnone2, hval2⟩ := h1.newG hg1 (by rw [hi1]; exact ht1) rfl (fun b π hb => by
    obtain ⟨q1, ρ, q2⟩ := hom1 b π hb
    refine ⟨q1, fun hm => ?_, h.ownLt b _ q2⟩
    rw [hi1] at hm
    rw [h.immOwn b hm] at q2; cases q2)
  have hslot : a.tmps.getD s undef = f0 [] := by
    have e1 := h.slots s hsn
    rw [hsl] at e1
    have e2 := h.loc (.s s) [(0, 0)] (.bor (.v q) [(0, j), (i, l)] (σ.sc (.v q) (0, j)) Option.none) (by simp [St.cell, St.rows, hsl, SV.rows, cellIn, D.atU])
    have e3 := e2 rfl sz' rows' (by
      rw [show σ.cell (.v q) [(0, j), (i, l)] = D.atU (.sl true sz rows) [(i, l)] from by simp [St.cell, hp]]
      simp [D.atU, cellIn, hi, hl])
    rw [hf0]
    rw [rgval_none] at e3
    exact e1.trans e3
  have ht2 : Tells G2 w (((σ.setTop (.v q) 0 j (.sl true sz (rows.set i (row.set l (.lit (f0 [])))))).bumpC (.v q) 0 j).addG g (.sl true sz' rows')) (.one (.bor (.v g) [(0, 0)] (σ.tick + 1) Option.none)) (a.tmps.getD s undef) := by
    refine tells_one (σ := ((σ.setTop (.v q) 0 j (.sl true sz (rows.set i (row.set l (.lit (f0 [])))))).bumpC (.v q) 0 j).addG g (.sl true sz' rows')) ?_ ?_
    · intro _ sz2 rows2 hc2
      rw [hslot, ← hv2, rgval_none]
    · show σ.tick + 1 < _
      simp [St.addG, St.bump, St.bumpC, St.withG, St.setTop]
  obtain ⟨G3, h3, hi3, hb3, hv3, hown3⟩ := h2.putT (by rw [show (((σ.setTop (.v q) 0 j (.sl true sz (rows.set i (row.set l (.lit (f0 [])))))).bumpC (.v q) 0 j).addG g (.sl true sz' rows')).n = σ.n from rfl]; exact hsn) ht2
  have ha : a.put (some s) (a.tmps.getD s undef) = a := by
    have hsz : s < a.tmps.size := by rw [h.size]; exact hsn
    have : a.tmps.setIfInBounds s (a.tmps.getD s undef) = a.tmps := by
      apply Array.ext_getElem?
      intro k
      rw [Array.getElem?_setIfInBounds]
      split
      · next e => subst e; simp [Array.getElem?_eq_getElem hsz, hsz]
      · rfl
    simp only [Act.put, this]
  rw [ha] at h3
  change R G3 (σ.outD s q g j sz i l rows row (.sl true sz' rows') (f0 [])) a w at h3
  refine Calls.mono (lend_calls h3 (X := [.v g]) (by simp) (d := d) hdn (fun p hp => by simp only [List.mem_singleton] at hp; subst hp; rfl) (by rw [hargs]; exact hc _ (by simp [St.ext, outD_vr_g, D.extD])) (fun sv E' hQ => by
    obtain ⟨e1, rows'', e2, e3, _⟩ := hK sv E' hQ
    refine ⟨e1, fun e b ds he1 he2 hE x hx => ?_⟩
    have : e = vbase := by simp at he2; omega
    subst this
    rw [e2] at hE
    simp only [Option.some.injEq, Prod.mk.injEq] at hE
    obtain ⟨rfl, rfl⟩ := hE
    simp only [List.mem_singleton] at hx; subst hx; exact e3)) fun e w' he => ?_
  obtain ⟨v, sv, E', G4, rfl, hQ, h4, hk4, hx4⟩ := he
  obtain ⟨_, rows'', hE', hfr2, hK'⟩ := hK sv E' hQ
  rw [after_one outD_vr_g hE'] at h4 hx4
  have hvr4 : ∀ k, ((σ.outD s q g j sz i l rows row (.sl true sz' rows') (f0 [])).resV d sv g false [.sl true sz' rows'']).vr k = if k = g then some (false, [.sl true sz' rows'']) else (σ.outD s q g j sz i l rows row (.sl true sz' rows') (f0 [])).vr k := fun k => rfl
  have hcg : cellIn (((σ.outD s q g j sz i l rows row (.sl true sz' rows') (f0 [])).resV d sv g false [.sl true sz' rows'']).rows (.v g)) (0, 0) = some (.sl true sz' rows'') := by
    simp [St.rows, hvr4, cellIn]
  have ht4 := h4.tree hcg
  have hval4 : G4.val (.v g) [(0, 0)] = f0 [] := by
    rw [(hx4.fl g hgn [.sl true sz' rows''] (by rw [hvr4]; simp)).2 (0, 0), hv3 _ _ (by simp), hv2]
  have h5 := h4.drop (p := .v g) (k := 0) (j := 0) (by rw [hcg]; rfl)
  have h6 := h5.noG (g := g) (ds := [.dead]) (by simp [St.bump, St.setTop, hvr4])
  have hq6 : (((((σ.outD s q g j sz i l rows row (.sl true sz' rows') (f0 [])).resV d sv g false [.sl true sz' rows'']).setTop (.v g) 0 0 .dead).bump (.v g) 0 0).noG g).vr q = some (bq, dsq.set j (.sl true sz (rows.set i (row.set l (.lit (f0 [])))))) := by
    simp [St.noG, St.bump, St.setTop, hvr4, Ne.symm hgq, outD_vr_q hq (Ne.symm hgq)]
  have hc6 : cellIn ((((((σ.outD s q g j sz i l rows row (.sl true sz' rows') (f0 [])).resV d sv g false [.sl true sz' rows'']).setTop (.v g) 0 0 .dead).bump (.v g) 0 0).noG g).rows (.v q)) (0, j) = some (.sl true sz (rows.set i (row.set l (.lit (f0 []))))) := by
    simp only [St.rows]
    rw [hq6]
    simp [cellIn, hjl]
  have hrl : ∀ (i' : Nat) (row' : List D), rows[i']? = some row' → row'.length = sz := fun i' row' hr => by
    rcases (show LocOwn G w (.v q) [(0, j)] sz rows from h.loc (.v q) [(0, j)] (.sl true sz rows) (by simp [St.cell, hp, D.atU])) with ⟨e1, _⟩ | ⟨_, _, _, _, _, _, _, e5⟩
    · rw [e1] at hr; simp at hr
    · exact (e5 i' row' hr).1
  have hoff : ∀ b π, G4.own b = some (.v g, (0, 0) :: π) → (G4.drop (.v g) 0 0).own b = Option.none ∧ ¬ (G4.drop (.v g) 0 0).imm b ∧ b < w'.heap.size := fun b π hb => by
    refine ⟨?_, fun hm => ?_, h4.ownLt b _ hb⟩
    · cases ho : (G4.drop (.v g) 0 0).own b with
      | none => rfl
      | some x =>
        obtain ⟨x, τ⟩ := x
        obtain ⟨e1, e2⟩ := Gh.drop_own.1 ho
        rw [hb] at e1; cases e1
        exact absurd ⟨_, rfl⟩ (e2 rfl)
    · have := h4.immOwn b hm
      rw [hb] at this; cases this
  have hom4 : ∀ b π, (G4.own b).bind (under (.v g) 0 0) = some π → G4.own b = some (.v g, (0, 0) :: π) := fun b π hb => by
    obtain ⟨⟨x, τ⟩, e1, e2⟩ := Option.bind_eq_some_iff.1 hb
    obtain ⟨rfl, rfl⟩ := under_some.1 e2
    exact e1
  obtain ⟨G7, h7, hi7, hb7, hv7, hown7, hnone7, hx7⟩ := h6.unhide (rows := rows.set i (row.set l (.sl true sz' rows''))) hc6 (by simp) (fun i' row' hr => by
      by_cases e : i = i'
      · subst e
        rw [List.getElem?_set_self hil] at hr
        simp only [Option.some.injEq] at hr; subst hr; rw [List.length_set]; exact hrl i row hi
      · rw [List.getElem?_set_ne e] at hr
        exact hrl i' row' hr) (om := fun i' l' b => if i' = i ∧ l' = l then (G4.own b).bind (under (.v g) 0 0) else Option.none) (fun i' l' x hx => by
      by_cases e : i' = i ∧ l' = l
      · obtain ⟨rfl, rfl⟩ := e
        right
        have : cellIn (rows.set i' (row.set l' (.sl true sz' rows''))) (i', l') = some (.sl true sz' rows'') := cellIn_some.2 ⟨_, List.getElem?_set_self hil, List.getElem?_set_self hll⟩
        rw [this] at hx; cases hx
        refine ⟨fun ρ => G4.val (.v g) ((0, 0) :: ρ), ?_, by simp only [and_self, if_true]; exact ht4, rfl⟩
        show _ = some (D.lit (G4.val (.v g) [(0, 0)]))
        rw [hval4]
        exact cellIn_some.2 ⟨_, List.getElem?_set_self hil, List.getElem?_set_self hll⟩
      · left
        rw [← hx]
        simp only [cellIn]
        by_cases e1 : i = i'
        · subst e1
          have e2 : l ≠ l' := fun e2 => e ⟨rfl, e2.symm⟩
          rw [List.getElem?_set_self hil, List.getElem?_set_self hil]
          simp only [Option.bind_some]
          rw [List.getElem?_set_ne e2, List.getElem?_set_ne e2]
        · rw [List.getElem?_set_ne e1, List.getElem?_set_ne e1]) (fun i1 l1 i2 l2 b π π' e1 e2 => by
      by_cases c1 : i1 = i ∧ l1 = l
      · by_cases c2 : i2 = i ∧ l2 = l
        · exact ⟨by omega, by omega⟩
        · simp [c2] at e2
      · simp [c1] at e1) (fun i1 l1 b π e1 => by
      by_cases c1 : i1 = i ∧ l1 = l
      · simp only [c1, and_self, if_true] at e1
        exact hoff b π (hom4 b π e1)
      · simp [c1] at e1)
  have h8 := h7.forget [.s s]
  have hownC : ∀ b p π, G3.own b = some (p, π) → p ∈ [Pl.v q, Pl.v g, Pl.s s, Pl.s d] → ∃ p' π', p' ∈ [Pl.v q, Pl.v g, Pl.s s, Pl.s d] ∧ G.own b = some (p', π') := fun b p π hb hp' => by
    have hb2 := ((hown3 b p π).1 hb).1
    cases ho : G1.own b with
    | none =>
      rcases hnone2 b ho with h9 | ⟨π', h9⟩
      · rw [hb2] at h9; cases h9
      · obtain ⟨_, ρ, h10⟩ := hom1 b π' h9
        exact ⟨_, _, by simp, h10⟩
    | some x =>
      obtain ⟨p0, π0⟩ := x
      have h9 := hown1 b _ ho
      by_cases e : p0 = .v g
      · subst e; exact ⟨_, _, by simp, h9⟩
      · have h10 := hown2 b p0 π0 e ho
        rw [hb2] at h10; cases h10
        exact ⟨p, π, hp', h9⟩
  have hkp : Kp [Pl.v q, Pl.v g, Pl.s s, Pl.s d] G w (G7.only [.s s]) w' := by
    refine ⟨hk4.os, hk4.tape, hk4.output, hk4.size, fun b hb h0 => ?_, fun b p π hp' h0 => ?_, fun b hb => ?_, fun b hb => ?_⟩
    · have e1 : G1.own b = Option.none := by
        cases ho : G1.own b with
        | none => rfl
        | some x => have := hown1 b x ho; rw [h0] at this; cases this
      have e2 : G2.own b = Option.none := by
        rcases hnone2 b e1 with h9 | ⟨π', h9⟩
        · exact h9
        · obtain ⟨_, ρ, h10⟩ := hom1 b π' h9
          rw [h0] at h10; cases h10
      have e3 : G3.own b = Option.none := by
        cases ho : G3.own b with
        | none => rfl
        | some x => obtain ⟨x, π⟩ := x; have := ((hown3 b x π).1 ho).1; rw [e2] at this; cases this
      obtain ⟨e4, e5⟩ := hk4.free b hb e3
      refine ⟨e4, ?_⟩
      have e6 : (G4.drop (.v g) 0 0).own b = Option.none := by
        cases ho : (G4.drop (.v g) 0 0).own b with
        | none => rfl
        | some x => obtain ⟨x, π⟩ := x; have := (Gh.drop_own.1 ho).1; rw [e5] at this; cases this
      have e7 : G7.own b = Option.none := by
        rcases hnone7 b e6 with h9 | ⟨i1, l1, π, h9⟩
        · exact h9
        · split at h9
          · have := hom4 b π h9; rw [e5] at this; cases this
          · cases h9
      cases ho : (G7.only [.s s]).own b with
      | none => rfl
      | some x => have := (only_own.1 ho).1; rw [e7] at this; cases this
    · simp only [List.mem_cons, List.not_mem_nil, or_false, not_or] at hp'
      obtain ⟨p1, p2, p3, p4⟩ := hp'
      have e1 := hown2 b p π p2 (hother1 b p π p1 h0)
      have e3 := (hown3 b p π).2 ⟨e1, p3⟩
      obtain ⟨e4, e5⟩ := hk4.keep b p π (by simp [p2, p4]) e3
      refine ⟨e4, only_own.2 ⟨hown7 b _ (Gh.drop_own.2 ⟨e5, fun e => absurd e p2⟩), by simp [p3]⟩⟩
    · show G7.imm b
      rw [hi7]
      refine hk4.imm b ?_
      rw [hi3, hi2, hi1]; exact hb
    · have hb' : G4.imm b := by
        have : G7.imm b := hb
        rw [hi7] at this; exact this
      rcases hk4.immB b hb' with e1 | e1 | ⟨p, π, e1, e2⟩
      · left; rw [hi3, hi2, hi1] at e1; exact e1
      · exact .inr (.inl e1)
      · refine .inr (.inr ?_)
        obtain ⟨p', π', e3, e4⟩ := hownC b p π e2 (by simp at e1; rcases e1 with rfl | rfl <;> simp)
        exact ⟨p', π', e3, e4⟩
  generalize hσ8 : (((((((σ.outD s q g j sz i l rows row (.sl true sz' rows') (f0 [])).resV d sv g false [.sl true sz' rows'']).setTop (.v g) 0 0 .dead).bump (.v g) 0 0).noG g).setTop (.v q) 0 j (.sl true sz (rows.set i (row.set l (.sl true sz' rows''))))).bumpC (.v q) 0 j).forget [.s s] = σ8 at h8
  have hvr8 : ∀ k, σ8.vr k = if k = q then some (bq, dsq.set j (.sl true sz (rows.set i (row.set l (.sl true sz' rows''))))) else σ.vr k := fun k => by
    rw [← hσ8]
    by_cases e : k = q
    · subst e
      simp only [St.forget, St.bumpC, St.setTop, St.noG, St.bump, hvr4, Ne.symm hgq, outD_vr_q hq (Ne.symm hgq), if_true, if_false]
      simp [Ne.symm hgq]
    · by_cases e2 : k = g
      · subst e2; simp [St.forget, St.bumpC, St.setTop, St.noG, St.bump, e, hg]
      · simp [St.forget, St.bumpC, St.setTop, St.noG, St.bump, e, e2, hvr4, outD_vr_o e e2]
  have hlent : σ8 = σ.lentD σ8 d sv s q g bq (dsq.set j (.sl true sz (rows.set i (row.set l (.sl true sz' rows''))))) := by
    have e1 : σ8.n = σ.n := by rw [← hσ8]; rfl
    have e2 : σ8.sl = fun i => if i = s then SV.none else if i = d then sv.map D.extD else σ.sl i := by
      rw [← hσ8]
      funext k
      by_cases e : k = s
      · subst e; simp [St.forget]
      · simp [St.forget, e, St.bumpC, St.setTop, St.noG, St.bump, St.resV, St.outD, St.put, St.addG, St.withG]
    have e3 : σ8.sa = σ.sa := by rw [← hσ8]; rfl
    have e4 : σ8.sb = fun p ij => if p = .s d ∨ p = .v g then σ8.sb p ij else σ.sb p ij := by
      funext p ij
      by_cases e : p = .s d ∨ p = .v g
      · rw [if_pos e]
      · rw [if_neg e, ← hσ8]
        have e' : p ≠ .s d ∧ p ≠ .v g := by simpa [not_or] using e
        simp [St.forget, St.bumpC, St.setTop, St.noG, St.bump, St.resV, St.outD, St.put, St.addG, St.withG, e'.1, e'.2]
    have e5 : σ8.sc = fun p ij => if p = .s d ∨ p = .v g ∨ p = .v q then σ8.sc p ij else σ.sc p ij := by
      funext p ij
      by_cases e : p = .s d ∨ p = .v g ∨ p = .v q
      · rw [if_pos e]
      · rw [if_neg e, ← hσ8]
        have e' : p ≠ .s d ∧ p ≠ .v g ∧ p ≠ .v q := by simpa [not_or] using e
        simp [St.forget, St.bumpC, St.setTop, St.noG, St.bump, St.resV, St.outD, St.put, St.addG, St.withG, e'.1, e'.2.1, e'.2.2]
    have e6 : σ8.vr = fun k => if k = q then some (bq, dsq.set j (.sl true sz (rows.set i (row.set l (.sl true sz' rows''))))) else σ.vr k := funext hvr8
    have : σ8 = ⟨σ8.n, σ8.sl, σ8.vr, σ8.sa, σ8.sb, σ8.sc, σ8.tick⟩ := rfl
    rw [this, e1, e2, e3, e6]
    simp only [St.lentD, St.mk.injEq, true_and, and_true]
    exact ⟨e4, e5⟩
  refine ⟨v, σ8, G7.only [.s s], _, rfl, by rw [hlent]; exact hK' σ8, fun p hp' => ?_, h8, hkp, ?_⟩
  · simp only [List.mem_cons, List.not_mem_nil, or_false] at hp'
    rcases hp' with rfl | rfl | rfl | rfl
    · exact hTq
    · exact hTg
    · exact hTs
    · exact hTd
  · refine ⟨by rw [← hσ8]; rfl, fun k hk => ?_, fun k hk ds' hd' => ?_⟩
    · show G7.blk k = _
      rw [hb7]
      show G4.blk k = _
      rw [hx4.blk k hk, hb3, hb2, hb1]
    · rw [hvr8] at hd'
      have hkg : k ≠ g := fun e => by
        subst e; rw [if_neg hgq, hg] at hd'; cases hd'
      have hfst : ∃ ds, σ.vr k = some (false, ds) := by
        by_cases e : k = q
        · subst e; simp only [if_true, Option.some.injEq, Prod.mk.injEq] at hd'
          obtain ⟨rfl, _⟩ := hd'
          exact ⟨_, hq⟩
        · rw [if_neg e] at hd'; exact ⟨_, hd'⟩
      refine ⟨hfst, fun kj => ?_⟩
      obtain ⟨ds0, hds0⟩ := hfst
      show G7.val (.v k) [kj] = _
      rw [hv7]
      show G4.val (.v k) [kj] = _
      have h4v : ∃ ds4, ((σ.outD s q g j sz i l rows row (.sl true sz' rows') (f0 [])).resV d sv g false [.sl true sz' rows'']).vr k = some (false, ds4) := by
        rw [hvr4, if_neg hkg]
        by_cases e : k = q
        · subst e; rw [hq] at hds0; cases hds0; exact ⟨_, outD_vr_q hq hkg⟩
        · rw [outD_vr_o e hkg]; exact ⟨_, hds0⟩
      obtain ⟨ds4, h4v⟩ := h4v
      rw [(hx4.fl k hk ds4 h4v).2 kj, hv3 _ _ (by simp), hval2 _ _ (by simpa using hkg), hv1]

end
section
variable {σ : St} {g i k : Nat} {x : D} {p : Pl} {ij : Nat × Nat}
theorem withG_n : (σ.withG g x).n = σ.n := rfl
theorem withG_sl : (σ.withG g x).sl i = σ.sl i := rfl
theorem withG_vr : (σ.withG g x).vr i = if i = g then some (false, [x]) else σ.vr i := rfl
theorem withG_sa : (σ.withG g x).sa i = σ.sa i := rfl
theorem withG_sb : (σ.withG g x).sb p ij = σ.sb p ij := rfl
theorem withG_sc : (σ.withG g x).sc p ij = σ.sc p ij := rfl
theorem withG_tick : (σ.withG g x).tick = σ.tick := rfl
end
attribute [go_sem] St.outD St.addG withG_n withG_sl withG_vr withG_sa withG_sb withG_sc withG_tick
attribute [go_sem] lentD_n lentD_sl lentD_vr lentD_sa lentD_sb lentD_sc lentD_tick
end Go.AI

/-
  The abstract interpreter, part Zp: what is shown of a slice of slices, whoever owns them.
-/
namespace Go.AI
open Go.RowKit

/-- Flags of ownership, taken off so many levels down. -/
def D.roN : Nat → D → D
  | n + 1, .sl _ sz rows => .sl false sz (rows.map fun r => r.map (D.roN n))
  | _, d => d

theorem roN_zero {d : D} : d.roN 0 = d := by cases d <;> rfl
theorem roN_sl {n sz : Nat} {u : Bool} {rows : List (List D)} : (D.sl u sz rows).roN (n + 1) = .sl false sz (rows.map fun r => r.map (D.roN n)) := rfl
theorem roN_lit {n : Nat} {v : Value} : (D.lit v).roN n = .lit v := by cases n <;> rfl
theorem roN_nil {n : Nat} : D.nil.roN n = .nil := by cases n <;> rfl

theorem roN_at : ∀ (π : Path) (n : Nat) (d x' : D), (d.roN n).at π = some x' → ∃ x m, d.at π = some x ∧ x' = x.roN m
  | [], n, d, x', h => by
    simp only [D.at, Option.some.injEq] at h
    exact ⟨d, n, rfl, h.symm⟩
  | ij :: π, 0, d, x', h => ⟨x', 0, by rw [roN_zero] at h; exact h, roN_zero.symm⟩
  | ij :: π, n + 1, d, x', h => by
    cases d with
    | sl u sz rows =>
      rw [roN_sl] at h
      simp only [D.at, D.subs] at h ⊢
      cases hc : cellIn (rows.map fun r => r.map (D.roN n)) ij with
      | none => rw [hc] at h; cases h
      | some y =>
        rw [hc] at h
        obtain ⟨i, j⟩ := ij
        obtain ⟨row, h1, h2⟩ := cellIn_some.1 hc
        rw [List.getElem?_map, Option.map_eq_some_iff] at h1
        obtain ⟨row0, h3, rfl⟩ := h1
        rw [List.getElem?_map, Option.map_eq_some_iff] at h2
        obtain ⟨y0, h4, rfl⟩ := h2
        rw [cellIn_some.2 ⟨row0, h3, h4⟩]
        exact roN_at π n y0 x' h
    | _ => exact ⟨x', 0, h, roN_zero.symm⟩

theorem ROloc.roN {imm : Nat → Prop} {w : World} {f : Path → Value} {π : Path} {d : D} (n : Nat) (h : ROloc imm w f π d) : ROloc imm w f π (d.roN n) := by
  cases n with
  | zero => rw [roN_zero]; exact h
  | succ n =>
    cases d with
    | sl u sz rows =>
      rw [roN_sl]
      obtain ⟨A, c, h1, h2, h3⟩ := h
      refine ⟨A, c, by rw [List.length_map]; exact h1, by rw [List.length_map]; exact h2, ?_⟩
      rcases h3 with rfl | ⟨b, o, e, hb, hc⟩
      · exact .inl rfl
      · refine .inr ⟨b, o, e, hb, fun i row hr => ?_⟩
        rw [List.getElem?_map, Option.map_eq_some_iff] at hr
        obtain ⟨row0, h4, rfl⟩ := hr
        rw [List.length_map]
        exact hc i row0 h4
    | _ => exact h

theorem RO.roN {imm : Nat → Prop} {w : World} {d : D} {v : Value} (n : Nat) (h : RO imm w d v) : RO imm w (d.roN n) v := by
  obtain ⟨f, h1, h2⟩ := h
  refine ⟨f, h1, fun π x' hx => ?_⟩
  obtain ⟨x, m, h3, rfl⟩ := roN_at π n d x' hx
  exact (h2 π x h3).roN m

section
variable {P : Program} {G : Gh} {a : Act} {w : World} {E : Nat → Option (Bool × List D)}

theorem R.viewArg {svs svs' : List SV} (h : R G (pst svs E) a w) (hl : svs'.length = svs.length)
    (hx : ∀ i : Nat, svs'[i]? = svs[i]? ∨ ∃ sz rows sz' rows', svs[i]? = some (.one (.sl false sz rows)) ∧ svs'[i]? = some (.one (.sl false sz' rows')) ∧ ∀ imm w v, RO imm w (.sl false sz rows) v → RO imm w (.sl false sz' rows') v) : R G (pst svs' E) a w := by
  have back : ∀ {p : Pl} {π : Path} {x : D}, (pst svs' E).cell p π = some x → (pst svs E).cell p π = some x ∨ ∃ i sz rows sz' rows', p = .s i ∧ π = [(0, 0)] ∧ x = .sl false sz' rows' ∧ svs[i]? = some (.one (.sl false sz rows)) ∧ ∀ imm w v, RO imm w (.sl false sz rows) v → RO imm w (.sl false sz' rows') v := fun {p π x} hc => by
    cases p with
    | v k => exact .inl (by rw [← hc]; exact St.cell_congr rfl π)
    | s i =>
      rcases hx i with e | ⟨sz, rows, sz', rows', e1, e2, e3⟩
      · left
        rw [← hc]
        refine St.cell_congr ?_ π
        simp [St.rows, pst, e]
      · right
        have hr : (pst svs' E).rows (.s i) = [[.sl false sz' rows']] := by simp [St.rows, pst, e2, SV.rows]
        cases π with
        | nil => simp [St.cell] at hc
        | cons ij π =>
          obtain ⟨k, j⟩ := ij
          simp only [St.cell, hr] at hc
          cases hz : cellIn [[D.sl false sz' rows']] (k, j) with
          | none => rw [hz] at hc; cases hc
          | some z =>
            rw [hz] at hc
            obtain ⟨row, h1, h2⟩ := cellIn_some.1 hz
            cases k with
            | succ k => simp at h1
            | zero =>
              simp at h1; subst h1
              cases j with
              | succ j => simp at h2
              | zero =>
                simp at h2; subst h2
                cases π with
                | nil => simp [D.atU] at hc; exact ⟨i, sz, rows, sz', rows', rfl, rfl, hc.symm, e1, e3⟩
                | cons kl π => simp [D.atU] at hc
  have backO : ∀ {p : Pl} {π : Path} {sz rows}, (pst svs' E).cell p π = some (.sl true sz rows) → (pst svs E).cell p π = some (.sl true sz rows) := fun {p π sz rows} hc => by
    rcases back hc with h1 | ⟨_, _, _, _, _, _, _, h1, _⟩
    · exact h1
    · cases h1
  have stp : ∀ p π, (pst svs' E).stp p π = (pst svs E).stp p π := fun p π => by
    rcases π with _ | ⟨ij, _ | ⟨kl, π⟩⟩ <;> cases p <;> rfl
  have carry : ∀ {u : Value} {x : D}, LocV G w (pst svs E) u x → LocV G w (pst svs' E) u x := fun {u x} hu =>
    hu.carry (fun _ hb => hb) (fun b _ => SameAt.refl w b) (fun q ρ n rg _ h1 sz rows h2 => ⟨by rw [stp] at h1; exact h1, ⟨rows, backO h2⟩, rfl⟩)
      (fun q ρ i j n _ h1 ad h2 => ⟨by rw [stp] at h1; exact h1, h2.congr (fun _ i ds hq hi => ⟨⟨ds, hi⟩, rfl⟩) (fun _ sz rows h3 => ⟨⟨rows, backO h3⟩, rfl⟩)⟩)
  refine ⟨by rw [h.size]; exact hl.symm, h.defers, fun i hi => ?_, h.vars, fun p π x hc => ?_, fun p ij kl ρ x hc => ?_, h.immOwn, h.immLt, h.ownLt, h.stA, h.stB, h.stC, fun p π q ρ n rg hc => ?_, fun p π q ρ i j n hc => ?_⟩
  · have hs := h.slots i (by rw [show (pst svs E).n = svs.length from rfl, ← hl]; exact hi)
    rcases hx i with e | ⟨sz, rows, sz', rows', e1, e2, e3⟩
    · simp only [pst, e] at hs ⊢; exact hs
    · simp only [pst, e1, e2, Option.getD_some, SVrel] at hs ⊢; exact hs
  · rcases back hc with h1 | ⟨i, sz, rows, sz', rows', rfl, rfl, rfl, e1, e3⟩
    · have hl := h.loc p π x h1
      by_cases hown : x.isOwn = true
      · cases x with
        | sl u sz rows =>
          cases u with
          | false => simp [D.isOwn] at hown
          | true => exact hl
        | _ => simp [D.isOwn] at hown
      · exact Loc.ofV (carry (hl.toV (by simpa using hown)))
    · have hl := h.loc (.s i) [(0, 0)] (.sl false sz rows) (by simp [St.cell, St.rows, pst, e1, SV.rows, cellIn, D.atU])
      exact e3 _ _ _ hl
  · rcases back hc with h1 | ⟨_, _, _, _, _, _, e, _⟩
    · exact h.deep p ij kl ρ x h1
    · simp at e
  · rcases back hc with h1 | ⟨_, _, _, _, _, _, _, e, _⟩
    · exact h.stBor p π q ρ n rg h1
    · cases e
  · rcases back hc with h1 | ⟨_, _, _, _, _, _, _, e, _⟩
    · exact h.stAddr p π q ρ i j n h1
    · cases e

/-- The first argument is shown with whatever flags. -/
theorem AC.view1 (n : Nat) {f : FuncId} {r : List SV} {Q : SV → (Nat → Option (Bool × List D)) → Prop} {sz : Nat} {rows rows' : List (List D)} (h : AC P f (.one (.sl false sz rows') :: r) E Q) (he : (D.sl false sz rows).roN (n + 1) = .sl false sz rows') : AC P f (.one (.sl false sz rows) :: r) E Q :=
  fun G vs w hl hR => h G vs w (by simpa using hl) (hR.viewArg (by simp) fun i => by
    cases i with
    | zero => exact .inr ⟨sz, rows, sz, rows', rfl, rfl, fun imm w v hv => by rw [← he]; exact hv.roN _⟩
    | succ i => exact .inl rfl)

/-- The second one. -/
theorem AC.view2 (n : Nat) {f : FuncId} {s : SV} {r : List SV} {Q : SV → (Nat → Option (Bool × List D)) → Prop} {sz : Nat} {rows rows' : List (List D)} (h : AC P f (s :: .one (.sl false sz rows') :: r) E Q) (he : (D.sl false sz rows).roN (n + 1) = .sl false sz rows') : AC P f (s :: .one (.sl false sz rows) :: r) E Q :=
  fun G vs w hl hR => h G vs w (by simpa using hl) (hR.viewArg (by simp) fun i => by
    match i with
    | 0 => exact .inl rfl
    | 1 => exact .inr ⟨sz, rows, sz, rows', rfl, rfl, fun imm w v hv => by rw [← he]; exact hv.roN _⟩
    | i + 2 => exact .inl rfl)
end

section
variable {P : Program} {σ : St} {Q : Exit → St → Prop}
/-- A nil slice in a slot is owned by the slot. -/
theorem swp_nil (d sz : Nat) {c : Code} (h : SWP P c Q (σ.nilOwn d sz)) : SWP P c Q σ := fun G a w hR => by
  obtain ⟨G', h1, h2, h3, _⟩ := hR.nilOwnK d sz
  refine wp_mono (h G' a w h1) fun e a' w' hl => ?_
  obtain ⟨σ', G'', k1, k2, k3, k4, k5⟩ := hl
  exact ⟨σ', G'', k1, k2, k3, h2.toKf.trans k4, h3.trans k5⟩
theorem swp_ret_nil (d sz : Nat) (h : Q .ret (σ.nilOwn d sz)) : SWP P .ret Q σ := swp_nil d sz (swp_ret h)
end

end Go.AI
