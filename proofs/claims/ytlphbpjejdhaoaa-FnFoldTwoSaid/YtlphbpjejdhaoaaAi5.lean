/- An abstract interpreter of the model's code, shown sound: walks that keep what slices own; slices inside of slices on loan. No condition. -/
import Derived.Test.YtlphbpjejdhaoaaAi4
set_option linter.unusedSimpArgs false
set_option linter.unusedVariables false

/-
  The abstract interpreter, part Zn: walks that keep what is owned inside of slices; a call that is lent a slice inside of a slice.
-/
namespace Go.AI
open Go.RowKit

def St.deep (σ : St) : St where
  n := σ.n
  sl := σ.sl
  vr := σ.vr
  sa k := if k = 0 then σ.tick + 1 else σ.sa k
  sb := σ.sb
  sc := σ.sc
  tick := σ.tick + 2

section
variable {P : Program} {G : Gh} {σ : St} {a : Act} {w : World} {i k : Nat} {p : Pl} {ij : Nat × Nat}
theorem deep_n : σ.deep.n = σ.n := rfl
theorem deep_sl : σ.deep.sl i = σ.sl i := rfl
theorem deep_vr : σ.deep.vr i = σ.vr i := rfl
theorem deep_sa : σ.deep.sa k = if k = 0 then σ.tick + 1 else σ.sa k := rfl
theorem deep_sb : σ.deep.sb p ij = σ.sb p ij := rfl
theorem deep_sc : σ.deep.sc p ij = σ.sc p ij := rfl
theorem deep_tick : σ.deep.tick = σ.tick + 2 := rfl

theorem deep_cell {p : Pl} {π : Path} : σ.deep.cell p π = σ.cell p π := St.cell_congr (by cases p <;> rfl) π

theorem deep_stp {p : Pl} {π : Path} {n : Nat} (hn : n < σ.tick) (h : σ.deep.stp p π = n) : σ.stp p π = n := by
  rcases π with _ | ⟨ij, _ | ⟨kl, π⟩⟩
  · cases p with
    | s i => exact h
    | v i =>
      simp only [St.stp, St.deep] at h ⊢
      split at h
      · omega
      · exact h
  · exact h
  · exact h

theorem deep_locV {u : Value} {x : D} (h : LocV G w σ u x) (hr : x.refLt σ.tick) : LocV G w σ.deep u x := by
  cases x with
  | bor p π n rg => exact fun hs sz rows hc => h (deep_stp hr hs) sz rows (by rw [← deep_cell]; exact hc)
  | addr p π i j n => exact fun hs ad hA => h (deep_stp hr hs) ad (by
      cases π with
      | nil => exact hA
      | cons kl π =>
        obtain ⟨sz, rows, b, o, m, c, h1, h2⟩ := hA
        exact ⟨sz, rows, b, o, m, c, by rw [← deep_cell]; exact h1, h2⟩)
  | sl u sz rows => cases u with
    | true => exact h.elim
    | false => exact h
  | _ => exact h

theorem R.deepOn (h : R G σ a w) : R G σ.deep a w := by
  refine ⟨h.size, h.defers, h.slots, h.vars, fun p π x hx => ?_, fun p ij kl ρ x hx => h.deep p ij kl ρ x (by rw [← deep_cell]; exact hx), h.immOwn, h.immLt, h.ownLt, fun k => ?_, fun p ij => ?_, fun p ij => ?_, fun p π q ρ n rg hx => ?_, fun p π q ρ i j n hx => ?_⟩
  · rw [deep_cell] at hx
    have hl := h.loc p π x hx
    by_cases ho : x.isOwn = true
    · cases x with
      | sl u sz rows => cases u with
        | false => simp [D.isOwn] at ho
        | true => exact hl
      | _ => simp [D.isOwn] at ho
    · exact Loc.ofV (deep_locV (hl.toV (by simpa using ho)) (h.refLt hx))
  · simp only [St.deep]
    split
    · omega
    · have := h.stA k; omega
  · have := h.stB p ij; simp only [St.deep]; omega
  · have := h.stC p ij; simp only [St.deep]; omega
  · rw [deep_cell] at hx; have := h.stBor p π q ρ n rg hx; simp only [St.deep]; omega
  · rw [deep_cell] at hx; have := h.stAddr p π q ρ i j n hx; simp only [St.deep]; omega

/-- From here on, what is put into a slice goes there with all that it owns. -/
theorem swp_deep {c : Code} {Q : Exit → St → Prop} (h : SWP P c Q σ.deep) : SWP P c Q σ := fun G a w hR => h G a w hR.deepOn |> fun h => wp_mono h fun e a' w' hl => by
  obtain ⟨σ', G', h1, h2, h3, h4, h5⟩ := hl
  exact ⟨σ', G', h1, h2, h3, h4, (Fx.of rfl (fun _ _ => rfl) (fun i _ ds' hd => ⟨ds', hd⟩) (fun _ _ _ _ => rfl) : Fx σ σ.deep G G).trans h5⟩
end
attribute [go_sem] deep_n deep_sl deep_vr deep_sa deep_sb deep_sc deep_tick

/-! ### A slice inside of a slice is taken out for a while -/
section
variable {P : Program} {G : Gh} {σ : St} {a : Act} {w : World}

/-- The subtree is hidden. -/
theorem R.hideSub (h : R G σ a w) {p : Pl} {k j sz i l : Nat} {rows : List (List D)} {row : List D} {x : D} (hp : cellIn (σ.rows p) (k, j) = some (.sl true sz rows)) (hrow : rows[i]? = some row) (hx : row[l]? = some x) (hxo : x.isOwn = true) :
    ∃ G' om f, R G' ((σ.setTop p k j (.sl true sz (rows.set i (row.set l (.lit (f [])))))).bumpC p k j) a w ∧ Tree G.imm w om f x ∧ f [] = G.val p [(k, j), (i, l)] ∧ G'.imm = G.imm ∧ G'.blk = G.blk ∧ G'.val = G.val ∧
      (∀ b π, om b = some π → G'.own b = Option.none ∧ ∃ ρ, G.own b = some (p, ρ)) ∧ (∀ b q, G'.own b = some q → G.own b = some q) ∧ (∀ b q π, q ≠ p → G.own b = some (q, π) → G'.own b = some (q, π)) := by
  have hcx : cellIn rows (i, l) = some x := cellIn_some.2 ⟨row, hrow, hx⟩
  have hcellO : ∀ ρ, σ.cell p ((k, j) :: ρ) = D.atU (.sl true sz rows) ρ := fun ρ => by simp [St.cell, hp]
  have hi := (List.getElem?_eq_some_iff.1 hrow).1
  have hl := (List.getElem?_eq_some_iff.1 hx).1
  have htree := (h.tree hp).sub hcx
  let sub : Pl × Path → Bool := fun q => match under p k j q with
    | some ρ => (strip (i, l) ρ).isSome
    | Option.none => false
  have hsub : ∀ q π, sub (q, π) = true ↔ q = p ∧ ∃ ρ, π = (k, j) :: (i, l) :: ρ := by
    intro q π
    simp only [sub]
    cases hu : under p k j (q, π) with
    | none =>
      simp only [Bool.false_eq_true, false_iff]
      rintro ⟨rfl, ρ, rfl⟩
      exact under_none.1 hu rfl ⟨_, rfl⟩
    | some τ =>
      obtain ⟨rfl, rfl⟩ := under_some.1 hu
      simp only [true_and, List.cons.injEq]
      cases hs : strip (i, l) τ with
      | none =>
        simp only [Option.isSome_none, Bool.false_eq_true, false_iff]
        rintro ⟨ρ, e⟩
        rw [strip_some.2 e] at hs; cases hs
      | some ρ => simp [strip_some.1 hs]
  let G' : Gh := { G with own := fun b => match G.own b with
    | some q => if sub q = true then Option.none else some q
    | Option.none => Option.none }
  have hown : ∀ b q, G'.own b = some q ↔ G.own b = some q ∧ sub q = false := by
    intro b q
    simp only [G']
    cases hb : G.own b with
    | none => simp
    | some q' =>
      by_cases e : sub q' = true
      · simp only [e, if_true]
        constructor
        · intro h; cases h
        · rintro ⟨h1, h2⟩; cases h1; rw [e] at h2; cases h2
      · simp only [e]
        constructor
        · intro h; simp at h; subst h; exact ⟨rfl, by simpa using e⟩
        · rintro ⟨h1, h2⟩; exact h1
  refine ⟨G', _, _, ?_, htree, rfl, rfl, rfl, rfl, fun b π hb => ?_, fun b q hb => ((hown b q).1 hb).1, fun b q π hq hb => (hown b (q, π)).2 ⟨hb, ?_⟩⟩
  · refine h.topC hp rfl rfl rfl rfl (h.same fun _ _ _ => rfl) (fun _ _ _ => rfl) (fun b q π hq hb => (hown b (q, π)).2 ⟨hb, ?_⟩) (fun b q π _ _ _ => SameAt.refl w b) (fun _ hb => hb) (fun b _ => SameAt.refl w b) ?_ h.immLt ?_ ?_ ?_
    · cases hs : sub (q, π) with
      | false => rfl
      | true => obtain ⟨e, ρ, e2⟩ := (hsub q π).1 hs; exact absurd ⟨_, e2⟩ (hq e)
    · intro b hb
      have := h.immOwn b hb
      simp [G', this]
    · intro b q hb; exact h.ownLt b q ((hown b q).1 hb).1
    · rintro i' ds rfl hv
      obtain ⟨_, h2, h3⟩ := h.vars i' ds hv
      exact ⟨h2, h3⟩
    · intro ρ x' hρ
      cases ρ with
      | nil =>
        simp [D.atU] at hρ; subst hρ
        refine ⟨?_, fun e => absurd rfl e⟩
        show LocOwn G' w p [(k, j)] sz _
        rcases (show LocOwn G w p [(k, j)] sz rows from h.loc p [(k, j)] (.sl true sz rows) (by rw [hcellO]; rfl)) with ⟨e1, e2⟩ | ⟨b, o, c, e1, e2, e3, e4, e5⟩
        · rw [e1] at hi; simp at hi
        · refine .inr ⟨b, o, c, by rw [List.length_set]; exact e1, by rw [List.length_set]; exact e2, (hown b _).2 ⟨e3, ?_⟩, e4, fun i' row' hr => ?_⟩
          · cases hs : sub (p, [(k, j)]) with
            | false => rfl
            | true => obtain ⟨_, ρ, e⟩ := (hsub _ _).1 hs; simp at e
          · by_cases e : i = i'
            · subst e
              rw [List.getElem?_set_self hi] at hr
              simp only [Option.some.injEq] at hr; subst hr
              rw [List.length_set]
              exact e5 i row hrow
            · rw [List.getElem?_set_ne e] at hr
              exact e5 i' row' hr
      | cons il ρ =>
        obtain ⟨i', l'⟩ := il
        simp only [D.atU] at hρ
        by_cases e : i' = i ∧ l' = l
        · obtain ⟨rfl, rfl⟩ := e
          have hc : cellIn (rows.set i' (row.set l' (.lit (G.val p [(k, j), (i', l')])))) (i', l') = some (.lit (G.val p [(k, j), (i', l')])) :=
            cellIn_some.2 ⟨_, List.getElem?_set_self hi, List.getElem?_set_self hl⟩
          rw [hc] at hρ
          simp only at hρ
          cases ρ with
          | nil => simp [D.atU] at hρ; subst hρ; exact ⟨RO.lit.2 rfl, fun _ => rfl⟩
          | cons kl ρ => simp [D.atU] at hρ
        · have hc : cellIn (rows.set i (row.set l (.lit (G.val p [(k, j), (i, l)])))) (i', l') = cellIn rows (i', l') := by
            simp only [cellIn]
            by_cases e1 : i = i'
            · subst e1
              have e2 : l ≠ l' := fun e2 => e ⟨rfl, e2.symm⟩
              rw [List.getElem?_set_self hi, hrow]
              simp only [Option.bind_some]
              rw [List.getElem?_set_ne e2]
            · rw [List.getElem?_set_ne e1]
          rw [hc] at hρ
          have hcx' : σ.cell p ((k, j) :: (i', l') :: ρ) = some x' := by
            rw [hcellO]; simpa only [D.atU] using hρ
          have hll := h.loc p _ x' hcx'
          have hsol := h.deep p (k, j) (i', l') ρ x' hcx'
          by_cases ho : x'.isOwn = true
          · cases x' with
            | sl u sz' rows' =>
              cases u with
              | false => simp [D.isOwn] at ho
              | true =>
                refine ⟨LocOwn.carry hll rfl (fun _ => rfl) (fun b hb => (hown b _).2 ⟨hb, ?_⟩) (fun b _ => SameAt.refl w b), fun _ => rfl⟩
                cases hs : sub (p, (k, j) :: (i', l') :: ρ) with
                | false => rfl
                | true =>
                  obtain ⟨_, τ, e3⟩ := (hsub _ _).1 hs
                  simp only [List.cons.injEq, true_and, Prod.mk.injEq] at e3
                  exact absurd e3.1 e
            | _ => simp [D.isOwn] at ho
          · have ho' : x'.isOwn = false := by simpa using ho
            exact ⟨Loc.ofV (LocV.ofSolid ((hll.toV ho').solid hsol) hsol ho'), fun _ => hsol⟩
  · obtain ⟨ρ, c1, c2⟩ := Option.bind_eq_some_iff.1 hb
    obtain ⟨⟨q, τ⟩, c3, c4⟩ := Option.bind_eq_some_iff.1 c1
    obtain ⟨rfl, rfl⟩ := under_some.1 c4
    rw [strip_some] at c2
    subst c2
    refine ⟨?_, _, c3⟩
    cases ho : G'.own b with
    | none => rfl
    | some q' =>
      obtain ⟨e1, e2⟩ := (hown b q').1 ho
      rw [c3] at e1; cases e1
      rw [(hsub _ _).2 ⟨rfl, _, rfl⟩] at e2; cases e2
  · cases hs : sub (q, π) with
    | false => rfl
    | true => exact absurd ((hsub q π).1 hs).1 hq

def St.withG (σ : St) (g : Nat) (x : D) : St where
  n := σ.n
  sl := σ.sl
  vr i := if i = g then some (false, [x]) else σ.vr i
  sa := σ.sa
  sb := σ.sb
  sc := σ.sc
  tick := σ.tick
def St.noG (σ : St) (g : Nat) : St where
  n := σ.n
  sl := σ.sl
  vr i := if i = g then Option.none else σ.vr i
  sa := σ.sa
  sb := σ.sb
  sc := σ.sc
  tick := σ.tick

theorem withG_stp {g : Nat} {x : D} {p : Pl} {π : Path} : (σ.withG g x).stp p π = σ.stp p π := by
  rcases π with _ | ⟨ij, _ | ⟨kl, π⟩⟩ <;> cases p <;> rfl
theorem noG_stp {g : Nat} {p : Pl} {π : Path} : (σ.noG g).stp p π = σ.stp p π := by
  rcases π with _ | ⟨ij, _ | ⟨kl, π⟩⟩ <;> cases p <;> rfl
theorem withG_cell {g : Nat} {x : D} {p : Pl} {π : Path} (hp : p ≠ .v g) : (σ.withG g x).cell p π = σ.cell p π := by
  refine St.cell_congr ?_ π
  cases p with
  | s i => rfl
  | v i =>
    have : i ≠ g := fun e => hp (by rw [e])
    simp [St.rows, St.withG, this]
theorem withG_dead {g : Nat} {π : Path} {y : D} (h : (σ.withG g .dead).cell (.v g) π = some y) : π = [(0, 0)] ∧ y = .dead := by
  have hr : (σ.withG g .dead).rows (.v g) = [[.dead]] := by simp [St.rows, St.withG]
  cases π with
  | nil => simp [St.cell] at h
  | cons ij π =>
    simp only [St.cell, hr] at h
    obtain ⟨i, j⟩ := ij
    cases hc : cellIn [[D.dead]] (i, j) with
    | none => rw [hc] at h; cases h
    | some z =>
      rw [hc] at h
      obtain ⟨row, h1, h2⟩ := cellIn_some.1 hc
      cases i with
      | succ i => simp at h1
      | zero =>
        simp at h1; subst h1
        cases j with
        | succ j => simp at h2
        | zero =>
          simp at h2; subst h2
          cases π with
          | nil => simp [D.atU] at h; exact ⟨rfl, h.symm⟩
          | cons kl π => simp [D.atU] at h
theorem noG_cell {g : Nat} {p : Pl} {π : Path} {y : D} (h : (σ.noG g).cell p π = some y) : p ≠ .v g ∧ σ.cell p π = some y := by
  by_cases hp : p = .v g
  · subst hp
    cases π with
    | nil => simp [St.cell] at h
    | cons ij π => simp [St.cell, St.rows, St.noG, cellIn] at h
  · refine ⟨hp, ?_⟩
    rw [← h]
    refine (St.cell_congr ?_ π).symm
    cases p with
    | s i => rfl
    | v i =>
      have : i ≠ g := fun e => hp (by rw [e])
      simp [St.rows, St.noG, this]

theorem R.noG (h : R G σ a w) {g : Nat} {ds : List D} (hg : σ.vr g = some (false, ds)) : R G (σ.noG g) a w := by
  have carry : ∀ {u : Value} {x : D}, LocV G w σ u x → LocV G w (σ.noG g) u x := fun {u x} hx => by
    refine hx.carry (fun _ hb => hb) (fun b _ => SameAt.refl w b) (fun q ρ n rg _ h1 sz rows h2 => ⟨by rw [noG_stp] at h1; exact h1, ⟨rows, (noG_cell h2).2⟩, rfl⟩) (fun q ρ i j n _ h1 ad h2 => ⟨by rw [noG_stp] at h1; exact h1, ?_⟩)
    refine h2.congr (fun _ i ds hq hi => ?_) (fun _ sz rows h3 => ⟨⟨rows, (noG_cell h3).2⟩, rfl⟩)
    simp only [St.noG] at hi
    split at hi
    · cases hi
    · exact ⟨⟨ds, hi⟩, rfl⟩
  refine ⟨h.size, h.defers, h.slots, fun i es hi => ?_, fun p π x hx => ?_, fun p ij kl ρ x hx => h.deep p ij kl ρ x (noG_cell hx).2, h.immOwn, h.immLt, h.ownLt, h.stA, h.stB, h.stC,
    fun p π q ρ n rg hx => h.stBor p π q ρ n rg (noG_cell hx).2, fun p π q ρ i j n hx => h.stAddr p π q ρ i j n (noG_cell hx).2⟩
  · simp only [St.noG] at hi
    split at hi
    · cases hi
    · exact h.vars i es hi
  · obtain ⟨hp, hx⟩ := noG_cell hx
    have hl := h.loc p π x hx
    by_cases hown : x.isOwn = true
    · cases x with
      | sl u sz rows =>
        cases u with
        | false => simp [D.isOwn] at hown
        | true => exact hl
      | _ => simp [D.isOwn] at hown
    · exact Loc.ofV (carry (hl.toV (by simpa using hown)))

theorem R.withDead (h : R G σ a w) {g : Nat} (hg : σ.vr g = Option.none) : R G (σ.withG g .dead) a w := by
  have back : ∀ {p : Pl} {π : Path} {y : D}, (σ.withG g .dead).cell p π = some y → (y = .dead ∧ p = .v g ∧ π = [(0, 0)]) ∨ (p ≠ .v g ∧ σ.cell p π = some y) := fun {p π y} hy => by
    by_cases hp : p = .v g
    · subst hp
      obtain ⟨h1, h2⟩ := withG_dead hy
      exact .inl ⟨h2, rfl, h1⟩
    · exact .inr ⟨hp, by rw [← withG_cell (x := .dead) hp]; exact hy⟩
  have carry : ∀ {u : Value} {x : D}, LocV G w σ u x → LocV G w (σ.withG g .dead) u x := fun {u x} hx => by
    refine hx.carry (fun _ hb => hb) (fun b _ => SameAt.refl w b) (fun q ρ n rg _ h1 sz rows h2 => ⟨by rw [withG_stp] at h1; exact h1, ⟨rows, ?_⟩, rfl⟩) (fun q ρ i j n _ h1 ad h2 => ⟨by rw [withG_stp] at h1; exact h1, ?_⟩)
    · rcases back h2 with ⟨e, _⟩ | ⟨_, e⟩
      · cases e
      · exact e
    · refine h2.congr (fun _ i ds hq hi => ?_) (fun _ sz rows h3 => ⟨⟨rows, ?_⟩, rfl⟩)
      · simp only [St.withG] at hi
        split at hi
        · cases hi
        · exact ⟨⟨ds, hi⟩, rfl⟩
      · rcases back h3 with ⟨e, _⟩ | ⟨_, e⟩
        · cases e
        · exact e
  refine ⟨h.size, h.defers, h.slots, fun i es hi => ?_, fun p π x hx => ?_, fun p ij kl ρ x hx => ?_, h.immOwn, h.immLt, h.ownLt, h.stA, h.stB, h.stC, fun p π q ρ n rg hx => ?_, fun p π q ρ i j n hx => ?_⟩
  · simp only [St.withG] at hi
    split at hi
    · cases hi
    · exact h.vars i es hi
  · rcases back hx with ⟨e, rfl, rfl⟩ | ⟨hp, hx⟩
    · subst e; exact trivial
    · have hl := h.loc p π x hx
      by_cases hown : x.isOwn = true
      · cases x with
        | sl u sz rows =>
          cases u with
          | false => simp [D.isOwn] at hown
          | true => exact hl
        | _ => simp [D.isOwn] at hown
      · exact Loc.ofV (carry (hl.toV (by simpa using hown)))
  · rcases back hx with ⟨_, _, e⟩ | ⟨hp, hx⟩
    · simp at e
    · exact h.deep p ij kl ρ x hx
  · rcases back hx with ⟨e, _⟩ | ⟨hp, hx⟩
    · cases e
    · exact h.stBor p π q ρ n rg hx
  · rcases back hx with ⟨e, _⟩ | ⟨hp, hx⟩
    · cases e
    · exact h.stAddr p π q ρ i j n hx

def St.addG (σ : St) (g : Nat) (x : D) : St := (σ.withG g x).bump (.v g) 0 0

theorem withG_set {g : Nat} {x y : D} : (σ.withG g x).setTop (.v g) 0 0 y = σ.withG g y := by
  simp only [St.setTop, St.withG]
  congr 1
  funext i
  by_cases e : i = g <;> simp [e]

/-- A tree that nobody owns gets a place of its own. -/
theorem R.newG (h : R G σ a w) {g : Nat} (hg : σ.vr g = Option.none) {om : Nat → Option Path} {f : Path → Value} {x : D} (ht : Tree G.imm w om f x) (hxo : x.isOwn = true)
    (hfree : ∀ b π, om b = some π → G.own b = Option.none ∧ ¬ G.imm b ∧ b < w.heap.size) :
    ∃ G', R G' (σ.addG g x) a w ∧ G'.val (.v g) [(0, 0)] = f [] ∧ G'.imm = G.imm ∧ G'.blk = G.blk ∧ (∀ b q π, q ≠ .v g → G.own b = some (q, π) → G'.own b = some (q, π)) ∧ (∀ b, G.own b = Option.none → G'.own b = Option.none ∨ ∃ π, om b = some π) ∧
      (∀ q π, q ≠ .v g → G'.val q π = G.val q π) := by
  let G' : Gh := { G with
    val := fun q π => match under (.v g) 0 0 (q, π) with
      | some ρ => f ρ
      | Option.none => G.val q π
    own := fun b => match G.own b with
      | some q => if (under (.v g) 0 0 q).isSome = true then Option.none else some q
      | Option.none => (om b).map fun π => (.v g, (0, 0) :: π) }
  have hvO : ∀ q π, (q = .v g → ¬ ∃ ρ, π = (0, 0) :: ρ) → G'.val q π = G.val q π := fun q π hq => by simp only [G', under_none.2 hq]
  have hvU : ∀ ρ, G'.val (.v g) ((0, 0) :: ρ) = f ρ := fun ρ => by
    have : under (.v g) 0 0 (.v g, (0, 0) :: ρ) = some ρ := under_some.2 ⟨rfl, rfl⟩
    simp only [G', this]
  have hownO : ∀ b q π, (q = .v g → ¬ ∃ ρ, π = (0, 0) :: ρ) → G.own b = some (q, π) → G'.own b = some (q, π) := fun b q π hq hb => by
    simp [G', hb, under_none.2 hq]
  have hownU : ∀ b π, om b = some π → G'.own b = some (.v g, (0, 0) :: π) := fun b π hb => by
    simp only [G', (hfree b π hb).1, hb, Option.map_some]
  have hown3 : ∀ b q, G'.own b = some q → G.own b = some q ∨ ∃ π, om b = some π := fun b q hb => by
    simp only [G'] at hb
    cases ho : G.own b with
    | some q' =>
      rw [ho] at hb
      simp only at hb
      split at hb
      · cases hb
      · exact .inl hb
    | none =>
      rw [ho] at hb
      simp only [Option.map_eq_some_iff] at hb
      obtain ⟨π, h1, _⟩ := hb
      exact .inr ⟨π, h1⟩
  have h0 := h.withDead hg
  have hcell : (cellIn ((σ.withG g .dead).rows (.v g)) (0, 0)).isSome = true := by simp [St.rows, St.withG, cellIn]
  have hsl : ∀ i k₂ j₂, G'.val (.s i) [(k₂, j₂)] = G.val (.s i) [(k₂, j₂)] := fun i k₂ j₂ => hvO _ _ (fun e => by cases e)
  have key := h0.top (p := .v g) (k := 0) (j := 0) (d' := x) (G' := G') (w' := w) (a' := a) hcell rfl rfl rfl (h0.same hsl) hvO hownO (fun b q π _ _ _ => SameAt.refl w b) (fun _ hb => hb) (fun b _ => SameAt.refl w b) (fun b hb => by
      have h1 := h.immOwn b hb
      cases ho : G'.own b with
      | none => rfl
      | some q =>
        rcases hown3 b q ho with h2 | ⟨π, h2⟩
        · rw [h1] at h2; cases h2
        · exact absurd hb (hfree b π h2).2.1) h.immLt (fun b q hb => by
      rcases hown3 b q hb with h1 | ⟨π, h1⟩
      · exact h.ownLt b q h1
      · exact (hfree b π h1).2.2) (fun i ds e hv => by
      cases e
      simp [St.withG] at hv) (fun ρ y hy => by
      have h1 := ht ρ y hy
      by_cases ho : y.isOwn = true
      · cases y with
        | sl u sz rows =>
          cases u with
          | false => simp [D.isOwn] at ho
          | true =>
            refine ⟨?_, fun _ => rfl⟩
            show LocOwn G' w (.v g) ((0, 0) :: ρ) sz rows
            rcases h1 with ⟨e1, e2⟩ | ⟨b, o, c, e1, e2, e3, e4, e5⟩
            · exact .inl ⟨e1, by rw [hvU]; exact e2⟩
            · exact .inr ⟨b, o, c, by rw [hvU]; exact e1, e2, hownU b ρ e3, e4, fun i row hr => ⟨(e5 i row hr).1, fun l hl => by rw [List.cons_append, hvU]; exact (e5 i row hr).2 l hl⟩⟩
        | _ => simp [D.isOwn] at ho
      · have ho' : y.isOwn = false := by simpa using ho
        obtain ⟨q1, q2⟩ := h1.ro ho'
        exact ⟨Loc.ofV (by rw [hvU]; exact LocV.ofSolid q1 q2 ho'), fun _ => q2⟩) (fun q ρ n rg e => by rw [e] at hxo; simp [D.isOwn] at hxo) (fun q ρ i l n e => by rw [e] at hxo; simp [D.isOwn] at hxo)
  rw [withG_set] at key
  refine ⟨G', key, hvU [], rfl, rfl, fun b q π hq hb => hownO b q π (fun e => absurd e hq) hb, fun b hb => ?_, fun q π hq => hvO q π (fun e => absurd e hq)⟩
  cases ho : G'.own b with
  | none => exact .inl rfl
  | some q =>
    rcases hown3 b q ho with h1 | h1
    · rw [hb] at h1; cases h1
    · exact .inr h1

end
end Go.AI

/-
  The abstract interpreter, part Zo: a call that is lent a slice inside of a slice.
-/
namespace Go.AI
open Go.RowKit

section
variable {P : Program} {G : Gh} {σ : St} {a : Act} {w : World}

/-- A call by contract, without captures, told of as it runs. -/
theorem lend_calls (h : R G σ a w) {g : FuncId} {xs : List Operand} {d : Nat} {X : List Pl} (hX : X.Nodup) (hd : d < σ.n) (hdX : ∀ q ∈ X, isD (some d) q = false) {Q : SV → (Nat → Option (Bool × List D)) → Prop}
    (hc : AC P g ((xs.map σ.rd).map (argSV σ X true)) (σ.ext X) Q)
    (hf : ∀ sv E', Q sv E' → sv.Fresh ∧ ∀ e b ds, vbase ≤ e → e - vbase < X.length → E' e = some (b, ds) → ∀ x ∈ ds, x.Fresh) :
    Calls P g (xs.map a.eval).toArray w fun e w' => ∃ v sv E' G', e = .returned v ∧ Q sv E' ∧ R G' (σ.after X (some d) sv E') (a.put (some d) v) w' ∧ Kp (X ++ [.s d]) G w G' w' ∧ Fx σ (σ.after X (some d) sv E') G G' := by
  obtain ⟨fF, hpin⟩ := h.portIn hX true (svs := xs.map σ.rd) (vs := xs.map a.eval) (by simp) (fun i sv hs => by
    rw [List.getElem?_map, Option.map_eq_some_iff] at hs
    obtain ⟨x, hx, rfl⟩ := hs
    exact ⟨a.eval x, by rw [List.getElem?_map, hx]; rfl, h.rd x⟩)
  refine Calls.mono (hc (G.portIn X true fF) (xs.map a.eval) w (by simp) hpin) fun e w' he => ?_
  cases e with
  | returned v =>
    obtain ⟨sv, E', G1, k1, k2, k3, k4⟩ := he
    obtain ⟨r1, r2, r3⟩ := h.after hX (f := fF) (svs := xs.map σ.rd) (d := some d) (fun i hi => by cases hi; exact hd) hdX k2 k3 k4 (fun _ => hf sv E' k1)
    exact ⟨v, sv, E', _, rfl, k1, r1, r2, r3⟩
  | panicked ch => exact he.elim
  | outgrown => exact he.elim

theorem rgval_none {sz : Nat} {v : Value} : rgval Option.none sz v = v := by cases v <;> rfl

/-- The state behind a call that was lent a slice inside of a slice. -/
def St.lentD (σ τ : St) (d : Nat) (sv : SV) (s q g : Nat) (b : Bool) (ds : List D) : St where
  n := σ.n
  sl i := if i = s then .none else if i = d then sv.map D.extD else σ.sl i
  vr k := if k = q then some (b, ds) else σ.vr k
  sa := σ.sa
  sb p ij := if p = .s d ∨ p = .v g then τ.sb p ij else σ.sb p ij
  sc p ij := if p = .s d ∨ p = .v g ∨ p = .v q then τ.sc p ij else σ.sc p ij
  tick := τ.tick

theorem lentD_n {τ : St} {d : Nat} {sv : SV} {s q g : Nat} {b : Bool} {ds : List D} : (σ.lentD τ d sv s q g b ds).n = σ.n := rfl
theorem lentD_sl {τ : St} {d : Nat} {sv : SV} {s q g i : Nat} {b : Bool} {ds : List D} : (σ.lentD τ d sv s q g b ds).sl i = if i = s then .none else if i = d then sv.map D.extD else σ.sl i := rfl
theorem lentD_vr {τ : St} {d : Nat} {sv : SV} {s q g i : Nat} {b : Bool} {ds : List D} : (σ.lentD τ d sv s q g b ds).vr i = if i = q then some (b, ds) else σ.vr i := rfl
theorem lentD_sa {τ : St} {d : Nat} {sv : SV} {s q g i : Nat} {b : Bool} {ds : List D} : (σ.lentD τ d sv s q g b ds).sa i = σ.sa i := rfl
theorem lentD_sb {τ : St} {d : Nat} {sv : SV} {s q g : Nat} {b : Bool} {ds : List D} {p : Pl} {ij : Nat × Nat} : (σ.lentD τ d sv s q g b ds).sb p ij = if p = .s d ∨ p = .v g then τ.sb p ij else σ.sb p ij := rfl
theorem lentD_sc {τ : St} {d : Nat} {sv : SV} {s q g : Nat} {b : Bool} {ds : List D} {p : Pl} {ij : Nat × Nat} : (σ.lentD τ d sv s q g b ds).sc p ij = if p = .s d ∨ p = .v g ∨ p = .v q then τ.sc p ij else σ.sc p ij := rfl
theorem lentD_tick {τ : St} {d : Nat} {sv : SV} {s q g : Nat} {b : Bool} {ds : List D} : (σ.lentD τ d sv s q g b ds).tick = τ.tick := rfl

/-- The state in which the callee is called: the slice stands in a place of its own. -/
def St.outD (σ : St) (s q g j sz i l : Nat) (rows : List (List D)) (row : List D) (x : D) (v : Value) : St :=
  (((((σ.setTop (.v q) 0 j (.sl true sz (rows.set i (row.set l (.lit v))))).bumpC (.v q) 0 j)).addG g x).put s (.one (.bor (.v g) [(0, 0)] (σ.tick + 1) Option.none)))

theorem outD_sb {s q g j sz i l : Nat} {rows : List (List D)} {row : List D} {x : D} {v : Value} : (σ.outD s q g j sz i l rows row x v).sb (.v g) (0, 0) = σ.tick + 1 := by
  simp [St.outD, St.put, St.addG, St.bump, St.bumpC, St.withG, St.setTop]

theorem outD_tick {s q g j sz i l : Nat} {rows : List (List D)} {row : List D} {x : D} {v : Value} : (σ.outD s q g j sz i l rows row x v).tick = σ.tick + 2 := by
  simp [St.outD, St.put, St.addG, St.bump, St.bumpC, St.withG, St.setTop]

theorem outD_vr_g {s q g j sz i l : Nat} {rows : List (List D)} {row : List D} {x : D} {v : Value} : (σ.outD s q g j sz i l rows row x v).vr g = some (false, [x]) := by
  simp [St.outD, St.put, St.addG, St.bump, St.bumpC, St.withG, St.setTop]
theorem outD_vr_q {s q g j sz i l : Nat} {rows : List (List D)} {row : List D} {x : D} {v : Value} {b : Bool} {ds : List D} (hq : σ.vr q = some (b, ds)) (hg : q ≠ g) : (σ.outD s q g j sz i l rows row x v).vr q = some (b, ds.set j (.sl true sz (rows.set i (row.set l (.lit v))))) := by
  simp [St.outD, St.put, St.addG, St.bump, St.bumpC, St.withG, St.setTop, hg, hq]
theorem outD_vr_o {s q g j sz i l k : Nat} {rows : List (List D)} {row : List D} {x : D} {v : Value} (hq : k ≠ q) (hg : k ≠ g) : (σ.outD s q g j sz i l rows row x v).vr k = σ.vr k := by
  simp [St.outD, St.put, St.addG, St.bump, St.bumpC, St.withG, St.setTop, hg, hq]

/-- A call that is lent a slice inside of a slice, and reads whatever else it is shown. -/
theorem call_lendD (s q g j i l : Nat) {f : Operand} {xs : List Operand} {d : Nat} {T : Pl → Prop} {K : St → Prop} {gid : FuncId} {args : List SV} {Q : SV → (Nat → Option (Bool × List D)) → Prop} {bq : Bool} {dsq : List D} {sz sz' : Nat} {rows rows' : List (List D)} {row : List D}
    (hrd : σ.rd f = .one (.clo gid [])) (hent : enters P gid = true) (hsn : s < σ.n) (hdn : d < σ.n) (hsd : s ≠ d) (hsl : σ.sl s = .one (.bor (.v q) [(0, j), (i, l)] (σ.sc (.v q) (0, j)) Option.none))
    (hq : σ.vr q = some (bq, dsq)) (hj : dsq[j]? = some (.sl true sz rows)) (hi : rows[i]? = some row) (hl : row[l]? = some (.sl true sz' rows')) (hgn : σ.n ≤ g) (hg : σ.vr g = Option.none)
    (hTq : T (.v q)) (hTg : T (.v g)) (hTs : T (.s s)) (hTd : T (.s d))
    (hargs : ∀ v, (xs.map (σ.outD s q g j sz i l rows row (.sl true sz' rows') v).rd).map (argSV (σ.outD s q g j sz i l rows row (.sl true sz' rows') v) [.v g] true) = args)
    (hc : ∀ E, E vbase = some (false, [.sl true sz' rows']) → AC P gid args E Q)
    (hK : ∀ sv E', Q sv E' → sv.Fresh ∧ ∃ rows'', E' vbase = some (false, [.sl true sz' rows'']) ∧ (D.sl true sz' rows'').Fresh ∧ ∀ τ, K (σ.lentD τ d sv s q g bq (dsq.set j (.sl true sz (rows.set i (row.set l (.sl true sz' rows'')))))) ) :
    callA P σ f xs (some d) T K := by
  refine .inr ⟨gid, hrd, hent, fun G a w h => ?_⟩
  have hgq : g ≠ q := fun e => by rw [e, hq] at hg; cases hg
  have hil := (List.getElem?_eq_some_iff.1 hi).1
  have hll := (List.getElem?_eq_some_iff.1 hl).1
  have hjl := (List.getElem?_eq_some_iff.1 hj).1
  have hp : cellIn (σ.rows (.v q)) (0, j) = some (.sl true sz rows) := by simp [St.rows, hq, cellIn, hj]
  obtain ⟨G1, om, f0, h1, ht1, hf0, hi1, hb1, hv1, hom1, hown1, hother1⟩ := h.hideSub hp hi hl rfl
  have hg1 : ((σ.setTop (.v q) 0 j (.sl true sz (rows.set i (row.set l (.lit (f0 [])))))).bumpC (.v q) 0 j).vr g = Option.none := by
    simp [St.bumpC, St.setTop, hgq, hg]
  obtain ⟨G2, h2, hv2, hi2, hb2, hown2, hnone2, hval2⟩ := h1.newG hg1 (by rw [hi1]; exact ht1) rfl (fun b π hb => by
    obtain ⟨q1, ρ, q2⟩ := hom1 b π hb
    refine ⟨q1, fun hm => ?_, h.ownLt b _ q2⟩
    rw [hi1] at hm
    rw [h.immOwn b hm] at q2; cases q2)
  have hslot : a.tmps.getD s undef = f0 [] := by
    have e1 := h.slots s hsn
    rw [hsl] at e1
    have e2 := h.loc (.s s) [(0, 0)] (.bor (.v q) [(0, j), (i, l)] (σ.sc (.v q) (0, j)) Option.none) (by simp [St.cell, St.rows, hsl, SV.rows, cellIn, D.atU])
    have e3 := e2 rfl sz' rows' (by
      rw [show σ.cell (.v q) [(0, j), (i, l)] = D.atU (.sl true sz rows) [(i, l)] from by simp [St.cell, hp]]
      simp [D.atU, cellIn, hi, hl])
    rw [hf0]
    rw [rgval_none] at e3
    exact e1.trans e3
  have ht2 : Tells G2 w (((σ.setTop (.v q) 0 j (.sl true sz (rows.set i (row.set l (.lit (f0 [])))))).bumpC (.v q) 0 j).addG g (.sl true sz' rows')) (.one (.bor (.v g) [(0, 0)] (σ.tick + 1) Option.none)) (a.tmps.getD s undef) := by
    refine tells_one (σ := ((σ.setTop (.v q) 0 j (.sl true sz (rows.set i (row.set l (.lit (f0 [])))))).bumpC (.v q) 0 j).addG g (.sl true sz' rows')) ?_ ?_
    · intro _ sz2 rows2 hc2
      rw [hslot, ← hv2, rgval_none]
    · show σ.tick + 1 < _
      simp [St.addG, St.bump, St.bumpC, St.withG, St.setTop]
  obtain ⟨G3, h3, hi3, hb3, hv3, hown3⟩ := h2.putT (by rw [show (((σ.setTop (.v q) 0 j (.sl true sz (rows.set i (row.set l (.lit (f0 [])))))).bumpC (.v q) 0 j).addG g (.sl true sz' rows')).n = σ.n from rfl]; exact hsn) ht2
  have ha : a.put (some s) (a.tmps.getD s undef) = a := by
    have hsz : s < a.tmps.size := by rw [h.size]; exact hsn
    have : a.tmps.setIfInBounds s (a.tmps.getD s undef) = a.tmps := by
      apply Array.ext_getElem?
      intro k
      rw [Array.getElem?_setIfInBounds]
      split
      · next e => subst e; simp [Array.getElem?_eq_getElem hsz, hsz]
      · rfl
    simp only [Act.put, this]
  rw [ha] at h3
  change R G3 (σ.outD s q g j sz i l rows row (.sl true sz' rows') (f0 [])) a w at h3
  refine Calls.mono (lend_calls h3 (X := [.v g]) (by simp) (d := d) hdn (fun p hp => by simp only [List.mem_singleton] at hp; subst hp; rfl) (by rw [hargs]; exact hc _ (by simp [St.ext, outD_vr_g, D.extD])) (fun sv E' hQ => by
    obtain ⟨e1, rows'', e2, e3, _⟩ := hK sv E' hQ
    refine ⟨e1, fun e b ds he1 he2 hE x hx => ?_⟩
    have : e = vbase := by simp at he2; omega
    subst this
    rw [e2] at hE
    simp only [Option.some.injEq, Prod.mk.injEq] at hE
    obtain ⟨rfl, rfl⟩ := hE
    simp only [List.mem_singleton] at hx; subst hx; exact e3)) fun e w' he => ?_
  obtain ⟨v, sv, E', G4, rfl, hQ, h4, hk4, hx4⟩ := he
  obtain ⟨_, rows'', hE', hfr2, hK'⟩ := hK sv E' hQ
  rw [after_one outD_vr_g hE'] at h4 hx4
  have hvr4 : ∀ k, ((σ.outD s q g j sz i l rows row (.sl true sz' rows') (f0 [])).resV d sv g false [.sl true sz' rows'']).vr k = if k = g then some (false, [.sl true sz' rows'']) else (σ.outD s q g j sz i l rows row (.sl true sz' rows') (f0 [])).vr k := fun k => rfl
  have hcg : cellIn (((σ.outD s q g j sz i l rows row (.sl true sz' rows') (f0 [])).resV d sv g false [.sl true sz' rows'']).rows (.v g)) (0, 0) = some (.sl true sz' rows'') := by
    simp [St.rows, hvr4, cellIn]
  have ht4 := h4.tree hcg
  have hval4 : G4.val (.v g) [(0, 0)] = f0 [] := by
    rw [(hx4.fl g hgn [.sl true sz' rows''] (by rw [hvr4]; simp)).2 (0, 0), hv3 _ _ (by simp), hv2]
  have h5 := h4.drop (p := .v g) (k := 0) (j := 0) (by rw [hcg]; rfl)
  have h6 := h5.noG (g := g) (ds := [.dead]) (by simp [St.bump, St.setTop, hvr4])
  have hq6 : (((((σ.outD s q g j sz i l rows row (.sl true sz' rows') (f0 [])).resV d sv g false [.sl true sz' rows'']).setTop (.v g) 0 0 .dead).bump (.v g) 0 0).noG g).vr q = some (bq, dsq.set j (.sl true sz (rows.set i (row.set l (.lit (f0 [])))))) := by
    simp [St.noG, St.bump, St.setTop, hvr4, Ne.symm hgq, outD_vr_q hq (Ne.symm hgq)]
  have hc6 : cellIn ((((((σ.outD s q g j sz i l rows row (.sl true sz' rows') (f0 [])).resV d sv g false [.sl true sz' rows'']).setTop (.v g) 0 0 .dead).bump (.v g) 0 0).noG g).rows (.v q)) (0, j) = some (.sl true sz (rows.set i (row.set l (.lit (f0 []))))) := by
    simp only [St.rows]
    rw [hq6]
    simp [cellIn, hjl]
  have hrl : ∀ (i' : Nat) (row' : List D), rows[i']? = some row' → row'.length = sz := fun i' row' hr => by
    rcases (show LocOwn G w (.v q) [(0, j)] sz rows from h.loc (.v q) [(0, j)] (.sl true sz rows) (by simp [St.cell, hp, D.atU])) with ⟨e1, _⟩ | ⟨_, _, _, _, _, _, _, e5⟩
    · rw [e1] at hr; simp at hr
    · exact (e5 i' row' hr).1
  have hoff : ∀ b π, G4.own b = some (.v g, (0, 0) :: π) → (G4.drop (.v g) 0 0).own b = Option.none ∧ ¬ (G4.drop (.v g) 0 0).imm b ∧ b < w'.heap.size := fun b π hb => by
    refine ⟨?_, fun hm => ?_, h4.ownLt b _ hb⟩
    · cases ho : (G4.drop (.v g) 0 0).own b with
      | none => rfl
      | some x =>
        obtain ⟨x, τ⟩ := x
        obtain ⟨e1, e2⟩ := Gh.drop_own.1 ho
        rw [hb] at e1; cases e1
        exact absurd ⟨_, rfl⟩ (e2 rfl)
    · have := h4.immOwn b hm
      rw [hb] at this; cases this
  have hom4 : ∀ b π, (G4.own b).bind (under (.v g) 0 0) = some π → G4.own b = some (.v g, (0, 0) :: π) := fun b π hb => by
    obtain ⟨⟨x, τ⟩, e1, e2⟩ := Option.bind_eq_some_iff.1 hb
    obtain ⟨rfl, rfl⟩ := under_some.1 e2
    exact e1
  obtain ⟨G7, h7, hi7, hb7, hv7, hown7, hnone7, hx7⟩ := h6.unhide (rows := rows.set i (row.set l (.sl true sz' rows''))) hc6 (by simp) (fun i' row' hr => by
      by_cases e : i = i'
      · subst e
        rw [List.getElem?_set_self hil] at hr
        simp only [Option.some.injEq] at hr; subst hr; rw [List.length_set]; exact hrl i row hi
      · rw [List.getElem?_set_ne e] at hr
        exact hrl i' row' hr) (om := fun i' l' b => if i' = i ∧ l' = l then (G4.own b).bind (under (.v g) 0 0) else Option.none) (fun i' l' x hx => by
      by_cases e : i' = i ∧ l' = l
      · obtain ⟨rfl, rfl⟩ := e
        right
        have : cellIn (rows.set i' (row.set l' (.sl true sz' rows''))) (i', l') = some (.sl true sz' rows'') := cellIn_some.2 ⟨_, List.getElem?_set_self hil, List.getElem?_set_self hll⟩
        rw [this] at hx; cases hx
        refine ⟨fun ρ => G4.val (.v g) ((0, 0) :: ρ), ?_, by simp only [and_self, if_true]; exact ht4, rfl⟩
        show _ = some (D.lit (G4.val (.v g) [(0, 0)]))
        rw [hval4]
        exact cellIn_some.2 ⟨_, List.getElem?_set_self hil, List.getElem?_set_self hll⟩
      · left
        rw [← hx]
        simp only [cellIn]
        by_cases e1 : i = i'
        · subst e1
          have e2 : l ≠ l' := fun e2 => e ⟨rfl, e2.symm⟩
          rw [List.getElem?_set_self hil, List.getElem?_set_self hil]
          simp only [Option.bind_some]
          rw [List.getElem?_set_ne e2, List.getElem?_set_ne e2]
        · rw [List.getElem?_set_ne e1, List.getElem?_set_ne e1]) (fun i1 l1 i2 l2 b π π' e1 e2 => by
      by_cases c1 : i1 = i ∧ l1 = l
      · by_cases c2 : i2 = i ∧ l2 = l
        · exact ⟨by omega, by omega⟩
        · simp [c2] at e2
      · simp [c1] at e1) (fun i1 l1 b π e1 => by
      by_cases c1 : i1 = i ∧ l1 = l
      · simp only [c1, and_self, if_true] at e1
        exact hoff b π (hom4 b π e1)
      · simp [c1] at e1)
  have h8 := h7.forget [.s s]
  have hownC : ∀ b p π, G3.own b = some (p, π) → p ∈ [Pl.v q, Pl.v g, Pl.s s, Pl.s d] → ∃ p' π', p' ∈ [Pl.v q, Pl.v g, Pl.s s, Pl.s d] ∧ G.own b = some (p', π') := fun b p π hb hp' => by
    have hb2 := ((hown3 b p π).1 hb).1
    cases ho : G1.own b with
    | none =>
      rcases hnone2 b ho with h9 | ⟨π', h9⟩
      · rw [hb2] at h9; cases h9
      · obtain ⟨_, ρ, h10⟩ := hom1 b π' h9
        exact ⟨_, _, by simp, h10⟩
    | some x =>
      obtain ⟨p0, π0⟩ := x
      have h9 := hown1 b _ ho
      by_cases e : p0 = .v g
      · subst e; exact ⟨_, _, by simp, h9⟩
      · have h10 := hown2 b p0 π0 e ho
        rw [hb2] at h10; cases h10
        exact ⟨p, π, hp', h9⟩
  have hkp : Kp [Pl.v q, Pl.v g, Pl.s s, Pl.s d] G w (G7.only [.s s]) w' := by
    refine ⟨hk4.os, hk4.tape, hk4.output, hk4.size, fun b hb h0 => ?_, fun b p π hp' h0 => ?_, fun b hb => ?_, fun b hb => ?_⟩
    · have e1 : G1.own b = Option.none := by
        cases ho : G1.own b with
        | none => rfl
        | some x => have := hown1 b x ho; rw [h0] at this; cases this
      have e2 : G2.own b = Option.none := by
        rcases hnone2 b e1 with h9 | ⟨π', h9⟩
        · exact h9
        · obtain ⟨_, ρ, h10⟩ := hom1 b π' h9
          rw [h0] at h10; cases h10
      have e3 : G3.own b = Option.none := by
        cases ho : G3.own b with
        | none => rfl
        | some x => obtain ⟨x, π⟩ := x; have := ((hown3 b x π).1 ho).1; rw [e2] at this; cases this
      obtain ⟨e4, e5⟩ := hk4.free b hb e3
      refine ⟨e4, ?_⟩
      have e6 : (G4.drop (.v g) 0 0).own b = Option.none := by
        cases ho : (G4.drop (.v g) 0 0).own b with
        | none => rfl
        | some x => obtain ⟨x, π⟩ := x; have := (Gh.drop_own.1 ho).1; rw [e5] at this; cases this
      have e7 : G7.own b = Option.none := by
        rcases hnone7 b e6 with h9 | ⟨i1, l1, π, h9⟩
        · exact h9
        · split at h9
          · have := hom4 b π h9; rw [e5] at this; cases this
          · cases h9
      cases ho : (G7.only [.s s]).own b with
      | none => rfl
      | some x => have := (only_own.1 ho).1; rw [e7] at this; cases this
    · simp only [List.mem_cons, List.not_mem_nil, or_false, not_or] at hp'
      obtain ⟨p1, p2, p3, p4⟩ := hp'
      have e1 := hown2 b p π p2 (hother1 b p π p1 h0)
      have e3 := (hown3 b p π).2 ⟨e1, p3⟩
      obtain ⟨e4, e5⟩ := hk4.keep b p π (by simp [p2, p4]) e3
      refine ⟨e4, only_own.2 ⟨hown7 b _ (Gh.drop_own.2 ⟨e5, fun e => absurd e p2⟩), by simp [p3]⟩⟩
    · show G7.imm b
      rw [hi7]
      refine hk4.imm b ?_
      rw [hi3, hi2, hi1]; exact hb
    · have hb' : G4.imm b := by
        have : G7.imm b := hb
        rw [hi7] at this; exact this
      rcases hk4.immB b hb' with e1 | e1 | ⟨p, π, e1, e2⟩
      · left; rw [hi3, hi2, hi1] at e1; exact e1
      · exact .inr (.inl e1)
      · refine .inr (.inr ?_)
        obtain ⟨p', π', e3, e4⟩ := hownC b p π e2 (by simp at e1; rcases e1 with rfl | rfl <;> simp)
        exact ⟨p', π', e3, e4⟩
  generalize hσ8 : (((((((σ.outD s q g j sz i l rows row (.sl true sz' rows') (f0 [])).resV d sv g false [.sl true sz' rows'']).setTop (.v g) 0 0 .dead).bump (.v g) 0 0).noG g).setTop (.v q) 0 j (.sl true sz (rows.set i (row.set l (.sl true sz' rows''))))).bumpC (.v q) 0 j).forget [.s s] = σ8 at h8
  have hvr8 : ∀ k, σ8.vr k = if k = q then some (bq, dsq.set j (.sl true sz (rows.set i (row.set l (.sl true sz' rows''))))) else σ.vr k := fun k => by
    rw [← hσ8]
    by_cases e : k = q
    · subst e
      simp only [St.forget, St.bumpC, St.setTop, St.noG, St.bump, hvr4, Ne.symm hgq, outD_vr_q hq (Ne.symm hgq), if_true, if_false]
      simp [Ne.symm hgq]
    · by_cases e2 : k = g
      · subst e2; simp [St.forget, St.bumpC, St.setTop, St.noG, St.bump, e, hg]
      · simp [St.forget, St.bumpC, St.setTop, St.noG, St.bump, e, e2, hvr4, outD_vr_o e e2]
  have hlent : σ8 = σ.lentD σ8 d sv s q g bq (dsq.set j (.sl true sz (rows.set i (row.set l (.sl true sz' rows''))))) := by
    have e1 : σ8.n = σ.n := by rw [← hσ8]; rfl
    have e2 : σ8.sl = fun i => if i = s then SV.none else if i = d then sv.map D.extD else σ.sl i := by
      rw [← hσ8]
      funext k
      by_cases e : k = s
      · subst e; simp [St.forget]
      · simp [St.forget, e, St.bumpC, St.setTop, St.noG, St.bump, St.resV, St.outD, St.put, St.addG, St.withG]
    have e3 : σ8.sa = σ.sa := by rw [← hσ8]; rfl
    have e4 : σ8.sb = fun p ij => if p = .s d ∨ p = .v g then σ8.sb p ij else σ.sb p ij := by
      funext p ij
      by_cases e : p = .s d ∨ p = .v g
      · rw [if_pos e]
      · rw [if_neg e, ← hσ8]
        have e' : p ≠ .s d ∧ p ≠ .v g := by simpa [not_or] using e
        simp [St.forget, St.bumpC, St.setTop, St.noG, St.bump, St.resV, St.outD, St.put, St.addG, St.withG, e'.1, e'.2]
    have e5 : σ8.sc = fun p ij => if p = .s d ∨ p = .v g ∨ p = .v q then σ8.sc p ij else σ.sc p ij := by
      funext p ij
      by_cases e : p = .s d ∨ p = .v g ∨ p = .v q
      · rw [if_pos e]
      · rw [if_neg e, ← hσ8]
        have e' : p ≠ .s d ∧ p ≠ .v g ∧ p ≠ .v q := by simpa [not_or] using e
        simp [St.forget, St.bumpC, St.setTop, St.noG, St.bump, St.resV, St.outD, St.put, St.addG, St.withG, e'.1, e'.2.1, e'.2.2]
    have e6 : σ8.vr = fun k => if k = q then some (bq, dsq.set j (.sl true sz (rows.set i (row.set l (.sl true sz' rows''))))) else σ.vr k := funext hvr8
    have : σ8 = ⟨σ8.n, σ8.sl, σ8.vr, σ8.sa, σ8.sb, σ8.sc, σ8.tick⟩ := rfl
    rw [this, e1, e2, e3, e6]
    simp only [St.lentD, St.mk.injEq, true_and, and_true]
    exact ⟨e4, e5⟩
  refine ⟨v, σ8, G7.only [.s s], _, rfl, by rw [hlent]; exact hK' σ8, fun p hp' => ?_, h8, hkp, ?_⟩
  · simp only [List.mem_cons, List.not_mem_nil, or_false] at hp'
    rcases hp' with rfl | rfl | rfl | rfl
    · exact hTq
    · exact hTg
    · exact hTs
    · exact hTd
  · refine ⟨by rw [← hσ8]; rfl, fun k hk => ?_, fun k hk ds' hd' => ?_⟩
    · show G7.blk k = _
      rw [hb7]
      show G4.blk k = _
      rw [hx4.blk k hk, hb3, hb2, hb1]
    · rw [hvr8] at hd'
      have hkg : k ≠ g := fun e => by
        subst e; rw [if_neg hgq, hg] at hd'; cases hd'
      have hfst : ∃ ds, σ.vr k = some (false, ds) := by
        by_cases e : k = q
        · subst e; simp only [if_true, Option.some.injEq, Prod.mk.injEq] at hd'
          obtain ⟨rfl, _⟩ := hd'
          exact ⟨_, hq⟩
        · rw [if_neg e] at hd'; exact ⟨_, hd'⟩
      refine ⟨hfst, fun kj => ?_⟩
      obtain ⟨ds0, hds0⟩ := hfst
      show G7.val (.v k) [kj] = _
      rw [hv7]
      show G4.val (.v k) [kj] = _
      have h4v : ∃ ds4, ((σ.outD s q g j sz i l rows row (.sl true sz' rows') (f0 [])).resV d sv g false [.sl true sz' rows'']).vr k = some (false, ds4) := by
        rw [hvr4, if_neg hkg]
        by_cases e : k = q
        · subst e; rw [hq] at hds0; cases hds0; exact ⟨_, outD_vr_q hq hkg⟩
        · rw [outD_vr_o e hkg]; exact ⟨_, hds0⟩
      obtain ⟨ds4, h4v⟩ := h4v
      rw [(hx4.fl k hk ds4 h4v).2 kj, hv3 _ _ (by simp), hval2 _ _ (by simpa using hkg), hv1]

end
section
variable {σ : St} {g i k : Nat} {x : D} {p : Pl} {ij : Nat × Nat}
theorem withG_n : (σ.withG g x).n = σ.n := rfl
theorem withG_sl : (σ.withG g x).sl i = σ.sl i := rfl
theorem withG_vr : (σ.withG g x).vr i = if i = g then some (false, [x]) else σ.vr i := rfl
theorem withG_sa : (σ.withG g x).sa i = σ.sa i := rfl
theorem withG_sb : (σ.withG g x).sb p ij = σ.sb p ij := rfl
theorem withG_sc : (σ.withG g x).sc p ij = σ.sc p ij := rfl
theorem withG_tick : (σ.withG g x).tick = σ.tick := rfl
end
attribute [go_sem] St.outD St.addG withG_n withG_sl withG_vr withG_sa withG_sb withG_sc withG_tick
attribute [go_sem] lentD_n lentD_sl lentD_vr lentD_sa lentD_sb lentD_sc lentD_tick
end Go.AI

/-
  The abstract interpreter, part Zp: what is shown of a slice of slices, whoever owns them.
-/
namespace Go.AI
open Go.RowKit

/-- Flags of ownership, taken off so many levels down. -/
def D.roN : Nat → D → D
  | n + 1, .sl _ sz rows => .sl false sz (rows.map fun r => r.map (D.roN n))
  | _, d => d

theorem roN_zero {d : D} : d.roN 0 = d := by cases d <;> rfl
theorem roN_sl {n sz : Nat} {u : Bool} {rows : List (List D)} : (D.sl u sz rows).roN (n + 1) = .sl false sz (rows.map fun r => r.map (D.roN n)) := rfl
theorem roN_lit {n : Nat} {v : Value} : (D.lit v).roN n = .lit v := by cases n <;> rfl
theorem roN_nil {n : Nat} : D.nil.roN n = .nil := by cases n <;> rfl

theorem roN_at : ∀ (π : Path) (n : Nat) (d x' : D), (d.roN n).at π = some x' → ∃ x m, d.at π = some x ∧ x' = x.roN m
  | [], n, d, x', h => by
    simp only [D.at, Option.some.injEq] at h
    exact ⟨d, n, rfl, h.symm⟩
  | ij :: π, 0, d, x', h => ⟨x', 0, by rw [roN_zero] at h; exact h, roN_zero.symm⟩
  | ij :: π, n + 1, d, x', h => by
    cases d with
    | sl u sz rows =>
      rw [roN_sl] at h
      simp only [D.at, D.subs] at h ⊢
      cases hc : cellIn (rows.map fun r => r.map (D.roN n)) ij with
      | none => rw [hc] at h; cases h
      | some y =>
        rw [hc] at h
        obtain ⟨i, j⟩ := ij
        obtain ⟨row, h1, h2⟩ := cellIn_some.1 hc
        rw [List.getElem?_map, Option.map_eq_some_iff] at h1
        obtain ⟨row0, h3, rfl⟩ := h1
        rw [List.getElem?_map, Option.map_eq_some_iff] at h2
        obtain ⟨y0, h4, rfl⟩ := h2
        rw [cellIn_some.2 ⟨row0, h3, h4⟩]
        exact roN_at π n y0 x' h
    | _ => exact ⟨x', 0, h, roN_zero.symm⟩

theorem ROloc.roN {imm : Nat → Prop} {w : World} {f : Path → Value} {π : Path} {d : D} (n : Nat) (h : ROloc imm w f π d) : ROloc imm w f π (d.roN n) := by
  cases n with
  | zero => rw [roN_zero]; exact h
  | succ n =>
    cases d with
    | sl u sz rows =>
      rw [roN_sl]
      obtain ⟨A, c, h1, h2, h3⟩ := h
      refine ⟨A, c, by rw [List.length_map]; exact h1, by rw [List.length_map]; exact h2, ?_⟩
      rcases h3 with rfl | ⟨b, o, e, hb, hc⟩
      · exact .inl rfl
      · refine .inr ⟨b, o, e, hb, fun i row hr => ?_⟩
        rw [List.getElem?_map, Option.map_eq_some_iff] at hr
        obtain ⟨row0, h4, rfl⟩ := hr
        rw [List.length_map]
        exact hc i row0 h4
    | _ => exact h

theorem RO.roN {imm : Nat → Prop} {w : World} {d : D} {v : Value} (n : Nat) (h : RO imm w d v) : RO imm w (d.roN n) v := by
  obtain ⟨f, h1, h2⟩ := h
  refine ⟨f, h1, fun π x' hx => ?_⟩
  obtain ⟨x, m, h3, rfl⟩ := roN_at π n d x' hx
  exact (h2 π x h3).roN m

section
variable {P : Program} {G : Gh} {a : Act} {w : World} {E : Nat → Option (Bool × List D)}

theorem R.viewArg {svs svs' : List SV} (h : R G (pst svs E) a w) (hl : svs'.length = svs.length)
    (hx : ∀ i : Nat, svs'[i]? = svs[i]? ∨ ∃ sz rows sz' rows', svs[i]? = some (.one (.sl false sz rows)) ∧ svs'[i]? = some (.one (.sl false sz' rows')) ∧ ∀ imm w v, RO imm w (.sl false sz rows) v → RO imm w (.sl false sz' rows') v) : R G (pst svs' E) a w := by
  have back : ∀ {p : Pl} {π : Path} {x : D}, (pst svs' E).cell p π = some x → (pst svs E).cell p π = some x ∨ ∃ i sz rows sz' rows', p = .s i ∧ π = [(0, 0)] ∧ x = .sl false sz' rows' ∧ svs[i]? = some (.one (.sl false sz rows)) ∧ ∀ imm w v, RO imm w (.sl false sz rows) v → RO imm w (.sl false sz' rows') v := fun {p π x} hc => by
    cases p with
    | v k => exact .inl (by rw [← hc]; exact St.cell_congr rfl π)
    | s i =>
      rcases hx i with e | ⟨sz, rows, sz', rows', e1, e2, e3⟩
      · left
        rw [← hc]
        refine St.cell_congr ?_ π
        simp [St.rows, pst, e]
      · right
        have hr : (pst svs' E).rows (.s i) = [[.sl false sz' rows']] := by simp [St.rows, pst, e2, SV.rows]
        cases π with
        | nil => simp [St.cell] at hc
        | cons ij π =>
          obtain ⟨k, j⟩ := ij
          simp only [St.cell, hr] at hc
          cases hz : cellIn [[D.sl false sz' rows']] (k, j) with
          | none => rw [hz] at hc; cases hc
          | some z =>
            rw [hz] at hc
            obtain ⟨row, h1, h2⟩ := cellIn_some.1 hz
            cases k with
            | succ k => simp at h1
            | zero =>
              simp at h1; subst h1
              cases j with
              | succ j => simp at h2
              | zero =>
                simp at h2; subst h2
                cases π with
                | nil => simp [D.atU] at hc; exact ⟨i, sz, rows, sz', rows', rfl, rfl, hc.symm, e1, e3⟩
                | cons kl π => simp [D.atU] at hc
  have backO : ∀ {p : Pl} {π : Path} {sz rows}, (pst svs' E).cell p π = some (.sl true sz rows) → (pst svs E).cell p π = some (.sl true sz rows) := fun {p π sz rows} hc => by
    rcases back hc with h1 | ⟨_, _, _, _, _, _, _, h1, _⟩
    · exact h1
    · cases h1
  have stp : ∀ p π, (pst svs' E).stp p π = (pst svs E).stp p π := fun p π => by
    rcases π with _ | ⟨ij, _ | ⟨kl, π⟩⟩ <;> cases p <;> rfl
  have carry : ∀ {u : Value} {x : D}, LocV G w (pst svs E) u x → LocV G w (pst svs' E) u x := fun {u x} hu =>
    hu.carry (fun _ hb => hb) (fun b _ => SameAt.refl w b) (fun q ρ n rg _ h1 sz rows h2 => ⟨by rw [stp] at h1; exact h1, ⟨rows, backO h2⟩, rfl⟩)
      (fun q ρ i j n _ h1 ad h2 => ⟨by rw [stp] at h1; exact h1, h2.congr (fun _ i ds hq hi => ⟨⟨ds, hi⟩, rfl⟩) (fun _ sz rows h3 => ⟨⟨rows, backO h3⟩, rfl⟩)⟩)
  refine ⟨by rw [h.size]; exact hl.symm, h.defers, fun i hi => ?_, h.vars, fun p π x hc => ?_, fun p ij kl ρ x hc => ?_, h.immOwn, h.immLt, h.ownLt, h.stA, h.stB, h.stC, fun p π q ρ n rg hc => ?_, fun p π q ρ i j n hc => ?_⟩
  · have hs := h.slots i (by rw [show (pst svs E).n = svs.length from rfl, ← hl]; exact hi)
    rcases hx i with e | ⟨sz, rows, sz', rows', e1, e2, e3⟩
    · simp only [pst, e] at hs ⊢; exact hs
    · simp only [pst, e1, e2, Option.getD_some, SVrel] at hs ⊢; exact hs
  · rcases back hc with h1 | ⟨i, sz, rows, sz', rows', rfl, rfl, rfl, e1, e3⟩
    · have hl := h.loc p π x h1
      by_cases hown : x.isOwn = true
      · cases x with
        | sl u sz rows =>
          cases u with
          | false => simp [D.isOwn] at hown
          | true => exact hl
        | _ => simp [D.isOwn] at hown
      · exact Loc.ofV (carry (hl.toV (by simpa using hown)))
    · have hl := h.loc (.s i) [(0, 0)] (.sl false sz rows) (by simp [St.cell, St.rows, pst, e1, SV.rows, cellIn, D.atU])
      exact e3 _ _ _ hl
  · rcases back hc with h1 | ⟨_, _, _, _, _, _, e, _⟩
    · exact h.deep p ij kl ρ x h1
    · simp at e
  · rcases back hc with h1 | ⟨_, _, _, _, _, _, _, e, _⟩
    · exact h.stBor p π q ρ n rg h1
    · cases e
  · rcases back hc with h1 | ⟨_, _, _, _, _, _, _, e, _⟩
    · exact h.stAddr p π q ρ i j n h1
    · cases e

/-- The first argument is shown with whatever flags. -/
theorem AC.view1 (n : Nat) {f : FuncId} {r : List SV} {Q : SV → (Nat → Option (Bool × List D)) → Prop} {sz : Nat} {rows rows' : List (List D)} (h : AC P f (.one (.sl false sz rows') :: r) E Q) (he : (D.sl false sz rows).roN (n + 1) = .sl false sz rows') : AC P f (.one (.sl false sz rows) :: r) E Q :=
  fun G vs w hl hR => h G vs w (by simpa using hl) (hR.viewArg (by simp) fun i => by
    cases i with
    | zero => exact .inr ⟨sz, rows, sz, rows', rfl, rfl, fun imm w v hv => by rw [← he]; exact hv.roN _⟩
    | succ i => exact .inl rfl)

/-- The second one. -/
theorem AC.view2 (n : Nat) {f : FuncId} {s : SV} {r : List SV} {Q : SV → (Nat → Option (Bool × List D)) → Prop} {sz : Nat} {rows rows' : List (List D)} (h : AC P f (s :: .one (.sl false sz rows') :: r) E Q) (he : (D.sl false sz rows).roN (n + 1) = .sl false sz rows') : AC P f (s :: .one (.sl false sz rows) :: r) E Q :=
  fun G vs w hl hR => h G vs w (by simpa using hl) (hR.viewArg (by simp) fun i => by
    match i with
    | 0 => exact .inl rfl
    | 1 => exact .inr ⟨sz, rows, sz, rows', rfl, rfl, fun imm w v hv => by rw [← he]; exact hv.roN _⟩
    | i + 2 => exact .inl rfl)
end

section
variable {P : Program} {σ : St} {Q : Exit → St → Prop}
/-- A nil slice in a slot is owned by the slot. -/
theorem swp_nil (d sz : Nat) {c : Code} (h : SWP P c Q (σ.nilOwn d sz)) : SWP P c Q σ := fun G a w hR => by
  obtain ⟨G', h1, h2, h3, _⟩ := hR.nilOwnK d sz
  refine wp_mono (h G' a w h1) fun e a' w' hl => ?_
  obtain ⟨σ', G'', k1, k2, k3, k4, k5⟩ := hl
  exact ⟨σ', G'', k1, k2, k3, h2.toKf.trans k4, h3.trans k5⟩
theorem swp_ret_nil (d sz : Nat) (h : Q .ret (σ.nilOwn d sz)) : SWP P .ret Q σ := swp_nil d sz (swp_ret h)
end


section
variable {P : Program} {σ : St} {Q : Exit → St → Prop}
/-- What a place owns is owned by nobody from here on: plain data. -/
theorem swp_freeze (p : Pl) (k j : Nat) {c : Code} (h : SWP P c Q (σ.freeze p k j)) : SWP P c Q σ := fun G a w hR => by
  obtain ⟨G', h1, h2, h3⟩ := hR.freezeK p k j
  refine wp_mono (h G' a w h1) fun e a' w' hl => ?_
  obtain ⟨σ', G'', k1, k2, k3, k4, k5⟩ := hl
  exact ⟨σ', G'', k1, k2, k3, h2.toKf.trans k4, h3.trans k5⟩

theorem put_same {G : Gh} {a : Act} {w : World} (h : R G σ a w) {d : Nat} (hd : d < σ.n) : a.put (some d) (a.tmps.getD d undef) = a := by
  have hsz : d < a.tmps.size := by rw [h.size]; exact hd
  have : a.tmps.setIfInBounds d (a.tmps.getD d undef) = a.tmps := by
    apply Array.ext_getElem?
    intro k
    rw [Array.getElem?_setIfInBounds]
    split
    · next e => subst e; simp [Array.getElem?_eq_getElem hsz, hsz]
    · rfl
  simp only [Act.put, this]

/-- The flags inside of plain data say nothing. -/
theorem swp_ro (d n : Nat) {sz : Nat} {rows : List (List D)} {x : D} {c : Code} (hd : d < σ.n) (hs : σ.sl d = .one (.sl false sz rows)) (hx : (D.sl false sz rows).roN (n + 1) = x) (h : SWP P c Q (σ.put d (.one x))) : SWP P c Q σ := fun G a w hR => by
  subst hx
  have h1 := hR.slots d hd
  rw [hs] at h1
  have h2 : RO G.imm w (.sl false sz rows) (G.val (.s d) [(0, 0)]) := hR.loc (.s d) [(0, 0)] (.sl false sz rows) (by simp [St.cell, St.rows, hs, SV.rows, cellIn, D.atU])
  have h3 : RO G.imm w ((D.sl false sz rows).roN (n + 1)) (a.tmps.getD d undef) := by
    rw [show a.tmps.getD d undef = G.val (.s d) [(0, 0)] from h1]; exact h2.roN _
  have ht : Tells G w σ (.one ((D.sl false sz rows).roN (n + 1))) (a.tmps.getD d undef) := by
    rw [roN_sl] at h3 ⊢
    exact tells_one (show LocV G w σ _ (.sl false _ _) from h3) trivial
  obtain ⟨G', k1, k2, _, _, k3⟩ := hR.putK hd ht
  rw [put_same hR hd] at k1
  refine wp_mono (h G' a w k1) fun e a' w' hl => ?_
  obtain ⟨σ', G'', m1, m2, m3, m4, m5⟩ := hl
  exact ⟨σ', G'', m1, m2, m3, k2.toKf.trans m4, k3.trans m5⟩

/-- Ahead of region k a slot's slice is frozen. -/
theorem swp_frz (k s n : Nat) {sz : Nat} {rows : List (List D)} {x : D} {c : Code} (hk : firstR c = some k) (hs : σ.sl s = .one (.sl true sz rows)) (hx : (D.sl false sz rows).roN (n + 1) = x) (hn : s < σ.n)
    (h : SWP P c Q (((σ.setTop (.s s) 0 0 (.sl false sz rows)).bump (.s s) 0 0).put s (.one x))) : SWP P c Q σ := by
  refine swp_freeze (.s s) 0 0 ?_
  have hc : cellIn (σ.rows (.s s)) (0, 0) = some (.sl true sz rows) := by simp [St.rows, hs, SV.rows, cellIn]
  have e : σ.freeze (.s s) 0 0 = (σ.setTop (.s s) 0 0 (.sl false sz rows)).bump (.s s) 0 0 := by simp only [St.freeze, hc]
  rw [e]
  exact swp_ro s n (sz := sz) (rows := rows) hn (by simp [St.bump, St.setTop, hs, SV.set]) hx h
end
end Go.AI

/-
  The abstract interpreter, part Zq: a function that returns a pointer to a variable of its own.
-/
namespace Go.AI
open Go.RowKit

/-- A block that nobody owns becomes a variable. -/
theorem R.adopt {G : Gh} {σ : St} {a : Act} {w : World} (h : R G σ a w) (k : Nat) {ds : List D} {B : Nat} {f : Nat → Value} (hB : B < w.heap.size) (hBo : G.own B = Option.none) (hBi : ¬ G.imm B)
    (hth : w.there B 0 ds.length) (hcl : ∀ j, j < ds.length → w.cell? ⟨B, j, Option.none⟩ = some (f j))
    (hc : ∀ j x, ds[j]? = some x → LocV G w σ (f j) x)
    (hb : ∀ (j : Nat) q ρ n rg, ds[j]? = some (D.bor q ρ n rg) → n < σ.tick)
    (ha : ∀ (j : Nat) q ρ i l n, ds[j]? = some (D.addr q ρ i l n) → n < σ.tick) :
    R (G.newVar k B f) (σ.newVar k ds) a w := by
  have hrows : (σ.newVar k ds).rows (.v k) = [ds] := by simp [St.rows, St.newVar]
  have hrowsne : ∀ p, p ≠ .v k → (σ.newVar k ds).rows p = σ.rows p := fun p hp => by
    cases p with
    | s i => rfl
    | v i => simp only [St.rows, St.newVar]; rw [if_neg (fun e => hp (by rw [e]))]
  have hcellne : ∀ p π, p ≠ .v k → (σ.newVar k ds).cell p π = σ.cell p π := fun p π hp => St.cell_congr (hrowsne p hp) π
  have hin : ∀ i j x, cellIn [ds] (i, j) = some x → i = 0 ∧ ds[j]? = some x := fun i j x hx => by
    obtain ⟨row, h1, h2⟩ := cellIn_some.1 hx
    cases i with
    | zero => simp at h1; subst h1; exact ⟨rfl, h2⟩
    | succ i => simp at h1
  have hflat : ∀ ij x, cellIn ((σ.newVar k ds).rows (.v k)) ij = some x → x.isOwn = false := fun ⟨i, j⟩ x hx => by
    rw [hrows] at hx; exact (hc j x (hin i j x hx).2).notOwn
  have hnot : ∀ p π sz rows, (σ.newVar k ds).cell p π = some (.sl true sz rows) → p ≠ .v k := by
    rintro p π sz rows h1 rfl
    obtain ⟨ij, _, h2⟩ := cell_flat hflat h1
    have := hflat ij _ h2
    simp [D.isOwn] at this
  have hold : ∀ b, b < w.heap.size → SameAt w w b := fun b _ => SameAt.refl w b
  have hown : ∀ b, b ≠ B → ∀ p π, (G.newVar k B f).own b = some (p, π) ↔ G.own b = some (p, π) ∧ p ≠ .v k := by
    intro b hb p π
    simp only [Gh.newVar, if_neg hb]
    cases hb' : G.own b with
    | none => simp
    | some q =>
      obtain ⟨q, ρ⟩ := q
      by_cases e : q = .v k
      · simp only [e, if_true]
        constructor
        · intro h; cases h
        · rintro ⟨h, hn⟩; cases h; exact absurd rfl hn
      · simp only [e, if_false]
        constructor
        · intro h; cases h; exact ⟨rfl, e⟩
        · rintro ⟨h, _⟩; exact h
  have hstpO : ∀ q (l : Path), q ≠ .v k → (σ.newVar k ds).stp q l = σ.stp q l := fun q l hq => by
    rcases l with _ | ⟨ij, _ | ⟨kl, l⟩⟩
    · cases q with
      | s i => rfl
      | v i => simp only [St.stp, St.newVar]; rw [if_neg (fun e => hq (by rw [e]))]
    · simp [St.stp, St.newVar, hq]
    · simp [St.stp, St.newVar, hq]
  have hstpK : ∀ l : Path, (σ.newVar k ds).stp (.v k) l = σ.tick := fun l => by
    rcases l with _ | ⟨ij, _ | ⟨kl, l⟩⟩ <;> simp [St.stp, St.newVar]
  have hvalne : ∀ p π, p ≠ .v k → (G.newVar k B f).val p π = G.val p π := fun p π hp => by simp [Gh.newVar, hp]
  have carry : ∀ u x, LocV G w σ u x → (∀ q ρ n rg, x = .bor q ρ n rg → n < σ.tick) → (∀ q ρ i l n, x = .addr q ρ i l n → n < σ.tick) → LocV (G.newVar k B f) w (σ.newVar k ds) u x := by
    intro u x hx hxb hxa
    refine hx.carry (fun _ hb => hb) (fun b hb => hold b (h.immLt b hb)) ?_ ?_
    · intro p π n rg e hs sz rows hcell
      have hp := hnot p π sz rows hcell
      rw [hstpO p _ hp] at hs; rw [hcellne p π hp] at hcell
      exact ⟨hs, ⟨rows, hcell⟩, hvalne p π hp⟩
    · intro p π i j n e hs ad hA
      have hp : p ≠ .v k := fun e' => by
        rw [e', hstpK] at hs
        have := hxa p π i j n e
        omega
      rw [hstpO p _ hp] at hs
      refine ⟨hs, hA.congr (fun _ k' ds' e' hk => ?_) (fun _ sz rows hcell => ?_)⟩
      · have hkk : k' ≠ k := fun e2 => hp (by rw [e', e2])
        refine ⟨⟨ds', ?_⟩, ?_⟩
        · simpa [St.newVar, hkk] using hk
        · simp [Gh.newVar, hkk]
      · rw [hcellne p π hp] at hcell
        exact ⟨⟨rows, hcell⟩, hvalne p π hp⟩
  refine ⟨h.size, h.defers, ?_, ?_, ?_, ?_, ?_, ?_, ?_, ?_, ?_, ?_, ?_, ?_⟩
  · intro i hi
    exact (SVrel_congr (fun k' j' => hvalne _ _ (by simp))).2 (h.slots i hi)
  · intro i es hi
    by_cases e : i = k
    · subst e
      have : es = ds := by simpa [St.newVar] using hi.symm
      subst this
      have hbk : (G.newVar i B f).blk i = B := by simp [Gh.newVar]
      rw [hbk]
      exact ⟨by simp [Gh.newVar], hth, fun j hj => by rw [hcl j hj]; simp [Gh.newVar]⟩
    · have hi' : σ.vr i = some (true, es) := by simpa [St.newVar, e] using hi
      obtain ⟨h1, h2, h3⟩ := h.vars i es hi'
      have hlt := h.ownLt _ _ h1
      have hbk : (G.newVar k B f).blk i = G.blk i := by simp [Gh.newVar, e]
      rw [hbk]
      exact ⟨(hown _ (fun e2 => by rw [e2, hBo] at h1; cases h1) _ _).2 ⟨h1, by simpa using e⟩, h2, fun j hj => by rw [hvalne _ _ (by simpa using e)]; exact h3 j hj⟩
  · intro p π x hx
    by_cases hp : p = .v k
    · subst hp
      obtain ⟨⟨i, j⟩, rfl, h2⟩ := cell_flat hflat hx
      rw [hrows] at h2
      obtain ⟨rfl, h3⟩ := hin i j x h2
      refine Loc.ofV ?_
      have e : (G.newVar k B f).val (.v k) [(0, j)] = f j := by simp [Gh.newVar]
      rw [e]
      exact carry _ _ (hc j x h3) (fun q ρ n rg e => hb j q ρ n rg (e ▸ h3)) (fun q ρ i l n e => ha j q ρ i l n (e ▸ h3))
    · rw [hcellne p π hp] at hx
      have hl := h.loc p π x hx
      by_cases ho : x.isOwn = true
      · cases x with
        | sl u sz rows =>
          cases u with
          | false => simp [D.isOwn] at ho
          | true => exact LocOwn.carry hl (hvalne p π hp) (fun ij => hvalne p _ hp) (fun b hb => (hown b (fun e2 => by rw [e2, hBo] at hb; cases hb) _ _).2 ⟨hb, hp⟩) (fun b hb => hold b (h.ownLt b _ hb))
        | _ => simp [D.isOwn] at ho
      · refine Loc.ofV ?_
        rw [hvalne p π hp]
        exact carry _ _ (hl.toV (by simpa using ho)) (fun q ρ n rg e => h.stBor p π q ρ n rg (e ▸ hx)) (fun q ρ i l n e => h.stAddr p π q ρ i l n (e ▸ hx))
  · intro p ij kl ρ x hx
    by_cases hp : p = .v k
    · subst hp
      obtain ⟨ij', e, _⟩ := cell_flat hflat hx
      simp at e
    · rw [hcellne p _ hp] at hx; exact h.deep p ij kl ρ x hx
  · intro b hb
    have hne : b ≠ B := fun e => hBi (e ▸ hb)
    have := h.immOwn b hb
    simp [Gh.newVar, hne, this]
  · intro b hb; exact h.immLt b hb
  · intro b q hb
    by_cases e2 : b = B
    · subst e2; exact hB
    · obtain ⟨q, π⟩ := q
      simp only [Gh.newVar, if_neg e2] at hb
      cases hb' : G.own b with
      | none => rw [hb'] at hb; cases hb
      | some q' => exact h.ownLt b _ hb'
  · intro i; have := h.stA i; simp only [St.newVar]; split <;> omega
  · intro q ij; have := h.stB q ij; simp only [St.newVar]; split <;> omega
  · intro q ij; have := h.stC q ij; simp only [St.newVar]; split <;> omega
  · intro p π q ρ n rg hx
    show n < σ.tick + 1
    by_cases hp : p = .v k
    · subst hp
      obtain ⟨⟨i, j⟩, rfl, h2⟩ := cell_flat hflat hx
      rw [hrows] at h2
      have := hb j q ρ n rg (hin i j _ h2).2; omega
    · rw [hcellne p π hp] at hx; have := h.stBor p π q ρ n rg hx; omega
  · intro p π q ρ i j n hx
    show n < σ.tick + 1
    by_cases hp : p = .v k
    · subst hp
      obtain ⟨⟨i', l⟩, rfl, h2⟩ := cell_flat hflat hx
      rw [hrows] at h2
      have := ha l q ρ i j n (hin i' l _ h2).2; omega
    · rw [hcellne p π hp] at hx; have := h.stAddr p π q ρ i j n hx; omega


/-- What may be handed back in a variable. -/
def D.data : D → Bool
  | .lit _ => true
  | .nil => true
  | .sl false _ _ => true
  | _ => false

theorem data_ro {G : Gh} {w : World} {σ : St} {v : Value} {x : D} (hx : x.data = true) : LocV G w σ v x ↔ RO G.imm w x v := by
  cases x with
  | sl u sz rows => cases u with
    | true => simp [D.data] at hx
    | false => exact Iff.rfl
  | lit _ => exact Iff.rfl
  | nil => exact Iff.rfl
  | _ => simp [D.data] at hx

/-- A function that returns a pointer to a variable of its own. -/
def ACV (P : Program) (f : FuncId) (args : List SV) (Q : List D → Prop) : Prop :=
  ∀ G (vs : List Value) w, (∀ b, G.own b = Option.none) → vs.length = args.length → R G (pst args fun _ => Option.none) { tmps := vs.toArray, defers := [] } w →
    Calls P f vs.toArray w fun e w' => ∃ (B : Nat) (ds : List D) (G' : Gh) (f' : Nat → Value) (E' : Nat → Option (Bool × List D)), e = .returned (.pointer (some ⟨B, 0, Option.none⟩)) ∧ Q ds ∧ R G' (pst [.one (.lit (.pointer (some ⟨B, 0, Option.none⟩)))] E') { tmps := #[.pointer (some ⟨B, 0, Option.none⟩)], defers := [] } w' ∧ Kf G w G' w' ∧ FxE (fun _ => Option.none) E' G G' ∧
      w.heap.size ≤ B ∧ B < w'.heap.size ∧ ¬ G'.imm B ∧ (∀ q π, G'.own B ≠ some (.s q, π)) ∧ w'.there B 0 ds.length ∧ (∀ j, j < ds.length → w'.cell? ⟨B, j, Option.none⟩ = some (f' j)) ∧ ∀ j x, ds[j]? = some x → x.data = true ∧ RO G'.imm w' x (f' j)

def ptrR (n r k : Nat) (Q : List D → Prop) (e : Exit) (σ : St) : Prop :=
  match e with
  | .normal | .ret => r < n ∧ σ.sl r = .one (.addr (.v k) [] 0 0 (σ.sa k)) ∧ ∃ ds, σ.vr k = some (true, ds) ∧ ds.all D.data = true ∧ Q ds
  | _ => False

section
variable {P : Program} {G : Gh} {σ : St} {a : Act} {w : World}

theorem ACV_of_swp {f : FuncId} {fn : Func} {c : Code} {n r : Nat} (k : Nat) {args : List SV} {Q : List D → Prop} (hf : P.funcs[f]? = some fn) (hb : fn.body = some c)
    (hn : fn.ntmps = n) (hr : fn.results.toList = [.tmp r]) (hlen : decide (args.length ≤ n) = true) (hnb : decide (n ≤ vbase) = true) (h : SWP P c (ptrR n r k Q) (entry args (fun _ => Option.none) n)) : ACV P f args Q := by
  intro G vs w hown hl hR
  subst hn
  have hlen' : args.length ≤ fn.ntmps := by simpa using hlen
  have hnb' : fn.ntmps ≤ vbase := by simpa using hnb
  refine calls_of_wp hf hb (wp_mono (h G _ w (hR.enter hl hlen')) fun e a' w' hlift => ?_)
  obtain ⟨σ', G', h1, h2, h3, h4, h5⟩ := hlift
  have key : (r < fn.ntmps ∧ σ'.sl r = .one (.addr (.v k) [] 0 0 (σ'.sa k)) ∧ ∃ ds, σ'.vr k = some (true, ds) ∧ ds.all D.data = true ∧ Q ds) → a'.defers = [] ∧ ∃ v, (results fn a'.tmps).run P w' = .ok v w' ∧
      ∃ (B : Nat) (ds : List D) (G' : Gh) (f' : Nat → Value) (E' : Nat → Option (Bool × List D)), (Ending.returned v) = .returned (.pointer (some ⟨B, 0, Option.none⟩)) ∧ Q ds ∧ R G' (pst [.one (.lit (.pointer (some ⟨B, 0, Option.none⟩)))] E') { tmps := #[.pointer (some ⟨B, 0, Option.none⟩)], defers := [] } w' ∧ Kf G w G' w' ∧ FxE (fun _ => Option.none) E' G G' ∧
      w.heap.size ≤ B ∧ B < w'.heap.size ∧ ¬ G'.imm B ∧ (∀ q π, G'.own B ≠ some (.s q, π)) ∧ w'.there B 0 ds.length ∧ (∀ j, j < ds.length → w'.cell? ⟨B, j, Option.none⟩ = some (f' j)) ∧ ∀ j x, ds[j]? = some x → x.data = true ∧ RO G'.imm w' x (f' j) := by
    rintro ⟨g1, g2, ds, g3, g4, g5⟩
    have hn' : σ'.n = fn.ntmps := h5.n
    have hL : retPlaces P σ' fn.ntmps fn.results.toList = some [(.s r, false, [.addr (.v k) [] 0 0 (σ'.sa k)])] := by
      rw [hr]; simp [retPlaces, retPlace, g1, g2]
    obtain ⟨v1, v2, v3⟩ := h3.vars k ds g3
    have hval : G'.val (.s r) [(0, 0)] = .pointer (some ⟨G'.blk k, 0, Option.none⟩) := by
      have e1 := h3.loc (.s r) [(0, 0)] (.addr (.v k) [] 0 0 (σ'.sa k)) (by simp [St.cell, St.rows, g2, SV.rows, cellIn, D.atU])
      have e2 := e1 rfl ⟨G'.blk k, 0, Option.none⟩ ?_
      · exact e2
      · exact ⟨k, ds, rfl, g3, rfl, rfl⟩
    have hrv : retV G' [(.s r, false, [.addr (.v k) [] 0 0 (σ'.sa k)])] = .pointer (some ⟨G'.blk k, 0, Option.none⟩) := by
      rw [← hval]; simp [retV, valOf, cval, vals]
    have hrun := results_run h3 hn' hnb' hL
    rw [hrv] at hrun
    have hout := h3.out (retPlaces_spec h3 hn' hnb' _ _ hL).1 (by simp)
    rw [hrv] at hout
    obtain ⟨G2, p1, p2, p3, p4, p5⟩ := hout.putT (d := 0) (by simp [pst]) (sv := .one (.lit (.pointer (some ⟨G'.blk k, 0, Option.none⟩)))) (v := .pointer (some ⟨G'.blk k, 0, Option.none⟩)) (tells_one (RO.lit.2 rfl) trivial)
    have hst : (pst [retSV [(.s r, false, [.addr (.v k) [] 0 0 (σ'.sa k)])]] (extOut σ')).put 0 (.one (.lit (.pointer (some ⟨G'.blk k, 0, Option.none⟩)))) = pst [.one (.lit (.pointer (some ⟨G'.blk k, 0, Option.none⟩)))] (extOut σ') := by
      simp only [St.put, pst]
      congr 1
      funext i
      cases i with
      | zero => simp
      | succ i => simp
    have hac : ({ tmps := #[.pointer (some ⟨G'.blk k, 0, Option.none⟩)], defers := [] } : Act).put (some 0) (.pointer (some ⟨G'.blk k, 0, Option.none⟩)) = { tmps := #[.pointer (some ⟨G'.blk k, 0, Option.none⟩)], defers := [] } := by simp [Act.put]
    rw [hst, hac] at p1
    have hBs : w.heap.size ≤ G'.blk k := Classical.byContradiction fun hlt => by
      have := (h4.free (G'.blk k) (by omega) (hown _)).2
      rw [v1] at this; cases this
    refine ⟨h3.defers, _, hrun, G'.blk k, ds, G2, fun j => G'.val (.v k) [(0, j)], extOut σ', rfl, g5, p1, ?_, ?_, hBs, h3.ownLt _ _ v1, ?_, ?_, v2, v3, fun j x hx => ?_⟩
    · refine ⟨h4.os, h4.tape, h4.output, h4.size, fun b hb h0 => ?_, fun b hb => ?_, fun b hb => h4.immB b (by rw [p2] at hb; exact hb)⟩
      · obtain ⟨k1, k2⟩ := h4.free b hb h0
        refine ⟨k1, ?_⟩
        cases ho : G2.own b with
        | none => rfl
        | some x =>
          obtain ⟨x, π⟩ := x
          have := ((p5 b x π).1 ho).1
          simp [Gh.out, k2] at this
      · rw [p2]; exact h4.imm b hb
    · intro e he
      refine ⟨?_, fun ds' hds => ?_⟩
      · rw [p3]; exact h5.blk e (by show fn.ntmps ≤ e; omega)
      · simp only [extOut] at hds
        split at hds
        · cases hds
        · split at hds
          · next b ds0 hv =>
            simp only [Option.some.injEq, Prod.mk.injEq] at hds
            obtain ⟨rfl, _⟩ := hds
            obtain ⟨⟨ds1, q1⟩, _⟩ := h5.fl e (by show fn.ntmps ≤ e; omega) ds0 hv
            simp [entry, pst] at q1
          · cases hds
    · intro hm
      rw [p2] at hm
      have := h3.immOwn _ hm
      rw [v1] at this; cases this
    · intro q π hq
      have h9 := ((p5 _ _ _).1 hq).1
      simp only [Gh.out, v1] at h9
      split at h9
      · simp at h9
      · split at h9 <;> simp at h9
    · have hd : x.data = true := by
        rw [List.all_eq_true] at g4
        exact g4 x (List.mem_of_getElem? hx)
      refine ⟨hd, ?_⟩
      rw [p2]
      have hl := h3.loc (.v k) [(0, j)] x (by simp [St.cell, St.rows, g3, cellIn, hx, D.atU])
      have ho : x.isOwn = false := by
        cases x with
        | sl u sz rows => cases u with
          | true => simp [D.data] at hd
          | false => rfl
        | _ => rfl
      exact (data_ro (G := G') (σ := σ') hd).1 (hl.toV ho)
  cases e with
  | normal => exact key h1
  | ret => exact key h1
  | exit id => exact h1.elim
  | goto l => simp at h2
  | panic ch => simp at h2
  | outgrown => simp at h2

/-- A call of such a function. -/
theorem call_open {f : Operand} {xs : List Operand} {d : Nat} {T : Pl → Prop} {K : St → Prop} {gid : FuncId} {args : List SV} {Q : List D → Prop}
    (hrd : σ.rd f = .one (.clo gid [])) (hargs : (xs.map σ.rd).map (argSV σ [] false) = args) (hd : d < σ.n) (hT : T (.s d)) (hTv : T (.v d)) (hent : enters P gid = true) (hc : ACV P gid args Q)
    (hK : ∀ v ds, Q ds → K (((σ.res d (.one (.lit v))).newVar d ds).put d (.one (.addr (.v d) [] 0 0 (σ.tick + 1))))) : callA P σ f xs (some d) T K := by
  refine .inr ⟨gid, hrd, hent, fun G a w h => ?_⟩
  have hext : σ.ext [] = fun _ => Option.none := by
    funext e; simp [St.ext]
  obtain ⟨fF, hpin⟩ := h.portIn (X := []) List.nodup_nil false (svs := xs.map σ.rd) (vs := xs.map a.eval) (by simp) (fun i sv hs => by
    rw [List.getElem?_map, Option.map_eq_some_iff] at hs
    obtain ⟨x, hx, rfl⟩ := hs
    exact ⟨a.eval x, by rw [List.getElem?_map, hx]; rfl, h.rd x⟩)
  rw [hargs, hext] at hpin
  refine Calls.mono (hc (G.portIn [] false fF) (xs.map a.eval) w (fun b => ?_) (by rw [← hargs]; simp) hpin) fun e w' he => ?_
  · simp only [Gh.portIn]
    cases G.own b with
    | none => rfl
    | some x => simp [idx]
  obtain ⟨B, ds, G1, f', E', rfl, hQ, r1, r2, r3, q1, q2, q3, q4, q5, q6, q7⟩ := he
  obtain ⟨s1, s2, s3⟩ := h.after (X := []) List.nodup_nil (vw := false) (f := fF) (svs := xs.map σ.rd) (d := some d) (fun i hi => by cases hi; exact hd) (fun q hq => by simp at hq) r1 r2 (by rw [hext]; exact r3) (fun e => by cases e)
  rw [after_nil] at s1 s3
  have hBo : (G.after G1 w [] (some d) false).own B = Option.none := by
    simp only [Gh.after]
    cases ho : G1.own B with
    | none => simp only; rw [if_neg (by omega)]
    | some x =>
      obtain ⟨x, π⟩ := x
      cases x with
      | s i => exact absurd ho (q4 i π)
      | v e => simp
  have hBi : ¬ (G.after G1 w [] (some d) false).imm B := by
    rintro (hm | ⟨_, hm⟩)
    · have := h.immLt _ hm; omega
    · exact q3 hm
  have s4 := s1.adopt d (ds := ds) q2 hBo hBi q5 q6 (fun j x hx => by
    obtain ⟨hd', hro⟩ := q7 j x hx
    exact (data_ro hd').2 (hro.mono (fun b hb => .inr ⟨rfl, hb⟩) (fun b _ => SameAt.refl w' b))) (fun j q ρ n rg hx => by have := (q7 j _ hx).1; simp [D.data] at this) (fun j q ρ i l n hx => by have := (q7 j _ hx).1; simp [D.data] at this)
  obtain ⟨G5, t1, t2, t3, t4, t5⟩ := s4.putT (d := d) hd (sv := .one (.addr (.v d) [] 0 0 (σ.tick + 1))) (v := .pointer (some ⟨B, 0, Option.none⟩)) (tells_one (fun _ ad hA => by
    obtain ⟨k, ds', e, _, _, e2⟩ := hA
    cases e
    rw [e2]
    simp [Gh.newVar]) (show σ.tick + 1 < σ.tick + 1 + 1 by omega))
  have hpp : (a.put (some d) (.pointer (some ⟨B, 0, Option.none⟩))).put (some d) (.pointer (some ⟨B, 0, Option.none⟩)) = a.put (some d) (.pointer (some ⟨B, 0, Option.none⟩)) := by simp [Act.put]
  rw [hpp] at t1
  have hnv : ∀ b, b ≠ B → ∀ p π, ((G.after G1 w [] (some d) false).newVar d B f').own b = some (p, π) ↔ (G.after G1 w [] (some d) false).own b = some (p, π) ∧ p ≠ .v d := by
    intro b hb p π
    simp only [Gh.newVar, if_neg hb]
    cases hb' : (G.after G1 w [] (some d) false).own b with
    | none => simp
    | some q =>
      obtain ⟨q, ρ⟩ := q
      by_cases e : q = .v d
      · simp only [e, if_true]
        constructor
        · intro h; cases h
        · rintro ⟨h, hn⟩; cases h; exact absurd rfl hn
      · simp only [e, if_false]
        constructor
        · intro h; cases h; exact ⟨rfl, e⟩
        · rintro ⟨h, _⟩; exact h
  refine ⟨_, _, G5, [.s d, .v d], rfl, hK _ ds hQ, fun p hp => ?_, t1, ?_, ?_⟩
  · simp only [List.mem_cons, List.not_mem_nil, or_false] at hp
    rcases hp with rfl | rfl
    · exact hT
    · exact hTv
  · refine ⟨s2.os, s2.tape, s2.output, s2.size, fun b hb h0 => ?_, fun b p π hp h0 => ?_, fun b hb => by rw [t2]; exact s2.imm b hb, fun b hb => ?_⟩
    · obtain ⟨k1, k2⟩ := s2.free b hb h0
      refine ⟨k1, ?_⟩
      cases ho : G5.own b with
      | none => rfl
      | some x =>
        obtain ⟨x, π⟩ := x
        have h1 := ((t5 b x π).1 ho).1
        have h2 := ((hnv b (by omega) x π).1 h1).1
        rw [k2] at h2; cases h2
    · simp only [List.mem_cons, List.not_mem_nil, or_false, not_or] at hp
      obtain ⟨k1, k2⟩ := s2.keep b p π (by simp [hp.1]) h0
      have hlt := h.ownLt b _ h0
      exact ⟨k1, (t5 b p π).2 ⟨(hnv b (by omega) p π).2 ⟨k2, hp.2⟩, hp.1⟩⟩
    · rw [t2] at hb
      rcases s2.immB b hb with h1 | h1 | ⟨p, π, h1, h2⟩
      · exact .inl h1
      · exact .inr (.inl h1)
      · exact .inr (.inr ⟨p, π, by simp at h1; simp [h1], h2⟩)
  · refine (s3.trans (Fx.of (σ' := (σ.res d (.one (.lit (.pointer (some ⟨B, 0, Option.none⟩))))).newVar d ds) (G' := (G.after G1 w [] (some d) false).newVar d B f') rfl (fun i hi => ?_) (fun i hi ds' hd' => ?_) (fun i hi kj _ => ?_))).trans (Fx.of rfl (fun i _ => by rw [t3]) (fun i _ ds' hd => ⟨ds', hd⟩) (fun i _ kj _ => t4 _ _ (by simp)))
    · have : i ≠ d := by have : σ.n ≤ i := hi; omega
      simp [Gh.newVar, this]
    · have : i ≠ d := by have : σ.n ≤ i := hi; omega
      exact ⟨ds', by simpa [St.newVar, this] using hd'⟩
    · have : i ≠ d := by have : σ.n ≤ i := hi; omega
      simp [Gh.newVar, this]
end
end Go.AI

/-
  The abstract interpreter, part Zr: a slice inside of a slice is taken out into a slot.
-/
namespace Go.AI
open Go.RowKit

section
variable {P : Program} {G : Gh} {σ : St} {a : Act} {w : World}

/-- A slot that holds the value of a tree that nobody owns comes to own it. -/
theorem R.fill (h : R G σ a w) {s : Nat} {y : D} (hs : σ.sl s = .one y) (hyo : y.isOwn = false) {om : Nat → Option Path} {f : Path → Value} {x : D} (hval : G.val (.s s) [(0, 0)] = f []) (ht : Tree G.imm w om f x) (hxo : x.isOwn = true)
    (hfree : ∀ b π, om b = some π → G.own b = Option.none ∧ ¬ G.imm b ∧ b < w.heap.size) :
    ∃ G', R G' ((σ.setTop (.s s) 0 0 x).bump (.s s) 0 0) a w ∧ G'.imm = G.imm ∧ G'.blk = G.blk ∧ (∀ b q π, q ≠ .s s → G.own b = some (q, π) → G'.own b = some (q, π)) ∧ (∀ b, G.own b = Option.none → G'.own b = Option.none ∨ ∃ π, om b = some π) ∧
      (∀ q π, q ≠ .s s → G'.val q π = G.val q π) := by
  let G' : Gh := { G with
    val := fun q π => match under (.s s) 0 0 (q, π) with
      | some ρ => f ρ
      | Option.none => G.val q π
    own := fun b => match G.own b with
      | some q => if (under (.s s) 0 0 q).isSome = true then Option.none else some q
      | Option.none => (om b).map fun π => (.s s, (0, 0) :: π) }
  have hvO : ∀ q π, (q = .s s → ¬ ∃ ρ, π = (0, 0) :: ρ) → G'.val q π = G.val q π := fun q π hq => by simp only [G', under_none.2 hq]
  have hvU : ∀ ρ, G'.val (.s s) ((0, 0) :: ρ) = f ρ := fun ρ => by
    have : under (.s s) 0 0 (.s s, (0, 0) :: ρ) = some ρ := under_some.2 ⟨rfl, rfl⟩
    simp only [G', this]
  have hownO : ∀ b q π, (q = .s s → ¬ ∃ ρ, π = (0, 0) :: ρ) → G.own b = some (q, π) → G'.own b = some (q, π) := fun b q π hq hb => by
    simp [G', hb, under_none.2 hq]
  have hownU : ∀ b π, om b = some π → G'.own b = some (.s s, (0, 0) :: π) := fun b π hb => by
    simp only [G', (hfree b π hb).1, hb, Option.map_some]
  have hown3 : ∀ b q, G'.own b = some q → G.own b = some q ∨ ∃ π, om b = some π := fun b q hb => by
    simp only [G'] at hb
    cases ho : G.own b with
    | some q' =>
      rw [ho] at hb
      simp only at hb
      split at hb
      · cases hb
      · exact .inl hb
    | none =>
      rw [ho] at hb
      simp only [Option.map_eq_some_iff] at hb
      obtain ⟨π, h1, _⟩ := hb
      exact .inr ⟨π, h1⟩
  have hcell : (cellIn (σ.rows (.s s)) (0, 0)).isSome = true := by simp [St.rows, hs, SV.rows, cellIn]
  have hsl : ∀ i k₂ j₂, G'.val (.s i) [(k₂, j₂)] = G.val (.s i) [(k₂, j₂)] := fun i k₂ j₂ => by
    by_cases e : i = s ∧ k₂ = 0 ∧ j₂ = 0
    · obtain ⟨rfl, rfl, rfl⟩ := e
      rw [hvU, hval]
    · refine hvO _ _ (fun e1 => ?_)
      rintro ⟨ρ, e2⟩
      cases e1
      simp only [List.cons.injEq, Prod.mk.injEq] at e2
      exact e ⟨rfl, e2.1.1, e2.1.2⟩
  have key := h.top (p := .s s) (k := 0) (j := 0) (d' := x) (G' := G') (w' := w) (a' := a) hcell rfl rfl rfl (h.same hsl) hvO hownO (fun b q π _ _ _ => SameAt.refl w b) (fun _ hb => hb) (fun b _ => SameAt.refl w b) (fun b hb => by
      have h1 := h.immOwn b hb
      cases ho : G'.own b with
      | none => rfl
      | some q =>
        rcases hown3 b q ho with h2 | ⟨π, h2⟩
        · rw [h1] at h2; cases h2
        · exact absurd hb (hfree b π h2).2.1) h.immLt (fun b q hb => by
      rcases hown3 b q hb with h1 | ⟨π, h1⟩
      · exact h.ownLt b q h1
      · exact (hfree b π h1).2.2) (fun i ds e hv => by cases e) (fun ρ y hy => by
      have h1 := ht ρ y hy
      by_cases ho : y.isOwn = true
      · cases y with
        | sl u sz rows =>
          cases u with
          | false => simp [D.isOwn] at ho
          | true =>
            refine ⟨?_, fun _ => rfl⟩
            show LocOwn G' w (.s s) ((0, 0) :: ρ) sz rows
            rcases h1 with ⟨e1, e2⟩ | ⟨b, o, c, e1, e2, e3, e4, e5⟩
            · exact .inl ⟨e1, by rw [hvU]; exact e2⟩
            · exact .inr ⟨b, o, c, by rw [hvU]; exact e1, e2, hownU b ρ e3, e4, fun i row hr => ⟨(e5 i row hr).1, fun l hl => by rw [List.cons_append, hvU]; exact (e5 i row hr).2 l hl⟩⟩
        | _ => simp [D.isOwn] at ho
      · have ho' : y.isOwn = false := by simpa using ho
        obtain ⟨q1, q2⟩ := h1.ro ho'
        exact ⟨Loc.ofV (by rw [hvU]; exact LocV.ofSolid q1 q2 ho'), fun _ => q2⟩) (fun q ρ n rg e => by rw [e] at hxo; simp [D.isOwn] at hxo) (fun q ρ i l n e => by rw [e] at hxo; simp [D.isOwn] at hxo)
  refine ⟨G', key, rfl, rfl, fun b q π hq hb => hownO b q π (fun e => absurd e hq) hb, fun b hb => ?_, fun q π hq => hvO q π (fun e => absurd e hq)⟩
  cases ho : G'.own b with
  | none => exact .inl rfl
  | some q =>
    rcases hown3 b q ho with h1 | h1
    · rw [hb] at h1; cases h1
    · exact .inr h1

/-- The slice inside of a slice stands in the slot; where it stood, some value stands. -/
def St.grab (σ : St) (s : Nat) (q : Pl) (k j sz i l : Nat) (rows : List (List D)) (row : List D) (x : D) (v : Value) : St :=
  (((σ.setTop q k j (.sl true sz (rows.set i (row.set l (.lit v))))).bumpC q k j).setTop (.s s) 0 0 x).bump (.s s) 0 0

theorem R.grab (h : R G σ a w) {s : Nat} {q : Pl} {k j i l sz sz' : Nat} {rows rows' : List (List D)} {row : List D} (hsn : s < σ.n) (hqs : q ≠ .s s) (hsl : σ.sl s = .one (.bor q [(k, j), (i, l)] (σ.sc q (k, j)) Option.none))
    (hq : cellIn (σ.rows q) (k, j) = some (.sl true sz rows)) (hi : rows[i]? = some row) (hl : row[l]? = some (.sl true sz' rows')) :
    ∃ G' v, R G' (σ.grab s q k j sz i l rows row (.sl true sz' rows') v) a w ∧ Kp [q, .s s] G w G' w ∧ G'.imm = G.imm ∧ Fx σ (σ.grab s q k j sz i l rows row (.sl true sz' rows') v) G G' := by
  obtain ⟨G1, om, f0, h1, ht1, hf0, hi1, hb1, hv1, hom1, hown1, hother1⟩ := h.hideSub hq hi hl rfl
  have hfree : ∀ b π, om b = some π → G1.own b = Option.none ∧ ¬ G1.imm b ∧ b < w.heap.size := fun b π hb => by
    obtain ⟨q1, ρ, q2⟩ := hom1 b π hb
    refine ⟨q1, fun hm => ?_, h.ownLt b _ q2⟩
    rw [hi1] at hm
    rw [h.immOwn b hm] at q2; cases q2
  have hsl1 : ((σ.setTop q k j (.sl true sz (rows.set i (row.set l (.lit (f0 [])))))).bumpC q k j).sl s = .one (.bor q [(k, j), (i, l)] (σ.sc q (k, j)) Option.none) := by
    rw [← hsl]
    cases q with
    | s i' =>
      have : s ≠ i' := fun e => hqs (by rw [e])
      simp [St.bumpC, St.setTop, this]
    | v i' => rfl
  have hval : G1.val (.s s) [(0, 0)] = f0 [] := by
    rw [hv1, hf0]
    have e2 := h.loc (.s s) [(0, 0)] (.bor q [(k, j), (i, l)] (σ.sc q (k, j)) Option.none) (by simp [St.cell, St.rows, hsl, SV.rows, cellIn, D.atU])
    have e3 := e2 rfl sz' rows' (by
      rw [show σ.cell q [(k, j), (i, l)] = D.atU (.sl true sz rows) [(i, l)] from by simp [St.cell, hq]]
      simp [D.atU, cellIn, hi, hl])
    rw [rgval_none] at e3
    exact e3
  obtain ⟨G2, h2, hi2, hb2, hown2, hnone2, hval2⟩ := h1.fill hsl1 rfl hval (by rw [hi1]; exact ht1) rfl hfree
  refine ⟨G2, f0 [], h2, ?_, by rw [hi2, hi1], ?_⟩
  · refine ⟨rfl, rfl, rfl, Nat.le_refl _, fun b hb h0 => ⟨rfl, ?_⟩, fun b p π hp h0 => ⟨rfl, ?_⟩, fun b hb => by rw [hi2, hi1]; exact hb, fun b hb => .inl (by rw [hi2, hi1] at hb; exact hb)⟩
    · have e1 : G1.own b = Option.none := by
        cases ho : G1.own b with
        | none => rfl
        | some x => have := hown1 b x ho; rw [h0] at this; cases this
      rcases hnone2 b e1 with h9 | ⟨π', h9⟩
      · exact h9
      · obtain ⟨_, ρ, h10⟩ := hom1 b π' h9
        rw [h0] at h10; cases h10
    · simp only [List.mem_cons, List.not_mem_nil, or_false, not_or] at hp
      exact hown2 b p π hp.2 (hother1 b p π hp.1 h0)
  · refine Fx.of (by cases q <;> rfl) (fun k' _ => by rw [hb2, hb1]) (fun k' hk' ds' hd' => ?_) (fun k' hk' kj ds' => ?_)
    · cases q with
      | s i' => exact ⟨ds', hd'⟩
      | v i' =>
        simp only [St.grab, St.bump, St.bumpC, St.setTop] at hd'
        by_cases e : k' = i'
        · subst e
          simp only [if_true] at hd'
          cases hv : σ.vr k' with
          | none => rw [hv] at hd'; cases hd'
          | some x =>
            obtain ⟨b, ds⟩ := x
            rw [hv] at hd'
            simp only [Option.some.injEq, Prod.mk.injEq] at hd'
            obtain ⟨rfl, _⟩ := hd'
            exact ⟨ds, rfl⟩
        · rw [if_neg e] at hd'; exact ⟨ds', hd'⟩
    · rw [hval2 _ _ (by simp), hv1]

theorem D.ro_notOwn {y : D} (h : y.isOwn = false) : y.ro = y := by
  cases y with
  | sl u sz rows => cases u with
    | true => simp [D.isOwn] at h
    | false => rfl
  | _ => rfl
theorem D.ro_own {y : D} : y.ro.isOwn = false := by cases y <;> rfl
theorem D.ro_atU {y : D} {ij : Nat × Nat} {π : Path} : y.ro.atU (ij :: π) = Option.none := by cases y <;> rfl
theorem D.ro_solid {y : D} (h : y.solid = true) : y.ro.solid = true := by cases y <;> first | rfl | exact h

/-- What a slice's cells own is changed by nobody from now on; the slice itself may be. -/
theorem R.freezeIn (h : R G σ a w) {p : Pl} {k j : Nat} {sz : Nat} {rows : List (List D)}
    (hcell : cellIn (σ.rows p) (k, j) = some (.sl true sz rows)) : ∃ G', R G' ((σ.setTop p k j (.sl true sz (rows.map fun r => r.map D.ro))).bump p k j) a w ∧ Kp [p] G w G' w ∧ Fx σ ((σ.setTop p k j (.sl true sz (rows.map fun r => r.map D.ro))).bump p k j) G G' := by
  have hc : ∀ ρ, σ.cell p ((k, j) :: ρ) = D.atU (.sl true sz rows) ρ := fun ρ => by simp [St.cell, hcell]
  let sub : Pl × Path → Bool := fun q => match under p k j q with
    | some [] => false
    | some _ => true
    | Option.none => false
  have hsub : ∀ q π, sub (q, π) = true ↔ q = p ∧ ∃ il ρ, π = (k, j) :: il :: ρ := by
    intro q π
    simp only [sub]
    cases hu : under p k j (q, π) with
    | none =>
      simp only [Bool.false_eq_true, false_iff]
      rintro ⟨rfl, il, ρ, rfl⟩
      exact under_none.1 hu rfl ⟨_, rfl⟩
    | some τ =>
      obtain ⟨rfl, rfl⟩ := under_some.1 hu
      cases τ with
      | nil => simp
      | cons il τ => simp
  let G' : Gh := { G with
    own := fun b => match G.own b with
      | some q => if sub q = true then Option.none else some q
      | Option.none => Option.none
    imm := fun b => G.imm b ∨ ∃ il ρ, G.own b = some (p, (k, j) :: il :: ρ) }
  have hown : ∀ b q, G'.own b = some q ↔ G.own b = some q ∧ sub q = false := by
    intro b q
    simp only [G']
    cases hb : G.own b with
    | none => simp
    | some q' =>
      by_cases e : sub q' = true
      · simp only [e, if_true]
        constructor
        · intro h; cases h
        · rintro ⟨h1, h2⟩; cases h1; rw [e] at h2; cases h2
      · simp only [e]
        constructor
        · intro h; simp at h; subst h; exact ⟨rfl, by simpa using e⟩
        · rintro ⟨h1, h2⟩; exact h1
  have hno : ∀ q π, (q = p → ¬ ∃ ρ, π = (k, j) :: ρ) → sub (q, π) = false := fun q π hq => by
    cases hs : sub (q, π) with
    | false => rfl
    | true => obtain ⟨e, il, ρ, e2⟩ := (hsub q π).1 hs; exact absurd ⟨_, e2⟩ (hq e)
  have key := h.top (p := p) (k := k) (j := j) (d' := .sl true sz (rows.map fun r => r.map D.ro)) (G' := G') (w' := w) (a' := a) (by rw [hcell]; rfl) rfl rfl rfl (h.same fun _ _ _ => rfl) (fun _ _ _ => rfl) (fun b q π hq hb => (hown b (q, π)).2 ⟨hb, hno q π hq⟩) (fun b q π _ _ _ => SameAt.refl w b) (fun _ hb => .inl hb) (fun b _ => SameAt.refl w b)
    (by
      rintro b (hb | ⟨il, ρ, hb⟩)
      · have := h.immOwn b hb; simp [G', this]
      · have : sub (p, (k, j) :: il :: ρ) = true := (hsub _ _).2 ⟨rfl, il, ρ, rfl⟩
        simp [G', hb, this])
    (by
      rintro b (hb | ⟨il, ρ, hb⟩)
      · exact h.immLt b hb
      · exact h.ownLt b _ hb)
    (by intro b q hb; exact h.ownLt b q ((hown b q).1 hb).1)
    (by
      rintro i ds rfl hv
      obtain ⟨_, h2, h3⟩ := h.vars i ds hv
      exact ⟨h2, h3⟩)
    (by
      intro ρ x hx
      cases ρ with
      | nil =>
        simp [D.atU] at hx; subst hx
        refine ⟨?_, fun e => absurd rfl e⟩
        show LocOwn G' w p [(k, j)] sz _
        rcases (show LocOwn G w p [(k, j)] sz rows from h.loc p [(k, j)] (.sl true sz rows) (by rw [hc]; rfl)) with ⟨e1, e2⟩ | ⟨b, o, c, e1, e2, e3, e4, e5⟩
        · exact .inl ⟨by rw [e1]; rfl, e2⟩
        · refine .inr ⟨b, o, c, by rw [List.length_map]; exact e1, by rw [List.length_map]; exact e2, (hown b _).2 ⟨e3, ?_⟩, e4, fun i row hr => ?_⟩
          · cases hs : sub (p, [(k, j)]) with
            | false => rfl
            | true => obtain ⟨_, il, ρ, e⟩ := (hsub _ _).1 hs; simp at e
          · rw [List.getElem?_map, Option.map_eq_some_iff] at hr
            obtain ⟨row0, h4, rfl⟩ := hr
            rw [List.length_map]
            exact e5 i row0 h4
      | cons il ρ =>
        obtain ⟨i, l⟩ := il
        simp only [D.atU] at hx
        cases hcc : cellIn (rows.map fun r => r.map D.ro) (i, l) with
        | none => rw [hcc] at hx; cases hx
        | some y' =>
          rw [hcc] at hx
          obtain ⟨row, h1, h2⟩ := cellIn_some.1 hcc
          rw [List.getElem?_map, Option.map_eq_some_iff] at h1
          obtain ⟨row0, h3, rfl⟩ := h1
          rw [List.getElem?_map, Option.map_eq_some_iff] at h2
          obtain ⟨y, h4, rfl⟩ := h2
          cases ρ with
          | cons kl ρ => simp only [D.ro_atU] at hx; cases hx
          | nil =>
            simp [D.atU] at hx; subst hx
            have hyc : cellIn rows (i, l) = some y := cellIn_some.2 ⟨row0, h3, h4⟩
            have hcy : ∀ ρ, σ.cell p ((k, j) :: (i, l) :: ρ) = y.atU ρ := fun ρ => by rw [hc]; simp only [D.atU, hyc]
            have hsol : y.solid = true := h.deep p (k, j) (i, l) [] y (by rw [hcy]; cases y <;> rfl)
            refine ⟨Loc.ofV (LocV.ofSolid (?_ : RO G'.imm w y.ro (G.val p [(k, j), (i, l)])) (D.ro_solid hsol) D.ro_own), fun _ => D.ro_solid hsol⟩
            have hro : RO G'.imm w y (G.val p [(k, j), (i, l)]) := by
              refine Loc.toRO (G := G) (σ := σ) (fun b hb => .inl hb) _ _ p [(k, j), (i, l)] (Nat.le_refl _) (fun ρ x hx => ?_) (fun b ρ hb => .inr ⟨_, ρ, hb⟩)
              exact ⟨h.loc p _ x (by rw [show [(k, j), (i, l)] ++ ρ = (k, j) :: (i, l) :: ρ from rfl, hcy]; exact hx), by
                cases ρ with
                | nil =>
                  have : y = x := by cases y <;> simpa [D.atU] using hx
                  rw [← this]; exact hsol
                | cons kl ρ => exact h.deep p (k, j) (i, l) (kl :: ρ) x (by rw [hcy]; exact hx)⟩
            cases y with
            | sl u sz' rows' => exact RO.flag (u := u) hro
            | _ => exact hro) (fun _ _ _ _ e => by cases e) (fun _ _ _ _ _ e => by cases e)
  refine ⟨G', key, ⟨rfl, rfl, rfl, Nat.le_refl _, fun b hb h0 => ⟨rfl, by simp [G', h0]⟩, fun b q π hq h0 => ⟨rfl, (hown b (q, π)).2 ⟨h0, hno q π fun e => absurd (by simp [e]) hq⟩⟩, fun b hb => .inl hb, fun b hb => ?_⟩, ?_⟩
  · rcases hb with hb | ⟨il, ρ, hb⟩
    · exact .inl hb
    · exact .inr (.inr ⟨p, _, by simp, hb⟩)
  · refine Fx.of (by cases p <;> rfl) (fun _ _ => rfl) (fun k' hk' ds' hd' => ?_) (fun _ _ _ _ => rfl)
    cases p with
    | s i' => exact ⟨ds', hd'⟩
    | v i' =>
      simp only [St.bump, St.setTop] at hd'
      by_cases e : k' = i'
      · subst e
        simp only [if_true] at hd'
        cases hv : σ.vr k' with
        | none => rw [hv] at hd'; cases hd'
        | some x =>
          obtain ⟨b, ds⟩ := x
          rw [hv] at hd'
          simp only [Option.some.injEq, Prod.mk.injEq] at hd'
          obtain ⟨rfl, _⟩ := hd'
          exact ⟨ds, rfl⟩
      · rw [if_neg e] at hd'; exact ⟨ds', hd'⟩

/-- The same, as a step of a walk: of a slot. -/
theorem swp_freezeIn (s : Nat) {sz : Nat} {rows rows' : List (List D)} {c : Code} {Q : Exit → St → Prop} (hs : σ.sl s = .one (.sl true sz rows)) (hr : (rows.map fun r => r.map D.ro) = rows') (h : SWP P c Q ((σ.setTop (.s s) 0 0 (.sl true sz rows')).bump (.s s) 0 0)) : SWP P c Q σ := fun G a w hR => by
  subst hr
  obtain ⟨G', h1, h2, h3⟩ := hR.freezeIn (p := .s s) (k := 0) (j := 0) (sz := sz) (rows := rows) (by simp [St.rows, hs, SV.rows, cellIn])
  refine wp_mono (h G' a w h1) fun e a' w' hl => ?_
  obtain ⟨σ', G'', k1, k2, k3, k4, k5⟩ := hl
  exact ⟨σ', G'', k1, k2, k3, h2.toKf.trans k4, h3.trans k5⟩

/-- In a drawn region: a slice inside of a slice is taken out. -/
theorem dw_grab {L : List Pl} {ops : Array Oper} {τ : St} (s : Nat) (q : Pl) {k j i l sz sz' : Nat} {rows rows' : List (List D)} {row : List D} {Q : St → Prop} {fuel : Nat} {listed : Array Bool} (hsn : s < σ.n) (hqs : q ≠ .s s) (hsl : σ.sl s = .one (.bor q [(k, j), (i, l)] (σ.sc q (k, j)) Option.none))
    (hq : cellIn (σ.rows q) (k, j) = some (.sl true sz rows)) (hi : rows[i]? = some row) (hl : row[l]? = some (.sl true sz' rows')) (hqL : q ∈ L) (hsL : .s s ∈ L)
    (h : ∀ v, DW P ops L Q fuel listed (σ.grab s q k j sz i l rows row (.sl true sz' rows') v) τ) : DW P ops L Q fuel listed σ τ := by
  intro G0 w0 σ0 B wb G Gt a w hR hT hk hx hnone hBi hBo hB hown
  obtain ⟨G', v, h1, h2, h3, h4⟩ := hR.grab hsn hqs hsl hq hi hl
  refine h v G0 w0 σ0 B wb G' Gt a w h1 hT (hk.trans h2.toKf) (hx.trans h4) hnone hBi hBo hB fun b hb => ⟨(hown b hb).1, fun x hx' => ?_⟩
  obtain ⟨c1, c2⟩ := hown b hb
  cases ho : G.own b with
  | none => have := (h2.free b c1 ho).2; rw [hx'] at this; cases this
  | some y =>
    obtain ⟨p, π⟩ := y
    have hp := c2 _ ho
    have := (h2.keep b p π (by
      simp only [List.mem_cons, List.not_mem_nil, or_false, not_or]
      exact ⟨fun e => hp (by rw [e]; exact hqL), fun e => hp (by rw [e]; exact hsL)⟩) ho).2
    rw [hx'] at this; cases this
    exact hp

end
end Go.AI

/-
  The abstract interpreter, part Zs: calls that are lent what they may hold on to, and see nothing else of the caller's.
-/
namespace Go.AI
open Go.RowKit

/-- The state behind a call that was lent one variable and one slot. -/
def St.resVS (σ : St) (d : Nat) (sv : SV) (k : Nat) (b : Bool) (ds : List D) (s : Nat) (x : D) : St where
  n := σ.n
  sl i := if i = d then sv.map D.extD else if i = s then .one x.extD else σ.sl i
  vr i := if i = k then some (b, ds.map D.extD) else σ.vr i
  sa := σ.sa
  sb q ij := if q = .s d ∨ q = .v k ∨ q = .s s then σ.tick else σ.sb q ij
  sc q ij := if q = .s d ∨ q = .v k ∨ q = .s s then σ.tick else σ.sc q ij
  tick := σ.tick + 1

section
variable {P : Program} {σ : St} {d i k s j m sz : Nat} {b : Bool} {ds : List D} {sv : SV} {x : D} {p q : Pl} {ij : Nat × Nat}

theorem resVS_n : (σ.resVS d sv k b ds s x).n = σ.n := rfl
theorem resVS_sl : (σ.resVS d sv k b ds s x).sl i = if i = d then sv.map D.extD else if i = s then .one x.extD else σ.sl i := rfl
theorem resVS_vr : (σ.resVS d sv k b ds s x).vr i = if i = k then some (b, ds.map D.extD) else σ.vr i := rfl
theorem resVS_sa : (σ.resVS d sv k b ds s x).sa i = σ.sa i := rfl
theorem resVS_sb : (σ.resVS d sv k b ds s x).sb p ij = if p = .s d ∨ p = .v k ∨ p = .s s then σ.tick else σ.sb p ij := rfl
theorem resVS_sc : (σ.resVS d sv k b ds s x).sc p ij = if p = .s d ∨ p = .v k ∨ p = .s s then σ.tick else σ.sc p ij := rfl
theorem resVS_tick : (σ.resVS d sv k b ds s x).tick = σ.tick + 1 := rfl

theorem after_two {E' : Nat → Option (Bool × List D)} {ds0 : List D} {x0 : D} (hv : σ.vr k = some (b, ds0)) (hE : E' vbase = some (b, ds)) (hs : σ.sl s = .one x0) (hE2 : E' (vbase + 1) = some (false, [x])) :
    σ.after [.v k, .s s] (some d) sv E' = σ.resVS d sv k b ds s x := by
  simp only [St.after, St.resVS, idx]
  congr 1
  · funext i
    by_cases e : i = d
    · simp [e]
    · by_cases e2 : i = s
      · subst e2; simp [e, Ne.symm e, hs, hE2, afterSl]
      · simp [e, Ne.symm e, e2, Ne.symm e2]
  · funext i
    by_cases e : i = k
    · subst e; simp [hv, hE]
    · have : ¬ (Pl.v k = Pl.v i) := fun h => e (by simpa using h.symm)
      simp [e, this]
  · funext q ij
    by_cases e : q = .s d
    · subst e; simp [isD_some]
    · by_cases e2 : q = .v k
      · subst e2; simp [isD_some]
      · by_cases e3 : q = .s s
        · subst e3; simp [isD_some]
        · simp [isD_some, e, e2, e3, Ne.symm e2, Ne.symm e3]
  · funext q ij
    by_cases e : q = .s d
    · subst e; simp [isD_some]
    · by_cases e2 : q = .v k
      · subst e2; simp [isD_some]
      · by_cases e3 : q = .s s
        · subst e3; simp [isD_some]
        · simp [isD_some, e, e2, e3, Ne.symm e2, Ne.symm e3]

/-- A call that is lent one variable. -/
theorem call_lendF (k : Nat) {f : Operand} {xs : List Operand} {T : Pl → Prop} {K : St → Prop} {g : FuncId} {caps : List D} {args : List SV} {Q : SV → (Nat → Option (Bool × List D)) → Prop} {ds0 dse : List D}
    (hrd : σ.rd f = .one (.clo g caps)) (hargs : (xs.map σ.rd ++ caps.map fun c => SV.one c.ro).map (argSV σ [.v k] false) = args) (hv : σ.vr k = some (b, ds0)) (he : ds0.map D.extD = dse) (hd : d < σ.n) (hT : T (.s d)) (hT2 : T (.v k)) (hg : enters P g = true)
    (hc : ∀ E, E vbase = some (b, dse) → AC P g args E Q) (hK : ∀ sv E', Q sv E' → ∃ ds, E' vbase = some (b, ds) ∧ K (σ.resV d sv k b ds)) : callA P σ f xs (some d) T K := by
  subst he
  refine .inl ⟨g, caps, [.v k], false, Q, hrd, by simp, fun q hq => ?_, fun i hi => by cases hi; exact hd, fun q hq => ?_, fun i hi => by cases hi; exact hT, ⟨hg, by rw [hargs]; exact hc _ (by simp [St.ext, hv])⟩, fun sv E' hQ => ⟨fun h => (by cases h), ?_⟩⟩
  · simp only [List.mem_singleton] at hq; subst hq; rfl
  · simp only [List.mem_singleton] at hq; subst hq; exact hT2
  · obtain ⟨ds, h2, h4⟩ := hK sv E' hQ
    rw [after_one hv h2]; exact h4

/-- A call that is lent one variable and one slot. -/
theorem call_lend2F (k s : Nat) {f : Operand} {xs : List Operand} {T : Pl → Prop} {K : St → Prop} {g : FuncId} {caps : List D} {args : List SV} {Q : SV → (Nat → Option (Bool × List D)) → Prop} {ds0 dse : List D} {x0 xe : D}
    (hrd : σ.rd f = .one (.clo g caps)) (hargs : (xs.map σ.rd ++ caps.map fun c => SV.one c.ro).map (argSV σ [.v k, .s s] false) = args) (hv : σ.vr k = some (b, ds0)) (he : ds0.map D.extD = dse) (hs : σ.sl s = .one x0) (hxe : x0.extD = xe) (hd : d < σ.n) (hsd : s ≠ d) (hT : T (.s d)) (hT2 : T (.v k)) (hT3 : T (.s s)) (hg : enters P g = true)
    (hc : ∀ E, E vbase = some (b, dse) → E (vbase + 1) = some (false, [xe]) → AC P g args E Q) (hK : ∀ sv E', Q sv E' → ∃ ds x, E' vbase = some (b, ds) ∧ E' (vbase + 1) = some (false, [x]) ∧ K (σ.resVS d sv k b ds s x)) : callA P σ f xs (some d) T K := by
  subst he; subst hxe
  refine .inl ⟨g, caps, [.v k, .s s], false, Q, hrd, by simp, fun q hq => ?_, fun i hi => by cases hi; exact hd, fun q hq => ?_, fun i hi => by cases hi; exact hT, ⟨hg, by rw [hargs]; exact hc _ (by simp [St.ext, hv]) (by simp [St.ext, hs, vbase])⟩, fun sv E' hQ => ⟨fun h => (by cases h), ?_⟩⟩
  · simp only [List.mem_cons, List.not_mem_nil, or_false] at hq
    rcases hq with rfl | rfl
    · rfl
    · simp [isD_some, hsd]
  · simp only [List.mem_cons, List.not_mem_nil, or_false] at hq
    rcases hq with rfl | rfl
    · exact hT2
    · exact hT3
  · obtain ⟨ds, x, h2, h3, h4⟩ := hK sv E' hQ
    rw [after_two hv h2 hs h3]; exact h4
end
attribute [go_sem] resVS_n resVS_sl resVS_vr resVS_sa resVS_sb resVS_sc resVS_tick

/-- A nil slice in a variable's cell is owned there. -/
theorem swp_nilV {P : Program} {σ : St} {c : Code} {Q : Exit → St → Prop} (v j sz : Nat) {b : Bool} {ds : List D} (hv : σ.vr v = some (b, ds)) (hj : ds[j]? = some .nil)
    (h : SWP P c Q ((σ.setTop (.v v) 0 j (.sl true sz [])).bump (.v v) 0 j)) : SWP P c Q σ := fun G a w hR => by
  have hc : cellIn (σ.rows (.v v)) (0, j) = some .nil := by simp [St.rows, hv, cellIn, hj]
  have h1 := hR.nilOwn sz hc
  refine wp_mono (h _ a w h1) fun e a' w' hl => ?_
  obtain ⟨σ', G'', k1, k2, k3, k4, k5⟩ := hl
  refine ⟨σ', G'', k1, k2, k3, (Kp.toKf (t := [.v v]) ⟨rfl, rfl, rfl, Nat.le_refl _, fun b hb h0 => ⟨rfl, by simp [Gh.drop, h0]⟩, fun b x π hx h0 => ⟨rfl, Gh.drop_own.2 ⟨h0, fun e => absurd (by simp [e]) hx⟩⟩, fun _ hb => hb, fun _ hb => .inl hb⟩).trans k4, Fx.trans (Fx.of (σ := σ) (σ' := (σ.setTop (.v v) 0 j (.sl true sz [])).bump (.v v) 0 j) (G := G) (G' := G.drop (.v v) 0 j) rfl (fun _ _ => rfl) (fun k' hk' ds' hd' => ?_) (fun _ _ _ _ => rfl)) k5⟩
  simp only [St.bump, St.setTop] at hd'
  by_cases e : k' = v
  · subst e
    simp only [if_true, hv] at hd'
    simp only [Option.some.injEq, Prod.mk.injEq] at hd'
    obtain ⟨rfl, _⟩ := hd'
    exact ⟨ds, hv⟩
  · rw [if_neg e] at hd'; exact ⟨ds', hd'⟩

/-- In a drawn region: a copy of a temporary is taken first, whoever touches what it speaks of. -/
theorem dw_takeP {P : Program} {σ τ : St} {ops : Array Oper} {o : Oper} {L : List Pl} (i : Nat) {x : Operand} {d : Nat} {sv : SV} {Q : St → Prop} {fuel : Nat} {listed : Array Bool} (hi : ops[i]? = some o) (ho : o.op = .move x) (hs : Region.noSelect ops = true) (hf : Region.free .any ops listed i = true)
    (hr : (Region.ready .any ops listed).contains i = true) (hd : o.dst = some d) (hg : guardS ops σ o = some true) (hn : d < σ.n) (hn' : d < τ.n) (hL : Pl.s d ∉ L) (hx : σ.rd x = sv)
    (h : DW P ops L Q fuel (listed.setIfInBounds i true) (σ.put d sv) (τ.put d .none)) : DW P ops L Q (fuel + 1) listed σ τ := by
  subst hx
  intro G0 w0 σ0 B wb G Gt a w hR hT hk hxx hnone hBi hBo hB hown
  have hw := guard_spec hR hg
  refine wpAnyH_take hi hs hf hr (fun c a w => panic_lift c a w) (v := a.eval x) (.inl ⟨hw, fun w'' hS => ?_⟩) hB ?_
  · simp only [execOp, ho]; rfl
  · obtain ⟨G', g1, g2, g3, g4, g5⟩ := hR.putK hn (hR.rd x)
    obtain ⟨Gt', k1, k2, k3, k4, k5⟩ := hT.putT (sv := .none) (v := a.eval x) hn' ⟨fun _ _ => undef, trivial, fun k j y hy => by simp [SV.rows, cellIn] at hy⟩
    rw [hd]
    refine h G0 w0 σ0 B wb G' Gt' _ w g1 k1 (hk.trans g2.toKf) (hxx.trans g5) (fun j hj => ?_) (fun b hb => hBi b (by rw [← k2]; exact hb)) (fun b q hb => ?_) hB (fun b hb => ⟨(hown b hb).1, fun q hq => ?_⟩)
    · simp only [St.put]
      rw [if_neg (fun e => hL (by rw [← e]; exact hj))]
      exact hnone j hj
    · obtain ⟨q, π⟩ := q
      exact hBo b (q, π) ((k5 b q π).1 hb).1
    · obtain ⟨q, π⟩ := q
      by_cases e : q = .s d
      · rw [e]; exact hL
      · exact (hown b hb).2 (q, π) (g4 b q π e hq)

/-- A nil slice inside of a slice is owned there. -/
theorem R.nilIn {P : Program} {G : Gh} {σ : St} {a : Act} {w : World} (h : R G σ a w) {p : Pl} {k j sz i l : Nat} (sz' : Nat) {rows : List (List D)} {row : List D} (hp : cellIn (σ.rows p) (k, j) = some (.sl true sz rows)) (hrow : rows[i]? = some row) (hx : row[l]? = some .nil) :
    R G ((σ.setTop p k j (.sl true sz (rows.set i (row.set l (.sl true sz' []))))).bumpC p k j) a w := by
  have hcx : cellIn rows (i, l) = some .nil := cellIn_some.2 ⟨row, hrow, hx⟩
  have hcellO : ∀ ρ, σ.cell p ((k, j) :: ρ) = D.atU (.sl true sz rows) ρ := fun ρ => by simp [St.cell, hp]
  have hi := (List.getElem?_eq_some_iff.1 hrow).1
  have hl := (List.getElem?_eq_some_iff.1 hx).1
  have hval : G.val p [(k, j), (i, l)] = .slice Option.none 0 0 := by
    have h1 := h.loc p [(k, j), (i, l)] .nil (by rw [hcellO]; simp [D.atU, hcx])
    obtain ⟨f, h1, h2⟩ := (show RO G.imm w .nil (G.val p [(k, j), (i, l)]) from h1)
    rw [← h1]; exact h2 [] .nil rfl
  refine h.topC hp rfl rfl rfl rfl (h.same fun _ _ _ => rfl) (fun _ _ _ => rfl) (fun b q π hq hb => hb) (fun b q π _ _ _ => SameAt.refl w b) (fun _ hb => hb) (fun b _ => SameAt.refl w b) h.immOwn h.immLt h.ownLt ?_ ?_
  · rintro i' ds rfl hv
    obtain ⟨_, h2, h3⟩ := h.vars i' ds hv
    exact ⟨h2, h3⟩
  · intro ρ x' hρ
    cases ρ with
    | nil =>
      simp [D.atU] at hρ; subst hρ
      refine ⟨?_, fun e => absurd rfl e⟩
      show LocOwn G w p [(k, j)] sz _
      rcases (show LocOwn G w p [(k, j)] sz rows from h.loc p [(k, j)] (.sl true sz rows) (by rw [hcellO]; rfl)) with ⟨e1, e2⟩ | ⟨b, o, c, e1, e2, e3, e4, e5⟩
      · rw [e1] at hi; simp at hi
      · refine .inr ⟨b, o, c, by rw [List.length_set]; exact e1, by rw [List.length_set]; exact e2, e3, e4, fun i' row' hr => ?_⟩
        by_cases e : i = i'
        · subst e
          rw [List.getElem?_set_self hi] at hr
          simp only [Option.some.injEq] at hr; subst hr
          rw [List.length_set]
          exact e5 i row hrow
        · rw [List.getElem?_set_ne e] at hr
          exact e5 i' row' hr
    | cons il ρ =>
      obtain ⟨i', l'⟩ := il
      simp only [D.atU] at hρ
      by_cases e : i' = i ∧ l' = l
      · obtain ⟨rfl, rfl⟩ := e
        have hc : cellIn (rows.set i' (row.set l' (.sl true sz' []))) (i', l') = some (.sl true sz' []) :=
          cellIn_some.2 ⟨_, List.getElem?_set_self hi, List.getElem?_set_self hl⟩
        rw [hc] at hρ
        simp only at hρ
        cases ρ with
        | nil => simp [D.atU] at hρ; subst hρ; exact ⟨.inl ⟨rfl, hval⟩, fun _ => rfl⟩
        | cons kl ρ => simp [D.atU, cellIn] at hρ
      · have hc : cellIn (rows.set i (row.set l (.sl true sz' []))) (i', l') = cellIn rows (i', l') := by
          simp only [cellIn]
          by_cases e1 : i = i'
          · subst e1
            have e2 : l ≠ l' := fun e2 => e ⟨rfl, e2.symm⟩
            rw [List.getElem?_set_self hi, hrow]
            simp only [Option.bind_some]
            rw [List.getElem?_set_ne e2]
          · rw [List.getElem?_set_ne e1]
        rw [hc] at hρ
        have hcx' : σ.cell p ((k, j) :: (i', l') :: ρ) = some x' := by
          rw [hcellO]; simpa only [D.atU] using hρ
        have hll := h.loc p _ x' hcx'
        have hsol := h.deep p (k, j) (i', l') ρ x' hcx'
        by_cases ho : x'.isOwn = true
        · cases x' with
          | sl u sz' rows' =>
            cases u with
            | false => simp [D.isOwn] at ho
            | true => exact ⟨hll, fun _ => rfl⟩
          | _ => simp [D.isOwn] at ho
        · have ho' : x'.isOwn = false := by simpa using ho
          exact ⟨Loc.ofV (LocV.ofSolid ((hll.toV ho').solid hsol) hsol ho'), fun _ => hsol⟩

/-- The same, as a step of a walk: of a slot. -/
theorem swp_nilIn {P : Program} {σ : St} {c : Code} {Q : Exit → St → Prop} (s i l sz' : Nat) {sz : Nat} {rows : List (List D)} {row : List D} (hs : σ.sl s = .one (.sl true sz rows)) (hi : rows[i]? = some row) (hl : row[l]? = some .nil)
    (h : SWP P c Q ((σ.setTop (.s s) 0 0 (.sl true sz (rows.set i (row.set l (.sl true sz' []))))).bumpC (.s s) 0 0)) : SWP P c Q σ := fun G a w hR => by
  have h1 := hR.nilIn (P := P) (p := .s s) (k := 0) (j := 0) (sz := sz) (rows := rows) sz' (by simp [St.rows, hs, SV.rows, cellIn]) hi hl
  refine wp_mono (h _ a w h1) fun e a' w' hl => ?_
  obtain ⟨σ', G'', k1, k2, k3, k4, k5⟩ := hl
  exact ⟨σ', G'', k1, k2, k3, k4, Fx.trans (Fx.of (σ := σ) (σ' := (σ.setTop (.s s) 0 0 (.sl true sz (rows.set i (row.set l (.sl true sz' []))))).bumpC (.s s) 0 0) (G := G) (G' := G) rfl (fun _ _ => rfl) (fun k' hk' ds' hd' => ⟨ds', hd'⟩) (fun _ _ _ _ => rfl)) k5⟩
end Go.AI

/-
  The abstract interpreter, part Zt: steps in the middle of a region; the front of a slice is taken; an argument that is given away.
-/
namespace Go.AI
open Go.RowKit

section
variable {P : Program} {ops : Array Oper} {σ : St}

theorem wpList_app {K Q : Exit → Act → World → Prop} {l2 : List Oper} (hK : ∀ a w, K .normal a w → wpList P ops Q l2 a w) (hx : ∀ e a w, e ≠ .normal → K e a w → Q e a w) : ∀ (l : List Oper) {a : Act} {w : World}, wpList P ops K l a w → wpList P ops Q (l ++ l2) a w
  | [], a, w, h => hK a w h
  | o :: r, a, w, h => by
    rw [List.cons_append]
    unfold wpList at h ⊢
    split
    · next hw =>
      rw [if_pos hw] at h
      rcases h with h | ⟨h1, a', w', h2⟩
      · left
        unfold Oper.wp at h ⊢
        generalize (execOp a.eval o).run P w = rr at h
        cases rr with
        | ok n w' =>
          cases n <;> simp only [Oper.upon] at h ⊢
          case value v => exact wpList_app hK hx r h
          case skip => exact wpList_app hK hx r h
          case defer d => exact wpList_app hK hx r h
          case enter f args =>
            refine Calls.mono h fun e w'' he => ?_
            cases e with
            | returned v => exact wpList_app hK hx r he
            | panicked c => exact hx _ _ _ (by simp) he
            | outgrown => obtain ⟨a', w', he⟩ := he; exact ⟨a', w', hx _ _ _ (by simp) he⟩
          case row row args => exact Rows.mono h fun v w'' he => wpList_app hK hx r he
        | halt x w' =>
          cases x <;> simp only [Oper.upon] at h ⊢
          case panic v => exact hx _ _ _ (by simp) h
      · right
        exact ⟨h1, a', w', hx _ _ _ (by simp) h2⟩
    · next hw =>
      rw [if_neg hw] at h
      exact wpList_app hK hx r h

/-- What is left of a region's operations, as it runs. -/
def OWP (P : Program) (ops : Array Oper) (Q : St → Prop) (r : List Oper) (σ : St) : Prop := ∀ G a w, R G σ a w → wpList P ops (lift G w σ (fun e σ' => e = .normal ∧ Q σ')) r a w

theorem swp_owp {id : Nat} {Q : Exit → St → Prop} (h : OWP P ops (Q .normal) ops.toList σ) : SWP P (.region id ops false) Q σ := fun G a w hR => wp_mono (wp_region_list (h G a w hR)) fun e a' w' hl => by
  obtain ⟨σ', G', ⟨rfl, h1⟩, h2⟩ := hl
  exact ⟨σ', G', h1, h2⟩

theorem owp_all {Q : St → Prop} {r : List Oper} (h : awpOps P ops Q r σ) : OWP P ops Q r σ := fun _ _ _ hR => awpOps_sound r h hR

/-- The first n operations, then whatever step, then the rest. -/
theorem owp_run (n : Nat) {Q : St → Prop} {r : List Oper} (h : awpOps P ops (OWP P ops Q (r.drop n)) (r.take n) σ) : OWP P ops Q r σ := fun G a w hR => by
  have h1 := awpOps_sound _ h hR
  have h2 := wpList_app (Q := lift G w σ (fun e σ' => e = .normal ∧ Q σ')) (l2 := r.drop n) (fun a' w' hl => by
    obtain ⟨σ', G', ⟨_, g1⟩, g2, g3, g4, g5⟩ := hl
    exact wpList_mono (fun e a'' w'' hl' => lift_trans g4 g5 hl') _ (g1 G' a' w' g3)) (fun e a' w' he hl => by
    obtain ⟨σ', G', ⟨e1, _⟩, _⟩ := hl
    exact absurd e1 he) _ h1
  rw [List.take_append_drop] at h2
  exact h2

/-- A step that changes what is told, and nothing else. -/
theorem owp_step {Q : St → Prop} {r : List Oper} {σ' : St} (hs : ∀ G a w, R G σ a w → ∃ G', R G' σ' a w ∧ Kf G w G' w ∧ Fx σ σ' G G') (h : OWP P ops Q r σ') : OWP P ops Q r σ := fun G a w hR => by
  obtain ⟨G', h1, h2, h3⟩ := hs G a w hR
  exact wpList_mono (fun e a'' w'' hl => lift_trans h2 h3 hl) r (h G' a w h1)

theorem swp_step {Q : Exit → St → Prop} {c : Code} {σ' : St} (hs : ∀ G a w, R G σ a w → ∃ G', R G' σ' a w ∧ Kf G w G' w ∧ Fx σ σ' G G') (h : SWP P c Q σ') : SWP P c Q σ := fun G a w hR => by
  obtain ⟨G', h1, h2, h3⟩ := hs G a w hR
  exact wp_mono (h G' a w h1) fun e a'' w'' hl => lift_trans h2 h3 hl

/-- What a slot holds on loan it comes to own: an argument that is given away. -/
theorem swp_claim (s : Nat) {Q : Exit → St → Prop} {c : Code} (h : SWP P c Q (σ.claim1 (.s s) 0 0)) : SWP P c Q σ := swp_step (fun G a w hR => by
  obtain ⟨G', h1, h2, _, h4⟩ := hR.claim1 (.s s) 0 0
  exact ⟨G', h1, h2.toKf, h4⟩) h
end

section
variable {P : Program} {G : Gh} {σ : St} {a : Act} {w : World}

theorem take_cellIn {rows : List (List D)} {n i l : Nat} {y : D} (h : cellIn (rows.take n) (i, l) = some y) : i < n ∧ cellIn rows (i, l) = some y := by
  obtain ⟨row, h1, h2⟩ := cellIn_some.1 h
  rw [List.getElem?_take] at h1
  split at h1
  · next hi => exact ⟨hi, cellIn_some.2 ⟨row, h1, h2⟩⟩
  · cases h1

/-- The state in which a slot owns the front of what was owned elsewhere. -/
def St.front (σ : St) (s : Nat) (q : Pl) (k j sz : Nat) (rows : List (List D)) : St :=
  ((((σ.setTop q k j .dead).bump q k j).setTop (.s s) 0 0 (.sl true sz rows)).bump (.s s) 0 0)

theorem R.front (h : R G σ a w) {s : Nat} {q : Pl} {k j sz hi : Nat} {rows : List (List D)} (hqs : q ≠ .s s) (hsl : σ.sl s = .one (.bor q [(k, j)] (σ.sb q (k, j)) (some (0, hi)))) (hq : cellIn (σ.rows q) (k, j) = some (.sl true sz rows)) (hhi : hi ≤ rows.length) :
    ∃ G', R G' (σ.front s q k j sz (rows.take hi)) a w ∧ Kp [q, .s s] G w G' w ∧ Fx σ (σ.front s q k j sz (rows.take hi)) G G' := by
  have htree := h.tree hq
  have hval0 : G.val (.s s) [(0, 0)] = rgval (some (0, hi)) sz (G.val q [(k, j)]) := by
    have e2 := h.loc (.s s) [(0, 0)] (.bor q [(k, j)] (σ.sb q (k, j)) (some (0, hi))) (by simp [St.cell, St.rows, hsl, SV.rows, cellIn, D.atU])
    exact e2 rfl sz rows (by simp [St.cell, hq, D.atU])
  have hdrop := h.drop (p := q) (k := k) (j := j) (by rw [hq]; rfl)
  have hsl1 : ((σ.setTop q k j .dead).bump q k j).sl s = .one (.bor q [(k, j)] (σ.sb q (k, j)) (some (0, hi))) := by
    rw [← hsl]
    cases q with
    | s i' =>
      have : s ≠ i' := fun e => hqs (by rw [e])
      simp [St.bump, St.setTop, this]
    | v i' => rfl
  let f : Path → Value := fun ρ => match ρ with
    | [] => rgval (some (0, hi)) sz (G.val q [(k, j)])
    | ij :: ρ => G.val q ((k, j) :: ij :: ρ)
  let om : Nat → Option Path := fun b => match (G.own b).bind (under q k j) with
    | some [] => some []
    | some ((i, l) :: ρ) => if i < hi then some ((i, l) :: ρ) else Option.none
    | Option.none => Option.none
  have hom : ∀ b π, om b = some π → G.own b = some (q, (k, j) :: π) := fun b π hb => by
    simp only [om] at hb
    cases hu : (G.own b).bind (under q k j) with
    | none => rw [hu] at hb; cases hb
    | some τ =>
      obtain ⟨⟨x, ξ⟩, e1, e2⟩ := Option.bind_eq_some_iff.1 hu
      obtain ⟨rfl, rfl⟩ := under_some.1 e2
      rw [hu] at hb
      cases τ with
      | nil => simp at hb; subst hb; exact e1
      | cons il ρ =>
        obtain ⟨i, l⟩ := il
        simp only at hb
        split at hb
        · simp at hb; subst hb; exact e1
        · cases hb
  have hom2 : ∀ b π, (G.own b).bind (under q k j) = some π → (∀ i l ρ, π = (i, l) :: ρ → i < hi) → om b = some π := fun b π hb hi' => by
    simp only [om, hb]
    cases π with
    | nil => rfl
    | cons il ρ => obtain ⟨i, l⟩ := il; simp [hi' i l ρ rfl]
  have ht : Tree (G.drop q k j).imm w om f (.sl true sz (rows.take hi)) := by
    intro π d' hd
    cases π with
    | nil =>
      simp [D.atU] at hd; subst hd
      rcases htree [] (.sl true sz rows) rfl with ⟨e1, e2⟩ | ⟨b, o, c, e1, e2, e3, e4, e5⟩
      · subst e1
        refine .inl ⟨by simp, ?_⟩
        show rgval (some (0, hi)) sz (G.val q [(k, j)]) = _
        have e2 : G.val q [(k, j)] = .slice Option.none 0 0 := e2
        have : hi = 0 := by simpa using hhi
        subst this
        rw [e2]; simp [rgval]
      · have e1 : G.val q [(k, j)] = .slice (some ⟨b, o, Option.none⟩) rows.length c := e1
        have hlen : (rows.take hi).length = hi := by simp; omega
        refine .inr ⟨b, o, c, ?_, by omega, hom2 b [] e3 (fun i l ρ e => by cases e), e4, fun i row hr => ?_⟩
        · show rgval (some (0, hi)) sz (G.val q [(k, j)]) = _
          rw [e1, hlen]
          by_cases hc : c = 0
          · simp [rgval, hc]
          · simp [rgval, hc, Addr.add]
        · rw [List.getElem?_take] at hr
          split at hr
          · exact e5 i row hr
          · cases hr
    | cons il π =>
      obtain ⟨i, l⟩ := il
      simp only [D.atU] at hd
      cases hc : cellIn (rows.take hi) (i, l) with
      | none => rw [hc] at hd; cases hd
      | some y =>
        rw [hc] at hd
        obtain ⟨hii, hc'⟩ := take_cellIn hc
        have h1 := htree ((i, l) :: π) d' (by simp only [D.atU, hc']; exact hd)
        by_cases ho : d'.isOwn = true
        · cases d' with
          | sl u sz' rows' =>
            cases u with
            | false => simp [D.isOwn] at ho
            | true =>
              rcases h1 with ⟨e1, e2⟩ | ⟨b, o, c, e1, e2, e3, e4, e5⟩
              · exact .inl ⟨e1, e2⟩
              · exact .inr ⟨b, o, c, e1, e2, hom2 b _ e3 (fun i' l' ρ e => by cases e; exact hii), e4, e5⟩
          | _ => simp [D.isOwn] at ho
        · have ho' : d'.isOwn = false := by simpa using ho
          obtain ⟨q1, q2⟩ := h1.ro ho'
          exact TLoc.ofRO q1 q2 ho'
  have hnone : ∀ b π, om b = some π → (G.drop q k j).own b = Option.none := fun b π hb => by
    have h1 := hom b π hb
    cases ho : (G.drop q k j).own b with
    | none => rfl
    | some x =>
      obtain ⟨x, τ⟩ := x
      obtain ⟨e1, e2⟩ := Gh.drop_own.1 ho
      rw [h1] at e1; cases e1
      exact absurd ⟨_, rfl⟩ (e2 rfl)
  obtain ⟨G2, h2, hi2, hb2, hown2, hnone2, hval2⟩ := hdrop.fill (x := .sl true sz (rows.take hi)) (f := f) (om := om) hsl1 rfl hval0 ht rfl (fun b π hb => ⟨hnone b π hb, fun (hm : G.imm b) => by
    have h1 := hom b π hb
    rw [h.immOwn b hm] at h1
    exact absurd h1 (by simp), h.ownLt b _ (hom b π hb)⟩)
  refine ⟨G2, h2, ?_, ?_⟩
  · refine ⟨rfl, rfl, rfl, Nat.le_refl _, fun b hb h0 => ⟨rfl, ?_⟩, fun b p π hp h0 => ⟨rfl, ?_⟩, fun b hb => by rw [hi2]; exact hb, fun b hb => .inl (by rw [hi2] at hb; exact hb)⟩
    · rcases hnone2 b (by simp [Gh.drop, h0]) with h9 | ⟨π', h9⟩
      · exact h9
      · have := hom b π' h9; rw [h0] at this; cases this
    · simp only [List.mem_cons, List.not_mem_nil, or_false, not_or] at hp
      exact hown2 b p π hp.2 (Gh.drop_own.2 ⟨h0, fun e => absurd e hp.1⟩)
  · refine Fx.of (by cases q <;> rfl) (fun k' _ => by rw [hb2]; rfl) (fun k' hk' ds' hd' => ?_) (fun k' hk' kj ds' => ?_)
    · cases q with
      | s i' => exact ⟨ds', hd'⟩
      | v i' =>
        simp only [St.front, St.bump, St.setTop] at hd'
        by_cases e : k' = i'
        · subst e
          simp only [if_true] at hd'
          cases hv : σ.vr k' with
          | none => rw [hv] at hd'; cases hd'
          | some x =>
            obtain ⟨b, ds⟩ := x
            rw [hv] at hd'
            simp only [Option.some.injEq, Prod.mk.injEq] at hd'
            obtain ⟨rfl, _⟩ := hd'
            exact ⟨ds, rfl⟩
        · rw [if_neg e] at hd'; exact ⟨ds', hd'⟩
    · rw [hval2 _ _ (by simp)]; rfl
end

section
variable {P : Program} {ops : Array Oper} {σ τ : St} {L : List Pl}
/-- What an operation yields that asks no memory. -/
def pureS (P : Program) (σ : St) (o : Oper) : Option SV :=
  match o.op with
  | .fieldAddr t x f => fieldAddrS P σ t x f
  | .indexAddr t x ix => indexAddrS P σ t x ix
  | .binOp op t x y _ => binOpS P σ (fun _ _ _ => Option.none) op t x y
  | .call { callee := .builtin .len, args := args, argTypes := ts } => match args.toList, ts.toList with
    | [x], [t] => lenS P σ t x
    | _, _ => Option.none
  | _ => Option.none

theorem pureS_gives {G : Gh} {a : Act} {w : World} {o : Oper} (h : R G σ a w) {sv : SV} (hs : pureS P σ o = some sv) : Gives0 P G σ a w o sv := by
  unfold pureS at hs
  split at hs
  · next ho => exact fieldAddr_gives0 h ho hs
  · next ho => exact indexAddr_gives0 h ho hs
  · next ho => exact binOp_gives0 h ho hs
  · next args ts ho =>
    split at hs
    · next x t hx ht =>
      have ex : args = #[x] := Array.toList_inj.1 (by simpa using hx)
      have et : ts = #[t] := Array.toList_inj.1 (by simpa using ht)
      subst ex; subst et
      exact len_gives0 h ho hs
    · cases hs
  · cases hs

/-- In a drawn region: what asks no memory is taken first, whoever touches what it speaks of. -/
theorem dw_takeQ {o : Oper} (i : Nat) {d : Nat} {sv : SV} {Q : St → Prop} {fuel : Nat} {listed : Array Bool} (hi : ops[i]? = some o) (hs : Region.noSelect ops = true) (hf : Region.free .any ops listed i = true)
    (hr : (Region.ready .any ops listed).contains i = true) (hd : o.dst = some d) (hg : guardS ops σ o = some true) (hn : d < σ.n) (hn' : d < τ.n) (hL : Pl.s d ∉ L) (hx : pureS P σ o = some sv)
    (h : DW P ops L Q fuel (listed.setIfInBounds i true) (σ.put d sv) (τ.put d .none)) : DW P ops L Q (fuel + 1) listed σ τ := by
  intro G0 w0 σ0 B wb G Gt a w hR hT hk hxx hnone hBi hBo hB hown
  have hw := guard_spec hR hg
  obtain ⟨v, e1, t1⟩ := pureS_gives hR hx
  refine wpAnyH_take hi hs hf hr (fun c a w => panic_lift c a w) (v := v) (.inl ⟨hw, fun w'' hS => e1 w''⟩) hB ?_
  obtain ⟨G', g1, g2, g3, g4, g5⟩ := hR.putK hn t1
  obtain ⟨Gt', k1, k2, k3, k4, k5⟩ := hT.putT (sv := .none) (v := v) hn' ⟨fun _ _ => undef, trivial, fun k j y hy => by simp [SV.rows, cellIn] at hy⟩
  rw [hd]
  refine h G0 w0 σ0 B wb G' Gt' _ w g1 k1 (hk.trans g2.toKf) (hxx.trans g5) (fun j hj => ?_) (fun b hb => hBi b (by rw [← k2]; exact hb)) (fun b q hb => ?_) hB (fun b hb => ⟨(hown b hb).1, fun q hq => ?_⟩)
  · simp only [St.put]
    rw [if_neg (fun e => hL (by rw [← e]; exact hj))]
    exact hnone j hj
  · obtain ⟨q, π⟩ := q
    exact hBo b (q, π) ((k5 b q π).1 hb).1
  · obtain ⟨q, π⟩ := q
    by_cases e : q = .s d
    · rw [e]; exact hL
    · exact (hown b hb).2 (q, π) (g4 b q π e hq)

/-- Some may come up: each of them is walked. -/
def AllA (P : Program) (ops : Array Oper) (L : List Pl) (K : Nat → St → Prop) (σ : St) : List Nat → Prop
  | [] => True
  | i :: r => nextA P ops L i (K i) σ ∧ AllA P ops L K σ r

theorem dw_anyA (is : List Nat) {Q : St → Prop} {fuel : Nat} {listed : Array Bool} (hok : (Region.ready .any ops listed == is && is != [] && is.all fun i => (ops[i]?.map (dstIn L)).getD false) = true)
    (h : AllA P ops L (fun i σ' => DW P ops L Q fuel (listed.setIfInBounds i true) σ' τ) σ is) : DW P ops L Q (fuel + 1) listed σ τ := by
  simp only [Bool.and_eq_true, beq_iff_eq, bne_iff_ne, ne_eq, List.all_eq_true] at hok
  intro G0 w0 σ0 B wb G Gt a w hR hT hk hx hnone hBi hBo hB hown
  refine wpAnyH_all hok.1.1 hok.1.2 fun j hj => ?_
  have hj2 := hok.2 j hj
  have hA : nextA P ops L j (fun σ' => DW P ops L Q fuel (listed.setIfInBounds j true) σ' τ) σ := by
    have go : ∀ l : List Nat, j ∈ l → AllA P ops L (fun i σ' => DW P ops L Q fuel (listed.setIfInBounds i true) σ' τ) σ l → nextA P ops L j (fun σ' => DW P ops L Q fuel (listed.setIfInBounds j true) σ' τ) σ := by
      intro l
      induction l with
      | nil => intro h; cases h
      | cons i r ih =>
        intro hm h
        rcases List.mem_cons.1 hm with e | e
        · subst e; exact h.1
        · exact ih e h.2
    exact go is hj h
  unfold nextA at hA
  split at hA
  · next o hi =>
    have hd : dstIn L o = true := by simpa [hi] using hj2
    split at hA
    · next b hg => exact dw_one (dstIn_spec hd) hg hA hR hT hk hx hnone hBi hBo hB hown hi
    · exact hA.elim
  · exact hA.elim
end
attribute [go_sem] pureS
end Go.AI
