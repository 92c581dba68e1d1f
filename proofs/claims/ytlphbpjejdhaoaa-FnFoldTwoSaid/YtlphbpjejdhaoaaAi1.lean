/- An abstract interpreter of the model's code, shown sound: data, states, what a state tells of a world. No condition. -/
import Derived.Calls
import Derived.Below
import Derived.WalkKit
import Derived.Deep.MidRow
import Derived.Deep.AppendSrc
import Derived.LoopTactic
set_option linter.unusedSimpArgs false
set_option linter.unusedVariables false

/-
  The abstract interpreter, part A: data, states, and what it means that a state tells of a frame and a world.
-/
namespace Go.AI
open Go.RowKit

abbrev Path := List (Nat × Nat)
inductive Pl where
  | s (i : Nat)
  | v (i : Nat)
  deriving DecidableEq

inductive D where
  | lit (v : Value)
  | sl (u : Bool) (sz : Nat) (rows : List (List D))
  | bor (p : Pl) (π : Path) (n : Nat) (rg : Option (Nat × Nat))
  | addr (p : Pl) (π : Path) (i j : Nat) (n : Nat)
  | raddr (row : List D)
  | clo (f : FuncId) (caps : List D)
  | nil
  | dead
  deriving Inhabited

inductive SV where
  | none
  | one (d : D)
  | agg (ds : List D)
  | tup (cs : List (Bool × List D))
  deriving Inhabited

def SV.rows : SV → List (List D)
  | .none => []
  | .one d => [[d]]
  | .agg ds => [ds]
  | .tup cs => cs.map (·.2)

structure St where
  n : Nat
  sl : Nat → SV
  vr : Nat → Option (Bool × List D)
  sa : Nat → Nat
  sb : Pl → Nat × Nat → Nat
  sc : Pl → Nat × Nat → Nat
  tick : Nat

def St.rows (σ : St) : Pl → List (List D)
  | .s i => (σ.sl i).rows
  | .v i => match σ.vr i with
    | some (_, ds) => [ds]
    | Option.none => []

def cellIn (rows : List (List D)) (ij : Nat × Nat) : Option D := rows[ij.1]?.bind (·[ij.2]?)

/-- Down a path through slices that are owned alone. -/
def D.atU : D → Path → Option D
  | d, [] => some d
  | .sl true _ rows, ij :: π => match cellIn rows ij with
    | some d => d.atU π
    | Option.none => Option.none
  | _, _ :: _ => Option.none

def D.subs : D → List (List D)
  | .sl _ _ rows => rows
  | .raddr row => [row]
  | .clo _ caps => [caps]
  | _ => []

/-- Down a path through whatever there is. -/
def D.at (d : D) : Path → Option D
  | [] => some d
  | ij :: π => match cellIn d.subs ij with
    | some d' => d'.at π
    | Option.none => Option.none

def St.cell (σ : St) (p : Pl) : Path → Option D
  | [] => Option.none
  | ij :: π => match cellIn (σ.rows p) ij with
    | some d => d.atU π
    | Option.none => Option.none

def St.stp (σ : St) (p : Pl) : Path → Nat
  | [] => match p with
    | .v k => σ.sa k
    | .s _ => 0
  | [ij] => σ.sb p ij
  | ij :: _ :: _ => σ.sc p ij

/-! ### Data that nobody changes -/
def ROloc (imm : Nat → Prop) (w : World) (f : Path → Value) (π : Path) : D → Prop
  | .lit v => f π = v
  | .nil => f π = .slice Option.none 0 0
  | .sl _ sz rows => ∃ A c, f π = .slice A rows.length c ∧ rows.length ≤ c ∧ (rows = [] ∨ ∃ b o, A = some ⟨b, o, Option.none⟩ ∧ imm b ∧
      ∀ i row, rows[i]? = some row → row.length = sz ∧ ∀ j, j < sz → w.cell? ⟨b, o + i * sz + j, Option.none⟩ = some (f (π ++ [(i, j)])))
  | .raddr row => ∃ b o, f π = .pointer (some ⟨b, o, Option.none⟩) ∧ imm b ∧ ∀ j, j < row.length → w.cell? ⟨b, o + j, Option.none⟩ = some (f (π ++ [(0, j)]))
  | .clo g caps => f π = .func (.func g) #[] ((List.range caps.length).map fun j => f (π ++ [(0, j)])).toArray
  | _ => False

def RO (imm : Nat → Prop) (w : World) (d : D) (v : Value) : Prop :=
  ∃ f : Path → Value, f [] = v ∧ ∀ π d', d.at π = some d' → ROloc imm w f π d'

/-- The cells of a block that hold are as they were. -/
def SameAt (w w' : World) (b : Nat) : Prop := ∀ o, w'.cell? ⟨b, o, Option.none⟩ = w.cell? ⟨b, o, Option.none⟩ ∧ w'.frozen? ⟨b, o, Option.none⟩ = w.frozen? ⟨b, o, Option.none⟩

theorem ROloc.mono {imm imm' : Nat → Prop} {w w' : World} {f : Path → Value} {π : Path} {d : D} (h : ROloc imm w f π d)
    (hi : ∀ b, imm b → imm' b) (hw : ∀ b, imm b → SameAt w w' b) : ROloc imm' w' f π d := by
  cases d with
  | lit v => exact h
  | nil => exact h
  | sl u sz rows =>
    obtain ⟨A, c, h1, h2, h3⟩ := h
    refine ⟨A, c, h1, h2, h3.imp id ?_⟩
    rintro ⟨b, o, e, hb, hc⟩
    exact ⟨b, o, e, hi b hb, fun i row hr => ⟨(hc i row hr).1, fun j hj => by rw [(hw b hb _).1]; exact (hc i row hr).2 j hj⟩⟩
  | raddr row =>
    obtain ⟨b, o, h1, hb, hc⟩ := h
    exact ⟨b, o, h1, hi b hb, fun j hj => by rw [(hw b hb _).1]; exact hc j hj⟩
  | clo g caps => exact h
  | bor => exact h
  | addr => exact h
  | dead => exact h

theorem RO.mono {imm imm' : Nat → Prop} {w w' : World} {d : D} {v : Value} (h : RO imm w d v)
    (hi : ∀ b, imm b → imm' b) (hw : ∀ b, imm b → SameAt w w' b) : RO imm' w' d v :=
  let ⟨f, h1, h2⟩ := h
  ⟨f, h1, fun π d' hd => (h2 π d' hd).mono hi hw⟩

theorem ROloc.shift {imm : Nat → Prop} {w : World} {f : Path → Value} {ij : Nat × Nat} {π : Path} {d : D} (h : ROloc imm w f (ij :: π) d) :
    ROloc imm w (fun ρ => f (ij :: ρ)) π d := by
  cases d <;> exact h

/-- A part of such data. -/
theorem RO.sub {imm : Nat → Prop} {w : World} {d d' : D} {f : Path → Value} (h2 : ∀ π d', d.at π = some d' → ROloc imm w f π d') {ij : Nat × Nat} (hc : cellIn d.subs ij = some d') :
    RO imm w d' (f [ij]) :=
  ⟨fun ρ => f (ij :: ρ), rfl, fun π e he => ROloc.shift (h2 (ij :: π) e (by simp [D.at, hc, he]))⟩

theorem RO.lit {imm : Nat → Prop} {w : World} {v v' : Value} : RO imm w (.lit v) v' ↔ v' = v := by
  constructor
  · rintro ⟨f, h1, h2⟩; rw [← h1]; exact h2 [] _ rfl
  · rintro rfl
    refine ⟨fun _ => v', rfl, fun π d hd => ?_⟩
    cases π with
    | nil => cases hd; rfl
    | cons ij π => simp [D.at, D.subs, cellIn] at hd

/-! ### Ghosts, and what a state tells -/
structure Gh where
  val : Pl → Path → Value
  own : Nat → Option (Pl × Path)
  imm : Nat → Prop
  blk : Nat → Nat

def rgval (rg : Option (Nat × Nat)) (sz : Nat) : Value → Value
  | .slice A n c => match rg with
    | Option.none => .slice A n c
    | some (lo, hi) => .slice (if c = lo then A else A.map (·.add (lo * sz))) (hi - lo) (c - lo)
  | v => v

def AddrIs (G : Gh) (σ : St) (p : Pl) (π : Path) (i j : Nat) (ad : Addr) : Prop :=
  match π with
  | [] => ∃ k ds, p = .v k ∧ σ.vr k = some (true, ds) ∧ i = 0 ∧ ad = ⟨G.blk k, j, Option.none⟩
  | π => ∃ sz rows b o n c, σ.cell p π = some (.sl true sz rows) ∧ G.val p π = .slice (some ⟨b, o, Option.none⟩) n c ∧ ad = ⟨b, o + i * sz + j, Option.none⟩

def LocV (G : Gh) (w : World) (σ : St) (v : Value) : D → Prop
  | .sl true _ _ => False
  | .bor p π n rg => σ.stp p π = n → ∀ sz rows, σ.cell p π = some (.sl true sz rows) → v = rgval rg sz (G.val p π)
  | .addr p π i j n => σ.stp p π = n → ∀ ad, AddrIs G σ p π i j ad → v = .pointer (some ad)
  | .dead => True
  | d => RO G.imm w d v

def LocOwn (G : Gh) (w : World) (p : Pl) (π : Path) (sz : Nat) (rows : List (List D)) : Prop :=
  (rows = [] ∧ G.val p π = .slice Option.none 0 0) ∨
  ∃ (b o c : Nat), G.val p π = .slice (some ⟨b, o, Option.none⟩) rows.length c ∧ rows.length ≤ c ∧ G.own b = some (p, π) ∧
    w.there b o (c * sz) ∧
    ∀ i row, rows[i]? = some row → row.length = sz ∧ ∀ j, j < sz → w.cell? ⟨b, o + i * sz + j, Option.none⟩ = some (G.val p (π ++ [(i, j)]))

def Loc (G : Gh) (w : World) (σ : St) (p : Pl) (π : Path) : D → Prop
  | .sl true sz rows => LocOwn G w p π sz rows
  | d => LocV G w σ (G.val p π) d

def cval (b : Bool) (vs : List Value) : Value := if b then .agg vs.toArray else vs.headD undef

def vals (f : Nat → Nat → Value) (k n : Nat) : List Value := (List.range n).map (f k)

def tvals (f : Nat → Nat → Value) : Nat → List (Bool × List D) → List Value
  | _, [] => []
  | k, (b, ds) :: r => cval b (vals f k ds.length) :: tvals f (k + 1) r

def SVrel (f : Nat → Nat → Value) (v : Value) : SV → Prop
  | .none => True
  | .one _ => v = f 0 0
  | .agg ds => v = .agg (vals f 0 ds.length).toArray
  | .tup cs => v = .tuple (tvals f 0 cs).toArray

/-- What may stand inside of a slice. -/
def D.solid : D → Bool
  | .lit _ | .sl _ _ _ | .nil => true
  | _ => false

structure R (G : Gh) (σ : St) (a : Act) (w : World) : Prop where
  size : a.tmps.size = σ.n
  defers : a.defers = []
  slots : ∀ i, i < σ.n → SVrel (fun k j => G.val (.s i) [(k, j)]) (a.tmps.getD i undef) (σ.sl i)
  vars : ∀ k ds, σ.vr k = some (true, ds) → G.own (G.blk k) = some (.v k, []) ∧ w.there (G.blk k) 0 ds.length ∧
    ∀ j, j < ds.length → w.cell? ⟨G.blk k, j, Option.none⟩ = some (G.val (.v k) [(0, j)])
  loc : ∀ p π d, σ.cell p π = some d → Loc G w σ p π d
  deep : ∀ p ij kl ρ d, σ.cell p (ij :: kl :: ρ) = some d → d.solid = true
  immOwn : ∀ b, G.imm b → G.own b = Option.none
  immLt : ∀ b, G.imm b → b < w.heap.size
  ownLt : ∀ b q, G.own b = some q → b < w.heap.size
  stA : ∀ k, σ.sa k < σ.tick
  stB : ∀ p ij, σ.sb p ij < σ.tick
  stC : ∀ p ij, σ.sc p ij < σ.tick
  stBor : ∀ p π q ρ n rg, σ.cell p π = some (.bor q ρ n rg) → n < σ.tick
  stAddr : ∀ p π q ρ i j n, σ.cell p π = some (.addr q ρ i j n) → n < σ.tick

end Go.AI

/-
  The abstract interpreter, part B: a slot is written.
-/
namespace Go.AI
open Go.RowKit

theorem atU_cons {d e : D} {ij : Nat × Nat} {π : Path} (h : d.atU (ij :: π) = some e) : ∃ sz rows, d = .sl true sz rows := by
  cases d with
  | sl u sz rows => cases u with
    | true => exact ⟨sz, rows, rfl⟩
    | false => simp [D.atU] at h
  | _ => simp [D.atU] at h

def D.isOwn : D → Bool
  | .sl true _ _ => true
  | _ => false

theorem LocV.notOwn {G : Gh} {w : World} {σ : St} {v : Value} {d : D} (h : LocV G w σ v d) : d.isOwn = false := by
  cases d with
  | sl u sz rows => cases u with
    | true => exact h.elim
    | false => rfl
  | _ => rfl

theorem Loc.ofV {G : Gh} {w : World} {σ : St} {p : Pl} {π : Path} {d : D} (h : LocV G w σ (G.val p π) d) : Loc G w σ p π d := by
  cases d with
  | sl u sz rows => cases u with
    | true => exact h.elim
    | false => exact h
  | _ => exact h

theorem Loc.toV {G : Gh} {w : World} {σ : St} {p : Pl} {π : Path} {d : D} (h : Loc G w σ p π d) (hn : d.isOwn = false) : LocV G w σ (G.val p π) d := by
  cases d with
  | sl u sz rows => cases u with
    | true => simp [D.isOwn] at hn
    | false => exact h
  | _ => exact h

/-- What a datum that owns nothing says of its value, carried to another state and world. -/
theorem LocV.carry {G G' : Gh} {w w' : World} {σ σ' : St} {v : Value} {d : D} (h : LocV G w σ v d)
    (hi : ∀ b, G.imm b → G'.imm b) (hw : ∀ b, G.imm b → SameAt w w' b)
    (hb : ∀ p π n rg, d = .bor p π n rg → σ'.stp p π = n → ∀ sz rows, σ'.cell p π = some (.sl true sz rows) →
      σ.stp p π = n ∧ (∃ rows', σ.cell p π = some (.sl true sz rows')) ∧ G'.val p π = G.val p π)
    (ha : ∀ p π i j n, d = .addr p π i j n → σ'.stp p π = n → ∀ ad, AddrIs G' σ' p π i j ad → σ.stp p π = n ∧ AddrIs G σ p π i j ad) :
    LocV G' w' σ' v d := by
  cases d with
  | sl u sz rows => cases u with
    | true => exact h.elim
    | false => exact RO.mono h hi hw
  | bor p π n rg =>
    intro hs sz rows hc
    obtain ⟨h1, ⟨rows', h2⟩, h3⟩ := hb p π n rg rfl hs sz rows hc
    rw [h3]
    exact h h1 sz rows' h2
  | addr p π i j n =>
    intro hs ad hA
    obtain ⟨h1, h2⟩ := ha p π i j n rfl hs ad hA
    exact h h1 ad h2
  | dead => trivial
  | lit u => exact RO.mono h hi hw
  | raddr row => exact RO.mono h hi hw
  | clo g caps => exact RO.mono h hi hw
  | nil => exact RO.mono h hi hw

def St.put (σ : St) (d : Nat) (sv : SV) : St := { σ with sl := fun i => if i = d then sv else σ.sl i }

def Gh.putS (G : Gh) (d : Nat) (f : Nat → Nat → Value) : Gh :=
  { G with
    val := fun p π => if p = .s d then (match π with | [(k, j)] => f k j | _ => undef) else G.val p π
    own := fun b => match G.own b with
      | some (q, π) => if q = .s d then Option.none else some (q, π)
      | Option.none => Option.none }

theorem Gh.putS_val_ne (G : Gh) {d : Nat} {f : Nat → Nat → Value} {p : Pl} (h : p ≠ .s d) (π : Path) : (G.putS d f).val p π = G.val p π := by
  simp [Gh.putS, h]

theorem Gh.putS_own {G : Gh} {d : Nat} {f : Nat → Nat → Value} {b : Nat} {p : Pl} {π : Path} : (G.putS d f).own b = some (p, π) ↔ G.own b = some (p, π) ∧ p ≠ .s d := by
  simp only [Gh.putS]
  cases h : G.own b with
  | none => simp
  | some q =>
    obtain ⟨q, ρ⟩ := q
    by_cases e : q = .s d
    · simp only [e, if_true]
      constructor
      · intro h; cases h
      · rintro ⟨h, hn⟩; cases h; exact absurd rfl hn
    · simp only [e, if_false]
      constructor
      · intro h; cases h; exact ⟨rfl, e⟩
      · rintro ⟨h, _⟩; exact h

theorem St.put_rows_ne {σ : St} {d : Nat} {sv : SV} {p : Pl} (h : p ≠ .s d) : (σ.put d sv).rows p = σ.rows p := by
  cases p with
  | s i => simp only [St.rows, St.put]; rw [if_neg (fun e => h (by rw [e]))]
  | v i => rfl

theorem St.put_rows_eq {σ : St} {d : Nat} {sv : SV} : (σ.put d sv).rows (.s d) = sv.rows := by
  simp [St.rows, St.put]

theorem St.cell_congr {σ σ' : St} {p : Pl} (h : σ'.rows p = σ.rows p) (π : Path) : σ'.cell p π = σ.cell p π := by
  cases π with
  | nil => rfl
  | cons ij π => simp only [St.cell, h]

/-- The cells of a slot whose content owns nothing: no deeper ones. -/
theorem cell_flat {σ : St} {p : Pl} (hn : ∀ ij x, cellIn (σ.rows p) ij = some x → x.isOwn = false) {π : Path} {d : D} (h : σ.cell p π = some d) :
    ∃ ij, π = [ij] ∧ cellIn (σ.rows p) ij = some d := by
  cases π with
  | nil => simp [St.cell] at h
  | cons ij π =>
    simp only [St.cell] at h
    cases hc : cellIn (σ.rows p) ij with
    | none => simp [hc] at h
    | some x =>
      rw [hc] at h
      cases π with
      | nil => refine ⟨ij, rfl, ?_⟩; simp only [D.atU] at h; rw [hc]; exact h
      | cons kl π =>
        obtain ⟨sz, rows, e⟩ := atU_cons h
        have := hn ij x hc
        rw [e] at this; simp [D.isOwn] at this

theorem getD_set_same {α : Type} (xs : Array α) (i : Nat) (v u : α) (h : i < xs.size) : (xs.setIfInBounds i v).getD i u = v := by
  simp [Array.getD, h]

theorem getD_set_other {α : Type} (xs : Array α) (i j : Nat) (v u : α) (h : i ≠ j) : (xs.setIfInBounds i v).getD j u = xs.getD j u := by
  simp only [Array.getD_eq_getD_getElem?, Array.getElem?_setIfInBounds_ne h]

theorem LocOwn.carry {G G' : Gh} {w w' : World} {p : Pl} {π : Path} {sz : Nat} {rows : List (List D)} (h : LocOwn G w p π sz rows)
    (hv : G'.val p π = G.val p π) (hv2 : ∀ ij, G'.val p (π ++ [ij]) = G.val p (π ++ [ij]))
    (ho : ∀ b, G.own b = some (p, π) → G'.own b = some (p, π)) (hw : ∀ b, G.own b = some (p, π) → SameAt w w' b) : LocOwn G' w' p π sz rows := by
  rcases h with ⟨h1, h2⟩ | ⟨b, o, c, h1, h2, h3, h4, h5⟩
  · exact .inl ⟨h1, by rw [hv]; exact h2⟩
  · refine .inr ⟨b, o, c, by rw [hv]; exact h1, h2, ho b h3, fun j hj => ?_, fun i row hr => ⟨(h5 i row hr).1, fun j hj => ?_⟩⟩
    · rw [(hw b h3 _).1, (hw b h3 _).2]; exact h4 j hj
    · rw [(hw b h3 _).1, hv2]; exact (h5 i row hr).2 j hj

theorem SameAt.refl (w : World) (b : Nat) : SameAt w w b := fun _ => ⟨rfl, rfl⟩

theorem AddrIs.congr {G G' : Gh} {σ σ' : St} {p : Pl} {π : Path} {i j : Nat} {ad : Addr} (h : AddrIs G' σ' p π i j ad)
    (hk : π = [] → ∀ k ds, p = .v k → σ'.vr k = some (true, ds) → (∃ ds', σ.vr k = some (true, ds')) ∧ G'.blk k = G.blk k)
    (hc : π ≠ [] → ∀ sz rows, σ'.cell p π = some (.sl true sz rows) → (∃ rows', σ.cell p π = some (.sl true sz rows')) ∧ G'.val p π = G.val p π) : AddrIs G σ p π i j ad := by
  cases π with
  | nil =>
    obtain ⟨k, ds, e, hv, hi, ha⟩ := h
    obtain ⟨⟨ds', h1⟩, h2⟩ := hk rfl k ds e hv
    exact ⟨k, ds', e, h1, hi, by rw [← h2]; exact ha⟩
  | cons ij π =>
    obtain ⟨sz, rows, b, o, n, c, h1, h2, h3⟩ := h
    obtain ⟨⟨rows', h4⟩, h5⟩ := hc (by simp) sz rows h1
    exact ⟨sz, rows', b, o, n, c, h4, by rw [← h5]; exact h2, h3⟩

/-- A SLOT IS WRITTEN with what owns nothing. -/
theorem R.put {G : Gh} {σ : St} {a : Act} {w : World} (h : R G σ a w) {d : Nat} (hd : d < σ.n) {sv : SV} {v : Value} {f : Nat → Nat → Value} (hv : SVrel f v sv)
    (hc : ∀ k j x, cellIn sv.rows (k, j) = some x → LocV G w σ (f k j) x)
    (hb : ∀ k j q ρ n rg, cellIn sv.rows (k, j) = some (.bor q ρ n rg) → n < σ.tick)
    (ha : ∀ k j q ρ i l n, cellIn sv.rows (k, j) = some (.addr q ρ i l n) → n < σ.tick) :
    R (G.putS d f) (σ.put d sv) (a.put (some d) v) w := by
  have hflat : ∀ ij x, cellIn ((σ.put d sv).rows (.s d)) ij = some x → x.isOwn = false := fun ⟨k, j⟩ x hx => (hc k j x (by rwa [St.put_rows_eq] at hx)).notOwn
  have hcellne : ∀ p π, p ≠ .s d → (σ.put d sv).cell p π = σ.cell p π := fun p π hp => St.cell_congr (St.put_rows_ne hp) π
  have hnot : ∀ p π sz rows, (σ.put d sv).cell p π = some (.sl true sz rows) → p ≠ .s d := by
    rintro p π sz rows h1 rfl
    obtain ⟨ij, _, h2⟩ := cell_flat hflat h1
    have := hflat ij _ h2
    simp [D.isOwn] at this
  have hstp : ∀ p (l : Path), (σ.put d sv).stp p l = σ.stp p l := fun p l => by
    unfold St.stp; rfl
  -- what a datum says, carried over
  have carry : ∀ u x, LocV G w σ u x → LocV (G.putS d f) w (σ.put d sv) u x := fun u x hx => hx.carry (fun _ hb => hb) (fun b _ => SameAt.refl w b)
    (fun p π n rg _ hs sz rows hcell => by
      have hp := hnot p π sz rows hcell
      rw [hstp] at hs; rw [hcellne p π hp] at hcell
      exact ⟨hs, ⟨rows, hcell⟩, G.putS_val_ne hp π⟩)
    (fun p π i j n _ hs ad hA => by
      rw [hstp] at hs
      refine ⟨hs, hA.congr (fun _ k ds _ hk => ⟨⟨ds, hk⟩, rfl⟩) (fun _ sz rows hcell => ?_)⟩
      have hp := hnot p π sz rows hcell
      rw [hcellne p π hp] at hcell
      exact ⟨⟨rows, hcell⟩, G.putS_val_ne hp π⟩)
  refine ⟨?_, h.defers, ?_, ?_, ?_, ?_, ?_, h.immLt, ?_, h.stA, h.stB, h.stC, ?_, ?_⟩
  · simp [Act.put, h.size, St.put]
  · intro i hi
    by_cases e : i = d
    · subst e
      have : (a.put (some i) v).tmps.getD i undef = v := getD_set_same _ _ _ _ (by rw [h.size]; exact hi)
      rw [this]
      simpa [St.put, Gh.putS] using hv
    · have : (a.put (some d) v).tmps.getD i undef = a.tmps.getD i undef := getD_set_other _ _ _ _ _ (Ne.symm e)
      rw [this]
      simpa [St.put, Gh.putS, e] using h.slots i hi
  · intro k ds hk
    obtain ⟨h1, h2, h3⟩ := h.vars k ds hk
    exact ⟨Gh.putS_own.2 ⟨h1, by simp⟩, h2, h3⟩
  · intro p π x hx
    by_cases hp : p = .s d
    · subst hp
      obtain ⟨⟨k, j⟩, rfl, h2⟩ := cell_flat hflat hx
      rw [St.put_rows_eq] at h2
      refine Loc.ofV ?_
      have e : (G.putS d f).val (.s d) [(k, j)] = f k j := by simp [Gh.putS]
      rw [e]
      exact carry _ _ (hc k j x h2)
    · rw [hcellne p π hp] at hx
      have hl := h.loc p π x hx
      by_cases ho : x.isOwn = true
      · cases x with
        | sl u sz rows =>
          cases u with
          | false => simp [D.isOwn] at ho
          | true => exact LocOwn.carry hl (G.putS_val_ne hp π) (fun ij => G.putS_val_ne hp _) (fun b hb => Gh.putS_own.2 ⟨hb, hp⟩) (fun b _ => SameAt.refl w b)
        | _ => simp [D.isOwn] at ho
      · refine Loc.ofV ?_
        rw [G.putS_val_ne hp π]
        exact carry _ _ (hl.toV (by simpa using ho))
  · intro p ij kl ρ x hx
    by_cases hp : p = .s d
    · subst hp
      obtain ⟨ij', e, _⟩ := cell_flat hflat hx
      simp at e
    · rw [hcellne p _ hp] at hx; exact h.deep p ij kl ρ x hx
  · intro b hb
    have := h.immOwn b hb
    simp [Gh.putS, this]
  · intro b q hb
    obtain ⟨q, π⟩ := q
    exact h.ownLt b _ (Gh.putS_own.1 hb).1
  · intro p π q ρ n rg hx
    by_cases hp : p = .s d
    · subst hp
      obtain ⟨⟨k, j⟩, rfl, h2⟩ := cell_flat hflat hx
      rw [St.put_rows_eq] at h2
      exact hb k j q ρ n rg h2
    · rw [hcellne p π hp] at hx; exact h.stBor p π q ρ n rg hx
  · intro p π q ρ i j n hx
    by_cases hp : p = .s d
    · subst hp
      obtain ⟨⟨k, l⟩, rfl, h2⟩ := cell_flat hflat hx
      rw [St.put_rows_eq] at h2
      exact ha k l q ρ i j n h2
    · rw [hcellne p π hp] at hx; exact h.stAddr p π q ρ i j n hx

end Go.AI

/-
  The abstract interpreter, part C: the world changes elsewhere; data built of parts; what is owned, told as data that nobody changes.
-/
namespace Go.AI
open Go.RowKit

/-- The world changes where the state says nothing. -/
theorem R.world {G : Gh} {σ : St} {a : Act} {w w' : World} (h : R G σ a w) (hs : w.heap.size ≤ w'.heap.size)
    (ho : ∀ b q, G.own b = some q → SameAt w w' b) (hi : ∀ b, G.imm b → SameAt w w' b) : R G σ a w' := by
  refine ⟨h.size, h.defers, h.slots, ?_, ?_, h.deep, h.immOwn, fun b hb => Nat.lt_of_lt_of_le (h.immLt b hb) hs, fun b q hb => Nat.lt_of_lt_of_le (h.ownLt b q hb) hs, h.stA, h.stB, h.stC, h.stBor, h.stAddr⟩
  · intro k ds hk
    obtain ⟨h1, h2, h3⟩ := h.vars k ds hk
    refine ⟨h1, fun j hj => ?_, fun j hj => ?_⟩
    · rw [(ho _ _ h1 _).1, (ho _ _ h1 _).2]; exact h2 j hj
    · rw [(ho _ _ h1 _).1]; exact h3 j hj
  · intro p π d hd
    have hl := h.loc p π d hd
    by_cases hown : d.isOwn = true
    · cases d with
      | sl u sz rows =>
        cases u with
        | false => simp [D.isOwn] at hown
        | true => exact LocOwn.carry hl rfl (fun _ => rfl) (fun b hb => hb) (fun b hb => ho b _ hb)
      | _ => simp [D.isOwn] at hown
    · refine Loc.ofV ((hl.toV (by simpa using hown)).carry (fun _ hb => hb) hi (fun p π n rg _ h1 sz rows h2 => ⟨h1, ⟨rows, h2⟩, rfl⟩) (fun p π i j n _ h1 ad h2 => ⟨h1, h2⟩))

theorem cellIn_some {rows : List (List D)} {i j : Nat} {d : D} : cellIn rows (i, j) = some d ↔ ∃ row, rows[i]? = some row ∧ row[j]? = some d := by
  simp only [cellIn]
  cases h : rows[i]? with
  | none => simp
  | some row => simp

/-- A slice of parts that nobody changes. -/
theorem RO.slice {imm : Nat → Prop} {w : World} {u : Bool} {sz : Nat} {rows : List (List D)} {b o c : Nat} (g : Nat → Nat → Value) (hc : rows.length ≤ c) (hb : imm b)
    (hl : ∀ i row, rows[i]? = some row → row.length = sz ∧ ∀ j, j < sz → w.cell? ⟨b, o + i * sz + j, Option.none⟩ = some (g i j))
    (hp : ∀ i j d, cellIn rows (i, j) = some d → RO imm w d (g i j)) : RO imm w (.sl u sz rows) (.slice (some ⟨b, o, Option.none⟩) rows.length c) := by
  classical
  have hch : ∀ ij : Nat × Nat, ∃ f : Path → Value, f [] = g ij.1 ij.2 ∧ ∀ d, cellIn rows ij = some d → ∀ π d', d.at π = some d' → ROloc imm w f π d' := by
    rintro ⟨i, j⟩
    cases hd : cellIn rows (i, j) with
    | none => exact ⟨fun _ => g i j, rfl, fun d h => by cases h⟩
    | some d =>
      obtain ⟨f, h1, h2⟩ := hp i j d hd
      exact ⟨f, h1, fun d' h => by cases h; exact h2⟩
  refine ⟨fun π => match π with | [] => .slice (some ⟨b, o, Option.none⟩) rows.length c | ij :: ρ => (Classical.choose (hch ij)) ρ, rfl, fun π d' hd => ?_⟩
  cases π with
  | nil =>
    cases hd
    refine ⟨_, c, rfl, hc, .inr ⟨b, o, rfl, hb, fun i row hr => ⟨(hl i row hr).1, fun j hj => ?_⟩⟩⟩
    rw [(hl i row hr).2 j hj]
    exact congrArg some (Classical.choose_spec (hch (i, j))).1.symm
  | cons ij ρ =>
    simp only [D.at] at hd
    cases hcell : cellIn (D.subs (.sl u sz rows)) ij with
    | none => rw [hcell] at hd; cases hd
    | some d =>
      rw [hcell] at hd
      have := (Classical.choose_spec (hch ij)).2 d hcell ρ d' hd
      cases d' <;> exact this

theorem RO.sliceNone {imm : Nat → Prop} {w : World} {u : Bool} {sz : Nat} {A : Option Addr} {c : Nat} : RO imm w (.sl u sz []) (.slice A 0 c) := by
  refine ⟨fun _ => .slice A 0 c, rfl, fun π d' hd => ?_⟩
  cases π with
  | nil => cases hd; exact ⟨A, c, rfl, by simp, .inl rfl⟩
  | cons ij ρ => simp [D.at, D.subs, cellIn] at hd

theorem RO.flag {imm : Nat → Prop} {w : World} {u u' : Bool} {sz : Nat} {rows : List (List D)} {v : Value} (h : RO imm w (.sl u sz rows) v) : RO imm w (.sl u' sz rows) v := by
  obtain ⟨f, h1, h2⟩ := h
  refine ⟨f, h1, fun π d' hd => ?_⟩
  cases π with
  | nil => cases hd; exact (h2 [] (D.sl u sz rows) rfl : ROloc imm w f [] (D.sl u sz rows))
  | cons ij ρ => exact h2 (ij :: ρ) d' hd

/-- OWNED DATA, READ: told of whatever set of blocks holds those that are owned there. -/
theorem Loc.toRO {G : Gh} {σ : St} {w : World} {imm : Nat → Prop} (hi : ∀ b, G.imm b → imm b) : ∀ (n : Nat) (d : D) (p : Pl) (π : Path), SizeOf.sizeOf d ≤ n →
    (∀ ρ x, d.atU ρ = some x → Loc G w σ p (π ++ ρ) x ∧ x.solid = true) → (∀ b ρ, G.own b = some (p, π ++ ρ) → imm b) → RO imm w d (G.val p π)
  | 0, d, p, π, hn, _, _ => by cases d <;> simp at hn
  | n + 1, d, p, π, hn, hx, hb => by
    have h0 := hx [] d rfl
    rw [List.append_nil] at h0
    cases d with
    | sl u sz rows =>
      cases u with
      | false => exact RO.mono (show RO G.imm w _ _ from h0.1) hi (fun b _ => SameAt.refl w b)
      | true =>
        rcases h0.1 with ⟨e, hv⟩ | ⟨b, o, c, hv, hc, ho, _, hr⟩
        · subst e; rw [hv]; exact RO.sliceNone
        · rw [hv]
          refine RO.slice (fun i j => G.val p (π ++ [(i, j)])) hc (hb b [] (by rw [List.append_nil]; exact ho)) hr ?_
          intro i j d hd
          obtain ⟨row, hrow, hcell⟩ := cellIn_some.1 hd
          refine Loc.toRO (σ := σ) hi n d p (π ++ [(i, j)]) ?_ ?_ ?_
          · have h1 : SizeOf.sizeOf row < SizeOf.sizeOf rows := List.sizeOf_lt_of_mem (List.mem_of_getElem? hrow)
            have h2 : SizeOf.sizeOf d < SizeOf.sizeOf row := List.sizeOf_lt_of_mem (List.mem_of_getElem? hcell)
            simp at hn; omega
          · intro ρ x hxx
            have := hx ((i, j) :: ρ) x (by simp [D.atU, hd, hxx])
            simpa using this
          · intro b' ρ hb'
            exact hb b' ((i, j) :: ρ) (by simpa using hb')
    | lit v => exact RO.mono (show RO G.imm w _ _ from h0.1) hi (fun b _ => SameAt.refl w b)
    | nil => exact RO.mono (show RO G.imm w _ _ from h0.1) hi (fun b _ => SameAt.refl w b)
    | bor => simp [D.solid] at h0
    | addr => simp [D.solid] at h0
    | raddr => simp [D.solid] at h0
    | clo => simp [D.solid] at h0
    | dead => simp [D.solid] at h0

end Go.AI

/-
  The abstract interpreter, part D: one cell of a slot or a variable gets another content.
-/
namespace Go.AI
open Go.RowKit

def SV.set : SV → Nat → Nat → D → SV
  | .one _, 0, 0, d => .one d
  | .agg ds, 0, j, d => .agg (ds.set j d)
  | .tup cs, k, j, d => .tup (cs.modify k fun c => (c.1, c.2.set j d))
  | sv, _, _, _ => sv

theorem cellIn_set_same {sv : SV} {k j : Nat} {d : D} (h : (cellIn sv.rows (k, j)).isSome = true) : cellIn (sv.set k j d).rows (k, j) = some d := by
  obtain ⟨x, hx⟩ := Option.isSome_iff_exists.1 h
  obtain ⟨row, h1, h2⟩ := cellIn_some.1 hx
  cases sv with
  | none => simp [SV.rows] at h1
  | one e =>
    cases k with
    | zero => cases j with
      | zero => simp [SV.set, SV.rows, cellIn]
      | succ j => simp [SV.rows] at h1; subst h1; simp at h2
    | succ k => simp [SV.rows] at h1
  | agg ds =>
    cases k with
    | zero =>
      simp [SV.rows] at h1; subst h1
      have : j < ds.length := (List.getElem?_eq_some_iff.1 h2).1
      simp [SV.set, SV.rows, cellIn, this]
    | succ k => simp [SV.rows] at h1
  | tup cs =>
    simp only [SV.rows, List.getElem?_map] at h1
    cases hk : cs[k]? with
    | none => simp [hk] at h1
    | some c =>
      simp [hk] at h1; subst h1
      have hj : j < c.2.length := (List.getElem?_eq_some_iff.1 h2).1
      simp [SV.set, SV.rows, cellIn, hk, hj]

theorem cellIn_set_other {sv : SV} {k j : Nat} {d : D} {ij : Nat × Nat} (h : ij ≠ (k, j)) : cellIn (sv.set k j d).rows ij = cellIn sv.rows ij := by
  obtain ⟨i, l⟩ := ij
  cases sv with
  | none => rfl
  | one e =>
    cases k with
    | zero => cases j with
      | zero =>
        simp only [SV.set, SV.rows, cellIn]
        cases i with
        | zero => cases l with
          | zero => exact absurd rfl h
          | succ l => simp
        | succ i => simp
      | succ j => rfl
    | succ k => rfl
  | agg ds =>
    cases k with
    | zero =>
      simp only [SV.set, SV.rows, cellIn]
      cases i with
      | zero =>
        have : j ≠ l := fun e => h (by rw [e])
        simp [List.getElem?_set_ne this]
      | succ i => simp
    | succ k => rfl
  | tup cs =>
    simp only [SV.set, SV.rows, cellIn, List.getElem?_map, List.getElem?_modify]
    cases hi : cs[i]? with
    | none => simp
    | some c =>
      by_cases e : k = i
      · subst e
        have : j ≠ l := fun e => h (by rw [e])
        simp [List.getElem?_set_ne this]
      · simp [e]

theorem tvals_modify {f : Nat → Nat → Value} {j : Nat} {d : D} : ∀ (cs : List (Bool × List D)) (k m : Nat), tvals f m (cs.modify k fun c => (c.1, c.2.set j d)) = tvals f m cs
  | [], k, m => by simp [tvals]
  | (b, ds) :: r, 0, m => by simp [tvals]
  | (b, ds) :: r, k + 1, m => by simp [tvals, tvals_modify r k]

theorem SVrel_set {f : Nat → Nat → Value} {v : Value} {sv : SV} {k j : Nat} {d : D} : SVrel f v (sv.set k j d) ↔ SVrel f v sv := by
  cases sv with
  | none => rfl
  | one e => cases k with
    | zero => cases j <;> rfl
    | succ k => rfl
  | agg ds => cases k with
    | zero => simp [SV.set, SVrel]
    | succ k => rfl
  | tup cs => simp [SV.set, SVrel, tvals_modify]

theorem SVrel_congr {f f' : Nat → Nat → Value} {v : Value} {sv : SV} (h : ∀ k j, f' k j = f k j) : SVrel f' v sv ↔ SVrel f v sv := by
  have : f' = f := funext fun k => funext fun j => h k j
  rw [this]

def St.setTop (σ : St) (p : Pl) (k j : Nat) (d : D) : St :=
  match p with
  | .s i => { σ with sl := fun i' => if i' = i then (σ.sl i).set k j d else σ.sl i' }
  | .v i => { σ with vr := fun i' => if i' = i then (match σ.vr i with
      | some (b, ds) => some (b, if k = 0 then ds.set j d else ds)
      | Option.none => Option.none) else σ.vr i' }

/-- Who held something of this place's holds it no more. -/
def St.bump (σ : St) (p : Pl) (k j : Nat) : St :=
  { σ with sb := fun q ij => if q = p ∧ ij = (k, j) then σ.tick else σ.sb q ij, sc := fun q ij => if q = p ∧ ij = (k, j) then σ.tick else σ.sc q ij, tick := σ.tick + 1 }

theorem setTop_same {σ : St} {p : Pl} {k j : Nat} {d : D} (h : (cellIn (σ.rows p) (k, j)).isSome = true) : cellIn ((σ.setTop p k j d).rows p) (k, j) = some d := by
  cases p with
  | s i => simp only [St.setTop, St.rows, if_true] at *; exact cellIn_set_same h
  | v i =>
    simp only [St.setTop, St.rows, if_true] at *
    cases hv : σ.vr i with
    | none => rw [hv] at h; simp [cellIn] at h
    | some x =>
      obtain ⟨b, ds⟩ := x
      rw [hv] at h
      cases k with
      | zero =>
        have : j < ds.length := by
          rcases Nat.lt_or_ge j ds.length with h' | h'
          · exact h'
          · simp [cellIn, List.getElem?_eq_none h'] at h
        simp [cellIn, this]
      | succ k => simp [cellIn] at h

theorem setTop_other {σ : St} {p q : Pl} {k j : Nat} {d : D} {ij : Nat × Nat} (h : q = p → ij ≠ (k, j)) : cellIn ((σ.setTop p k j d).rows q) ij = cellIn (σ.rows q) ij := by
  cases p with
  | s i =>
    cases q with
    | s i' =>
      simp only [St.setTop, St.rows]
      by_cases e : i' = i
      · subst e; simp only [if_true]; exact cellIn_set_other (h rfl)
      · simp [e]
    | v i' => rfl
  | v i =>
    cases q with
    | s i' => rfl
    | v i' =>
      simp only [St.setTop, St.rows]
      by_cases e : i' = i
      · subst e
        simp only [if_true]
        cases hv : σ.vr i' with
        | none => rfl
        | some x =>
          obtain ⟨b, ds⟩ := x
          cases k with
          | zero =>
            obtain ⟨i2, l⟩ := ij
            simp only [cellIn]
            cases i2 with
            | zero =>
              have : j ≠ l := fun e => h rfl (by rw [e])
              simp [List.getElem?_set_ne this]
            | succ i2 => simp
          | succ k => simp
      · simp [e]

theorem setTop_cell_other {σ : St} {p q : Pl} {k j : Nat} {d : D} {π : Path} (h : q = p → ¬ ∃ ρ, π = (k, j) :: ρ) : (σ.setTop p k j d).cell q π = σ.cell q π := by
  cases π with
  | nil => rfl
  | cons ij π => simp only [St.cell]; rw [setTop_other (fun e he => h e ⟨π, by rw [he]⟩)]

theorem setTop_cell_same {σ : St} {p : Pl} {k j : Nat} {d : D} (h : (cellIn (σ.rows p) (k, j)).isSome = true) (ρ : Path) : (σ.setTop p k j d).cell p ((k, j) :: ρ) = d.atU ρ := by
  simp only [St.cell]; rw [setTop_same h]

theorem bump_cell {σ : St} {p q : Pl} {k j : Nat} {π : Path} : (σ.bump p k j).cell q π = σ.cell q π := by cases π <;> rfl

theorem setTop_vr {σ : St} {p : Pl} {k j : Nat} {d : D} {i : Nat} {b : Bool} {ds : List D} (h : (σ.setTop p k j d).vr i = some (b, ds)) :
    ∃ ds', σ.vr i = some (b, ds') ∧ ds'.length = ds.length := by
  cases p with
  | s i' => exact ⟨ds, h, rfl⟩
  | v i' =>
    simp only [St.setTop] at h
    by_cases e : i = i'
    · subst e
      simp only [if_true] at h
      cases hv : σ.vr i with
      | none => rw [hv] at h; cases h
      | some x =>
        obtain ⟨b', ds'⟩ := x
        rw [hv] at h
        simp only [Option.some.injEq, Prod.mk.injEq] at h
        obtain ⟨rfl, rfl⟩ := h
        exact ⟨ds', rfl, by split <;> simp⟩
    · simp only [e, if_false] at h; exact ⟨ds, h, rfl⟩


theorem setTop_n {σ : St} {p : Pl} {k j : Nat} {d : D} : ((σ.setTop p k j d).bump p k j).n = σ.n := by cases p <;> rfl
theorem setTop_tick {σ : St} {p : Pl} {k j : Nat} {d : D} : ((σ.setTop p k j d).bump p k j).tick = σ.tick + 1 := by cases p <;> rfl
theorem setTop_stp0 {σ : St} {p : Pl} {k j : Nat} {d : D} (q : Pl) : ((σ.setTop p k j d).bump p k j).stp q [] = σ.stp q [] := by cases p <;> cases q <;> rfl
theorem setTop_stpO {σ : St} {p : Pl} {k j : Nat} {d : D} {q : Pl} (π : Path) (hq : q = p → ¬ ∃ ρ, π = (k, j) :: ρ) : ((σ.setTop p k j d).bump p k j).stp q π = σ.stp q π := by
  rcases π with _ | ⟨ij, _ | ⟨kl, π⟩⟩
  · exact setTop_stp0 q
  · have : ¬ (q = p ∧ ij = (k, j)) := fun e => hq e.1 ⟨[], by rw [e.2]⟩
    cases p <;> simp [St.stp, St.bump, St.setTop, this]
  · have : ¬ (q = p ∧ ij = (k, j)) := fun e => hq e.1 ⟨kl :: π, by rw [e.2]⟩
    cases p <;> simp [St.stp, St.bump, St.setTop, this]
theorem setTop_stpP {σ : St} {p : Pl} {k j : Nat} {d : D} (ρ : Path) : ((σ.setTop p k j d).bump p k j).stp p ((k, j) :: ρ) = σ.tick := by
  cases ρ <;> cases p <;> simp [St.stp, St.bump, St.setTop]

theorem under_split (p q : Pl) (k j : Nat) (π : Path) : (∃ ρ, q = p ∧ π = (k, j) :: ρ) ∨ (q = p → ¬ ∃ ρ, π = (k, j) :: ρ) := by
  by_cases e : q = p ∧ ∃ ρ, π = (k, j) :: ρ
  · obtain ⟨e1, ρ, e2⟩ := e; exact .inl ⟨ρ, e1, e2⟩
  · exact .inr fun e1 e2 => e ⟨e1, e2⟩

/-- What a datum says, when one cell at the top of a place gets another content. -/
theorem top_carry {G : Gh} {σ : St} {w : World} {p : Pl} {k j : Nat} {d' : D} {G' : Gh} {w' : World} (hblk : G'.blk = G.blk)
    (hval : ∀ q π, (q = p → ¬ ∃ ρ, π = (k, j) :: ρ) → G'.val q π = G.val q π)
    (himm : ∀ b, G.imm b → G'.imm b) (hsi : ∀ b, G.imm b → SameAt w w' b) {u : Value} {x : D} (hx : LocV G w σ u x)
    (hxb : ∀ q ρ n rg, x = .bor q ρ n rg → n < σ.tick) (hxa : ∀ q ρ i l n, x = .addr q ρ i l n → n < σ.tick) :
    LocV G' w' ((σ.setTop p k j d').bump p k j) u x := by
  have hcellO : ∀ q π, (q = p → ¬ ∃ ρ, π = (k, j) :: ρ) → ((σ.setTop p k j d').bump p k j).cell q π = σ.cell q π := fun q π hq => by rw [bump_cell, setTop_cell_other hq]
  refine hx.carry himm hsi ?_ ?_
  · intro q π n rg e hs sz rows hc
    have hne : π ≠ [] := fun e => by rw [e] at hc; simp [St.cell] at hc
    rcases under_split p q k j π with ⟨ρ, rfl, rfl⟩ | hq
    · rw [setTop_stpP] at hs
      have := hxb q _ n rg e
      omega
    rw [setTop_stpO _ hq] at hs
    rw [hcellO q π hq] at hc
    exact ⟨hs, ⟨rows, hc⟩, hval q π hq⟩
  · intro q π i l n e hs ad hA
    cases π with
    | nil =>
      rw [setTop_stp0] at hs
      refine ⟨hs, hA.congr (fun _ k' ds _ hk => ?_) (fun hne => absurd rfl hne)⟩
      obtain ⟨ds', h1, _⟩ := setTop_vr (show (σ.setTop p k j d').vr k' = some (true, ds) from hk)
      exact ⟨⟨ds', h1⟩, by rw [hblk]⟩
    | cons ij π =>
      rcases under_split p q k j (ij :: π) with ⟨ρ, rfl, e'⟩ | hq
      · rw [e', setTop_stpP] at hs
        have := hxa q _ i l n e
        omega
      rw [setTop_stpO _ hq] at hs
      refine ⟨hs, hA.congr (fun he => by simp at he) (fun _ sz rows hc => ?_)⟩
      rw [hcellO q _ hq] at hc
      exact ⟨⟨rows, hc⟩, hval q _ hq⟩

/-- ONE CELL at the top of a place gets another content; the world changes only where that content lies. -/
theorem R.top {G : Gh} {σ : St} {a : Act} {w : World} (h : R G σ a w) {p : Pl} {k j : Nat} {d' : D} {G' : Gh} {w' : World} {a' : Act}
    (hcell : (cellIn (σ.rows p) (k, j)).isSome = true) (hblk : G'.blk = G.blk)
    (hasz : a'.tmps.size = a.tmps.size) (had : a'.defers = a.defers)
    (hslots : ∀ i, i < σ.n → SVrel (fun k j => G'.val (.s i) [(k, j)]) (a'.tmps.getD i undef) (σ.sl i))
    (hval : ∀ q π, (q = p → ¬ ∃ ρ, π = (k, j) :: ρ) → G'.val q π = G.val q π)
    (hown : ∀ b q π, (q = p → ¬ ∃ ρ, π = (k, j) :: ρ) → G.own b = some (q, π) → G'.own b = some (q, π))
    (hsame : ∀ b q π, (q = p → ¬ ∃ ρ, π = (k, j) :: ρ) → (q = p → π ≠ []) → G.own b = some (q, π) → SameAt w w' b)
    (himm : ∀ b, G.imm b → G'.imm b) (hsi : ∀ b, G.imm b → SameAt w w' b)
    (hio : ∀ b, G'.imm b → G'.own b = Option.none) (hil : ∀ b, G'.imm b → b < w'.heap.size) (hol : ∀ b q, G'.own b = some q → b < w'.heap.size)
    (hvar : ∀ i ds, p = .v i → σ.vr i = some (true, ds) → w'.there (G.blk i) 0 ds.length ∧ ∀ l, l < ds.length → w'.cell? ⟨G.blk i, l, Option.none⟩ = some (G'.val p [(0, l)]))
    (hN : ∀ ρ x, d'.atU ρ = some x → Loc G' w' ((σ.setTop p k j d').bump p k j) p ((k, j) :: ρ) x ∧ (ρ ≠ [] → x.solid = true))
    (hb : ∀ q ρ n rg, d' = .bor q ρ n rg → n ≤ σ.tick) (ha : ∀ q ρ i l n, d' = .addr q ρ i l n → n ≤ σ.tick) :
    R G' ((σ.setTop p k j d').bump p k j) a' w' := by
  have hcellO : ∀ q π, (q = p → ¬ ∃ ρ, π = (k, j) :: ρ) → ((σ.setTop p k j d').bump p k j).cell q π = σ.cell q π := fun q π hq => by rw [bump_cell, setTop_cell_other hq]
  have hcellS : ∀ ρ, ((σ.setTop p k j d').bump p k j).cell p ((k, j) :: ρ) = d'.atU ρ := fun ρ => by rw [bump_cell, setTop_cell_same hcell]
  have hsb : (σ.setTop p k j d').sb = σ.sb := by cases p <;> rfl
  have hsc : (σ.setTop p k j d').sc = σ.sc := by cases p <;> rfl
  have hsa : (σ.setTop p k j d').sa = σ.sa := by cases p <;> rfl
  have htick : (σ.setTop p k j d').tick = σ.tick := by cases p <;> rfl
  have hap : ∀ (q : Pl) (π : Path), σ.cell q π ≠ Option.none → π ≠ [] := fun q π hc e => hc (by rw [e]; rfl)
  refine ⟨by rw [hasz, setTop_n]; exact h.size, by rw [had]; exact h.defers, ?_, ?_, ?_, ?_, hio, hil, hol, ?_, ?_, ?_, ?_, ?_⟩
  · intro i hi
    rw [setTop_n] at hi
    have h0 := hslots i hi
    cases p with
    | v i' => exact h0
    | s i' =>
      by_cases e : i = i'
      · subst e
        show SVrel _ _ ((if i = i then (σ.sl i).set k j d' else σ.sl i))
        rw [if_pos rfl]
        exact SVrel_set.2 h0
      · show SVrel _ _ ((if i = i' then (σ.sl i').set k j d' else σ.sl i))
        rw [if_neg e]
        exact h0
  · intro i ds hk
    obtain ⟨ds', h1, h2⟩ := setTop_vr (show (σ.setTop p k j d').vr i = some (true, ds) from hk)
    obtain ⟨g1, g2, g3⟩ := h.vars i ds' h1
    rw [hblk]
    refine ⟨hown _ _ _ (fun _ => by simp) g1, ?_⟩
    by_cases e : p = .v i
    · obtain ⟨q1, q2⟩ := hvar i ds' e h1
      rw [← h2, ← e]; exact ⟨q1, q2⟩
    · have hs := hsame _ _ _ (fun _ => by simp) (fun e' => absurd e'.symm e) g1
      refine ⟨fun l hl => ?_, fun l hl => ?_⟩
      · rw [(hs _).1, (hs _).2]; exact g2 l (by omega)
      · rw [(hs _).1, hval _ _ (fun e' => absurd e'.symm e)]; exact g3 l (by omega)
  · intro q π x hx
    rcases under_split p q k j π with ⟨ρ, rfl, rfl⟩ | hq
    · rw [hcellS] at hx; exact (hN ρ x hx).1
    · rw [hcellO q π hq] at hx
      have hl := h.loc q π x hx
      by_cases ho : x.isOwn = true
      · cases x with
        | sl u sz rows =>
          cases u with
          | false => simp [D.isOwn] at ho
          | true =>
            have hne := hap q π (by rw [hx]; simp)
            refine LocOwn.carry hl (hval q π hq) (fun ij => hval q _ (fun e => ?_)) (fun b hb => hown b q π hq hb) (fun b hb => hsame b q π hq (fun _ => hne) hb)
            rintro ⟨ρ, he⟩
            cases π with
            | nil => exact hne rfl
            | cons kl π => simp at he; exact hq e ⟨π, by rw [he.1]⟩
        | _ => simp [D.isOwn] at ho
      · refine Loc.ofV ?_
        rw [hval q π hq]
        exact top_carry hblk hval himm hsi (hl.toV (by simpa using ho)) (fun q' ρ n rg e => by rw [e] at hx; exact h.stBor q π q' ρ n rg hx) (fun q' ρ i l n e => by rw [e] at hx; exact h.stAddr q π q' ρ i l n hx)
  · intro q ij kl ρ x hx
    rcases under_split p q k j (ij :: kl :: ρ) with ⟨ρ', rfl, e⟩ | hq
    · rw [e, hcellS] at hx
      simp only [List.cons.injEq] at e
      exact (hN ρ' x hx).2 (by rw [← e.2]; simp)
    · rw [hcellO q _ hq] at hx; exact h.deep q ij kl ρ x hx
  · intro i; have := h.stA i; simp only [St.bump, hsa, htick]; omega
  · intro q ij; have := h.stB q ij; simp only [St.bump, hsb, htick]; split <;> omega
  · intro q ij; have := h.stC q ij; simp only [St.bump, hsc, htick]; split <;> omega
  · intro q π q' ρ n rg hx
    rw [setTop_tick]
    rcases under_split p q k j π with ⟨ρ', rfl, rfl⟩ | hq
    · rw [hcellS] at hx
      cases ρ' with
      | nil => simp [D.atU] at hx; have := hb q' ρ n rg hx; omega
      | cons ij ρ' => have := (hN _ _ hx).2 (by simp); simp [D.solid] at this
    · rw [hcellO q π hq] at hx; have := h.stBor q π q' ρ n rg hx; omega
  · intro q π q' ρ i l n hx
    rw [setTop_tick]
    rcases under_split p q k j π with ⟨ρ', rfl, rfl⟩ | hq
    · rw [hcellS] at hx
      cases ρ' with
      | nil => simp [D.atU] at hx; have := ha q' ρ i l n hx; omega
      | cons ij ρ' => have := (hN _ _ hx).2 (by simp); simp [D.solid] at this
    · rw [hcellO q π hq] at hx; have := h.stAddr q π q' ρ i l n hx; omega

end Go.AI

/-
  The abstract interpreter, part E: ownership dropped, moved, frozen.
-/
namespace Go.AI
open Go.RowKit

/-- The path below (k, j) of place p, if a position lies there. -/
def under (p : Pl) (k j : Nat) : Pl × Path → Option Path
  | (q, ij :: ρ) => if q = p ∧ ij = (k, j) then some ρ else Option.none
  | (_, []) => Option.none

theorem under_some {p : Pl} {k j : Nat} {q : Pl} {π ρ : Path} : under p k j (q, π) = some ρ ↔ q = p ∧ π = (k, j) :: ρ := by
  cases π with
  | nil => simp [under]
  | cons ij π =>
    simp only [under]
    by_cases e : q = p ∧ ij = (k, j)
    · simp [e]
    · simp only [e, if_false]
      constructor
      · intro h; cases h
      · rintro ⟨h1, h2⟩; simp only [List.cons.injEq] at h2; exact absurd ⟨h1, h2.1⟩ e

theorem under_none {p : Pl} {k j : Nat} {q : Pl} {π : Path} : under p k j (q, π) = Option.none ↔ (q = p → ¬ ∃ ρ, π = (k, j) :: ρ) := by
  constructor
  · rintro h rfl ⟨ρ, rfl⟩; simp [under] at h
  · intro h
    cases hu : under p k j (q, π) with
    | none => rfl
    | some ρ => obtain ⟨h1, h2⟩ := under_some.1 hu; exact absurd ⟨ρ, h2⟩ (h h1)

def Gh.drop (G : Gh) (p : Pl) (k j : Nat) : Gh :=
  { G with own := fun b => match G.own b with
      | some qp => if (under p k j qp).isSome then Option.none else some qp
      | Option.none => Option.none }

theorem Gh.drop_own {G : Gh} {p : Pl} {k j b : Nat} {q : Pl} {π : Path} : (G.drop p k j).own b = some (q, π) ↔ G.own b = some (q, π) ∧ (q = p → ¬ ∃ ρ, π = (k, j) :: ρ) := by
  simp only [Gh.drop]
  cases h : G.own b with
  | none => simp
  | some qp =>
    by_cases e : (under p k j qp).isSome = true
    · simp only [e, if_true]
      constructor
      · intro h'; cases h'
      · rintro ⟨h', hn⟩
        cases h'
        rw [under_none.2 hn] at e; cases e
    · simp only [e]
      constructor
      · intro h'; cases h'
        exact ⟨rfl, under_none.1 (by simpa using e)⟩
      · rintro ⟨h', _⟩; exact h'

theorem R.same {G : Gh} {σ : St} {a : Act} {w : World} (h : R G σ a w) {G' : Gh} (hv : ∀ i k j, G'.val (.s i) [(k, j)] = G.val (.s i) [(k, j)]) :
    ∀ i, i < σ.n → SVrel (fun k j => G'.val (.s i) [(k, j)]) (a.tmps.getD i undef) (σ.sl i) :=
  fun i hi => (SVrel_congr (fun k j => hv i k j)).2 (h.slots i hi)

/-- What a top cell holds is held no more. -/
theorem R.drop {G : Gh} {σ : St} {a : Act} {w : World} (h : R G σ a w) {p : Pl} {k j : Nat} (hcell : (cellIn (σ.rows p) (k, j)).isSome = true) :
    R (G.drop p k j) ((σ.setTop p k j .dead).bump p k j) a w := by
  refine h.top hcell rfl rfl rfl (h.same fun _ _ _ => rfl) (fun _ _ _ => rfl) (fun b q π hq hb => Gh.drop_own.2 ⟨hb, hq⟩) (fun b q π _ _ _ => SameAt.refl w b) (fun _ hb => hb) (fun b _ => SameAt.refl w b)
    ?_ h.immLt ?_ ?_ ?_ (fun _ _ _ _ e => by cases e) (fun _ _ _ _ _ e => by cases e)
  · intro b hb; have := h.immOwn b hb; simp [Gh.drop, this]
  · intro b q hb; obtain ⟨q, π⟩ := q; exact h.ownLt b _ (Gh.drop_own.1 hb).1
  · rintro i ds rfl hv
    obtain ⟨_, h2, h3⟩ := h.vars i ds hv
    exact ⟨h2, h3⟩
  · intro ρ x hx
    cases ρ with
    | nil => simp [D.atU] at hx; subst hx; exact ⟨Loc.ofV trivial, fun e => absurd rfl e⟩
    | cons ij ρ => simp [D.atU] at hx

/-- What nobody changes, told of another set of blocks. -/
theorem LocV.solid {G : Gh} {w : World} {σ : St} {v : Value} {x : D} (h : LocV G w σ v x) (hs : x.solid = true) : RO G.imm w x v := by
  cases x with
  | lit u => exact h
  | nil => exact h
  | sl u sz rows => cases u with
    | true => exact h.elim
    | false => exact h
  | _ => simp [D.solid] at hs

theorem LocV.ofSolid {G : Gh} {w : World} {σ : St} {v : Value} {x : D} (h : RO G.imm w x v) (hs : x.solid = true) (hn : x.isOwn = false) : LocV G w σ v x := by
  cases x with
  | lit u => exact h
  | nil => exact h
  | sl u sz rows => cases u with
    | true => simp [D.isOwn] at hn
    | false => exact h
  | _ => simp [D.solid] at hs

def Gh.move (G : Gh) (p : Pl) (k' j' : Nat) (q : Pl) (k j : Nat) : Gh :=
  { G with
    val := fun x π => match under p k' j' (x, π) with
      | some (ij :: ρ) => G.val q ((k, j) :: ij :: ρ)
      | _ => G.val x π
    own := fun b => match G.own b with
      | some xp => match under q k j xp with
        | some ρ => some (p, (k', j') :: ρ)
        | Option.none => if (under p k' j' xp).isSome then Option.none else some xp
      | Option.none => Option.none }

/-- What is owned at one top cell goes over to another one, which holds it on loan; the first one gets it on loan. -/
theorem R.claim {G : Gh} {σ : St} {a : Act} {w : World} (h : R G σ a w) {p q : Pl} {k j k' j' : Nat} {sz : Nat} {rows : List (List D)} (hne : ¬ (q = p ∧ (k, j) = (k', j')))
    (hq : cellIn (σ.rows q) (k, j) = some (.sl true sz rows)) (hp : cellIn (σ.rows p) (k', j') = some (.bor q [(k, j)] (σ.sb q (k, j)) Option.none)) :
    ∃ G', R G' ((((((σ.setTop q k j .dead).bump q k j).setTop p k' j' (.sl true sz rows)).bump p k' j').setTop q k j (.bor p [(k', j')] (σ.tick + 1) Option.none)).bump q k j) a w
      ∧ G'.imm = G.imm ∧ (∀ b, G'.own b = Option.none ↔ G.own b = Option.none ∨ ∃ ρ, G.own b = some (p, (k', j') :: ρ))
      ∧ (∀ b x π, x ≠ p → x ≠ q → (G'.own b = some (x, π) ↔ G.own b = some (x, π))) ∧ G'.blk = G.blk ∧ (∀ x kl, G'.val x [kl] = G.val x [kl]) := by
  have hvv : G.val p [(k', j')] = G.val q [(k, j)] := by
    have h1 := h.loc p [(k', j')] (.bor q [(k, j)] (σ.sb q (k, j)) Option.none) (by simp [St.cell, hp, D.atU])
    have h2 := h.loc q [(k, j)] (.sl true sz rows) (by simp [St.cell, hq, D.atU])
    have h3 := h1 rfl sz rows (by simp [St.cell, hq, D.atU])
    rw [h3]
    rcases h2 with ⟨_, e⟩ | ⟨b, o, c, e, _⟩ <;> rw [e] <;> rfl
  have hqcell : ∀ ρ, σ.cell q ((k, j) :: ρ) = D.atU (.sl true sz rows) ρ := fun ρ => by simp [St.cell, hq]
  have hdis : ∀ x π ρ ρ', under p k' j' (x, π) = some ρ → under q k j (x, π) = some ρ' → False := by
    intro x π ρ ρ' h1 h2
    obtain ⟨e1, e2⟩ := under_some.1 h1
    obtain ⟨e3, e4⟩ := under_some.1 h2
    rw [e2] at e4
    simp only [List.cons.injEq] at e4
    exact hne ⟨e3.symm.trans e1, e4.1.symm⟩
  have h1 := h.drop (p := q) (k := k) (j := j) (by rw [hq]; rfl)
  -- the middle: the second cell owns
  have hown : ∀ b x π, (G.move p k' j' q k j).own b = some (x, π) ↔ (∃ ρ, G.own b = some (q, (k, j) :: ρ) ∧ x = p ∧ π = (k', j') :: ρ) ∨
      (G.own b = some (x, π) ∧ (x = q → ¬ ∃ ρ, π = (k, j) :: ρ) ∧ (x = p → ¬ ∃ ρ, π = (k', j') :: ρ)) := by
    intro b x π
    simp only [Gh.move]
    cases hb : G.own b with
    | none => simp
    | some xp =>
      obtain ⟨y, τ⟩ := xp
      simp only
      cases hu : under q k j (y, τ) with
      | some ρ =>
        obtain ⟨rfl, rfl⟩ := under_some.1 hu
        simp only [Option.some.injEq, Prod.mk.injEq]
        constructor
        · rintro ⟨rfl, rfl⟩; exact .inl ⟨ρ, by simp, rfl, rfl⟩
        · rintro (⟨ρ', ⟨_, h2⟩, rfl, rfl⟩ | ⟨⟨rfl, rfl⟩, h2, _⟩)
          · simp at h2; subst h2; simp
          · exact absurd ⟨ρ, rfl⟩ (h2 rfl)
      | none =>
        have hnq := under_none.1 hu
        simp only
        by_cases e : (under p k' j' (y, τ)).isSome = true
        · simp only [e, if_true]
          constructor
          · intro h'; cases h'
          · rintro (⟨ρ', h2, rfl, rfl⟩ | ⟨h2, _, h3⟩)
            · simp only [Option.some.injEq, Prod.mk.injEq] at h2
              exact absurd ⟨ρ', h2.2⟩ (hnq h2.1)
            · simp only [Option.some.injEq, Prod.mk.injEq] at h2
              obtain ⟨rfl, rfl⟩ := h2
              rw [under_none.2 h3] at e; cases e
        · simp only [e]
          have hnp := under_none.1 (show under p k' j' (y, τ) = Option.none by simpa using e)
          constructor
          · intro h'; simp at h'; obtain ⟨rfl, rfl⟩ := h'; exact .inr ⟨rfl, hnq, hnp⟩
          · rintro (⟨ρ', h2, rfl, rfl⟩ | ⟨h2, _, _⟩)
            · simp only [Option.some.injEq, Prod.mk.injEq] at h2
              exact absurd ⟨ρ', h2.2⟩ (hnq h2.1)
            · simpa using h2
  have hvalO : ∀ x π, (x = p → ¬ ∃ ρ, π = (k', j') :: ρ) → (G.move p k' j' q k j).val x π = G.val x π := fun x π hx => by
    simp only [Gh.move, under_none.2 hx]
  have hvalU : ∀ ρ, (G.move p k' j' q k j).val p ((k', j') :: ρ) = G.val q ((k, j) :: ρ) := fun ρ => by
    have : under p k' j' (p, (k', j') :: ρ) = some ρ := under_some.2 ⟨rfl, rfl⟩
    simp only [Gh.move, this]
    cases ρ with
    | nil => exact hvv
    | cons ij ρ => rfl
  have hcp : (cellIn (((σ.setTop q k j .dead).bump q k j).rows p) (k', j')).isSome = true := by
    have : cellIn (((σ.setTop q k j .dead).bump q k j).rows p) (k', j') = cellIn (σ.rows p) (k', j') := by
      show cellIn ((σ.setTop q k j .dead).rows p) (k', j') = _
      exact setTop_other (fun e e' => hne ⟨e.symm, e'.symm⟩)
    rw [this, hp]; rfl
  have h2 : R (G.move p k' j' q k j) ((((σ.setTop q k j .dead).bump q k j).setTop p k' j' (.sl true sz rows)).bump p k' j') a w := by
    refine h1.top hcp rfl rfl rfl (h1.same fun i k₂ j₂ => ?_) (fun x π hx => hvalO x π hx) ?_ (fun b x π _ _ _ => SameAt.refl w b) (fun _ hb => hb) (fun b _ => SameAt.refl w b)
      ?_ h.immLt ?_ ?_ ?_ (fun _ _ _ _ e => by cases e) (fun _ _ _ _ _ e => by cases e)
    · show (G.move p k' j' q k j).val (.s i) [(k₂, j₂)] = G.val (.s i) [(k₂, j₂)]
      rcases under_split p (.s i) k' j' [(k₂, j₂)] with ⟨ρ, e1, e2⟩ | hx
      · simp only [List.cons.injEq] at e2
        obtain ⟨e2, rfl⟩ := e2
        rw [e1, e2, hvalU, hvv]
      · exact hvalO _ _ hx
    · intro b x π hx hb
      obtain ⟨hb, hxq⟩ := Gh.drop_own.1 hb
      exact (hown b x π).2 (.inr ⟨hb, hxq, hx⟩)
    · intro b hb
      have := h.immOwn b hb
      simp [Gh.move, this]
    · intro b xp hb
      obtain ⟨x, π⟩ := xp
      rcases (hown b x π).1 hb with ⟨ρ, h', _⟩ | ⟨h', _⟩ <;> exact h.ownLt b _ h'
    · rintro i ds rfl hv
      obtain ⟨ds', hv', hl⟩ := setTop_vr (show (σ.setTop q k j .dead).vr i = some (true, ds) from hv)
      obtain ⟨_, g2, g3⟩ := h.vars i ds' hv'
      refine ⟨by rw [← hl]; exact g2, fun l hl' => ?_⟩
      show w.cell? ⟨G.blk i, l, Option.none⟩ = some ((G.move (.v i) k' j' q k j).val (.v i) [(0, l)])
      rcases under_split (.v i) (.v i) k' j' [(0, l)] with ⟨ρ, _, e2⟩ | hx
      · simp only [List.cons.injEq] at e2
        have := g3 l (by omega)
        obtain ⟨e2, rfl⟩ := e2
        rw [this, e2, hvalU, ← hvv]
      · rw [hvalO _ _ hx]; exact g3 l (by omega)
    · intro ρ x hx
      have hl := h.loc q ((k, j) :: ρ) x (by rw [hqcell]; exact hx)
      by_cases ho : x.isOwn = true
      · cases x with
        | sl u sz' rows' =>
          cases u with
          | false => simp [D.isOwn] at ho
          | true =>
            refine ⟨?_, fun _ => rfl⟩
            show LocOwn _ w p ((k', j') :: ρ) sz' rows'
            rcases hl with ⟨e1, e2⟩ | ⟨b, o, c, e1, e2, e3, e4, e5⟩
            · exact .inl ⟨e1, by rw [hvalU]; exact e2⟩
            · refine .inr ⟨b, o, c, by rw [hvalU]; exact e1, e2, (hown b _ _).2 (.inl ⟨ρ, e3, rfl, rfl⟩), e4, fun i row hr => ⟨(e5 i row hr).1, fun l hl => ?_⟩⟩
              rw [List.cons_append, hvalU]
              exact (e5 i row hr).2 l hl
        | _ => simp [D.isOwn] at ho
      · cases ρ with
        | nil => simp [D.atU] at hx; subst hx; simp [D.isOwn] at ho
        | cons ij ρ =>
          have hsol := h.deep q (k, j) ij ρ x (by rw [hqcell]; exact hx)
          refine ⟨Loc.ofV ?_, fun _ => hsol⟩
          rw [hvalU]
          exact LocV.ofSolid ((hl.toV (by simpa using ho)).solid hsol) hsol (by simpa using ho)
  -- the end: the first cell gets it on loan
  have hcq : (cellIn (((((σ.setTop q k j .dead).bump q k j).setTop p k' j' (.sl true sz rows)).bump p k' j').rows q) (k, j)).isSome = true := by
    have e1 : cellIn (((((σ.setTop q k j .dead).bump q k j).setTop p k' j' (.sl true sz rows)).bump p k' j').rows q) (k, j) = cellIn ((σ.setTop q k j .dead).rows q) (k, j) := by
      show cellIn ((((σ.setTop q k j .dead).bump q k j).setTop p k' j' (.sl true sz rows)).rows q) (k, j) = _
      exact setTop_other (fun e e' => hne ⟨e, e'⟩)
    rw [e1, setTop_same (by rw [hq]; rfl)]; rfl
  refine ⟨G.move p k' j' q k j, h2.top hcq rfl rfl rfl (h2.same fun _ _ _ => rfl) (fun _ _ _ => rfl) (fun b x π _ hb => hb) (fun b x π _ _ _ => SameAt.refl w b) (fun _ hb => hb) (fun b _ => SameAt.refl w b)
    h2.immOwn h2.immLt h2.ownLt ?_ ?_ ?_ (fun _ _ _ _ _ e => by cases e), rfl, ?_, fun b x π hxp hxq => ⟨fun hb => ?_, fun hb => (hown b x π).2 (.inr ⟨hb, fun e => absurd e hxq, fun e => absurd e hxp⟩)⟩, rfl, fun x kl => ?_⟩
  · rintro i ds rfl hv
    obtain ⟨_, g2, g3⟩ := h2.vars i ds hv
    exact ⟨g2, g3⟩
  · intro ρ x hx
    cases ρ with
    | cons ij ρ => simp [D.atU] at hx
    | nil =>
      simp [D.atU] at hx; subst hx
      refine ⟨Loc.ofV fun _ sz' rows' _ => ?_, fun e => absurd rfl e⟩
      rw [hvalO q [(k, j)] (fun e => by rintro ⟨ρ, e'⟩; simp only [List.cons.injEq] at e'; exact hne ⟨e, e'.1⟩), hvalU]
      have hl := h.loc q [(k, j)] (.sl true sz rows) (by rw [hqcell]; rfl)
      rcases hl with ⟨_, e⟩ | ⟨b, o, c, e, _⟩ <;> rw [e] <;> rfl
  · intro q' ρ n rg e
    cases e
    have t1 : ((σ.setTop q k j .dead).bump q k j).tick = σ.tick + 1 := setTop_tick
    rw [setTop_tick, t1]; omega
  · intro b
    constructor
    · intro hb
      cases ho : G.own b with
      | none => exact .inl rfl
      | some xp =>
        obtain ⟨x, π⟩ := xp
        rcases under_split q x k j π with ⟨ρ, rfl, rfl⟩ | hx
        · have := (hown b p ((k', j') :: ρ)).2 (.inl ⟨ρ, ho, rfl, rfl⟩)
          rw [hb] at this; cases this
        · rcases under_split p x k' j' π with ⟨ρ, rfl, rfl⟩ | hx'
          · exact .inr ⟨ρ, rfl⟩
          · have := (hown b x π).2 (.inr ⟨ho, hx, hx'⟩)
            rw [hb] at this; cases this
    · rintro (hb | ⟨ρ, hb⟩)
      · simp [Gh.move, hb]
      · cases ho : (G.move p k' j' q k j).own b with
        | none => rfl
        | some xp =>
          obtain ⟨x, π⟩ := xp
          rcases (hown b x π).1 ho with ⟨ρ', h', _⟩ | ⟨h', _, h''⟩
          · rw [hb] at h'
            simp only [Option.some.injEq, Prod.mk.injEq, List.cons.injEq] at h'
            exact absurd ⟨h'.1.symm, Prod.ext h'.2.1.1.symm h'.2.1.2.symm⟩ hne
          · rw [hb] at h'
            simp only [Option.some.injEq, Prod.mk.injEq] at h'
            obtain ⟨rfl, rfl⟩ := h'
            exact absurd ⟨ρ, rfl⟩ (h'' rfl)
  · rcases (hown b x π).1 hb with ⟨_, _, e, _⟩ | ⟨h', _⟩
    · exact absurd e hxp
    · exact h'
  · simp only [Gh.move]
    cases hu : under p k' j' (x, [kl]) with
    | none => rfl
    | some ρ =>
      obtain ⟨rfl, e⟩ := under_some.1 hu
      simp only [List.cons.injEq] at e
      rw [← e.2]

end Go.AI

/-
  The abstract interpreter, part F: what a top cell owns is made, grown, written, frozen.
-/
namespace Go.AI
open Go.RowKit

open Classical in
noncomputable def Gh.setOwn (G : Gh) (p : Pl) (k j b : Nat) (v : Value) (g : Nat → Nat → Value) (rows : List (List D)) : Gh :=
  { G with
    val := fun x π => match under p k j (x, π) with
      | some [] => v
      | some [(i, l)] => g i l
      | _ => G.val x π
    own := fun b' => if b' = b then some (p, [(k, j)]) else match G.own b' with
      | some xp => match under p k j xp with
        | some [] => Option.none
        | some (ij :: _) => if ∃ x, cellIn rows ij = some x ∧ x.isOwn = true then some xp else Option.none
        | Option.none => some xp
      | Option.none => Option.none }

/-- A top cell gets a content of its own: in block b. -/
theorem R.setOwn {G : Gh} {σ : St} {a : Act} {w : World} (h : R G σ a w) {p : Pl} {k j : Nat} {sz : Nat} {rows : List (List D)} {b o c : Nat} {v : Value} {g : Nat → Nat → Value} {w' : World} {a' : Act}
    (hcell : (cellIn (σ.rows p) (k, j)).isSome = true) (hasz : a'.tmps.size = a.tmps.size) (had : a'.defers = a.defers)
    (hslots : ∀ i, i < σ.n → SVrel (fun k' j' => if p = .s i ∧ (k', j') = (k, j) then v else G.val (.s i) [(k', j')]) (a'.tmps.getD i undef) (σ.sl i))
    (hb : G.own b = Option.none ∨ G.own b = some (p, [(k, j)])) (hbi : ¬ G.imm b) (hbl : b < w'.heap.size)
    (hsz : w.heap.size ≤ w'.heap.size) (hw : ∀ b', b' ≠ b → b' < w.heap.size → SameAt w w' b')
    (hv : v = .slice (some ⟨b, o, Option.none⟩) rows.length c) (hc : rows.length ≤ c) (ht : w'.there b o (c * sz))
    (hcells : ∀ i row, rows[i]? = some row → row.length = sz ∧ ∀ l, l < sz → w'.cell? ⟨b, o + i * sz + l, Option.none⟩ = some (g i l))
    (hx : ∀ i l x, cellIn rows (i, l) = some x → (RO G.imm w x (g i l) ∧ x.solid = true ∧ x.isOwn = false) ∨
      (σ.cell p [(k, j), (i, l)] = some x ∧ g i l = G.val p [(k, j), (i, l)]))
    (hvar : ∀ i ds, p = .v i → σ.vr i = some (true, ds) → w'.there (G.blk i) 0 ds.length ∧ ∀ l, l < ds.length → w'.cell? ⟨G.blk i, l, Option.none⟩ = some (if (0, l) = (k, j) then v else G.val p [(0, l)])) :
    R (G.setOwn p k j b v g rows) ((σ.setTop p k j (.sl true sz rows)).bump p k j) a' w' := by
  have hvalO : ∀ x π, (x = p → ¬ ∃ ρ, π = (k, j) :: ρ) → (G.setOwn p k j b v g rows).val x π = G.val x π := fun x π hx => by
    simp only [Gh.setOwn, under_none.2 hx]
  have hv0 : (G.setOwn p k j b v g rows).val p [(k, j)] = v := by
    have : under p k j (p, [(k, j)]) = some [] := under_some.2 ⟨rfl, rfl⟩
    simp only [Gh.setOwn, this]
  have hv1 : ∀ i l, (G.setOwn p k j b v g rows).val p [(k, j), (i, l)] = g i l := fun i l => by
    have : under p k j (p, [(k, j), (i, l)]) = some [(i, l)] := under_some.2 ⟨rfl, rfl⟩
    simp only [Gh.setOwn, this]
  have hv2 : ∀ ij kl ρ, (G.setOwn p k j b v g rows).val p ((k, j) :: ij :: kl :: ρ) = G.val p ((k, j) :: ij :: kl :: ρ) := fun ij kl ρ => by
    have : under p k j (p, (k, j) :: ij :: kl :: ρ) = some (ij :: kl :: ρ) := under_some.2 ⟨rfl, rfl⟩
    simp only [Gh.setOwn, this]
  have hownb : (G.setOwn p k j b v g rows).own b = some (p, [(k, j)]) := by simp [Gh.setOwn]
  have hownN : ∀ b', b' ≠ b → ∀ x π, (G.setOwn p k j b v g rows).own b' = some (x, π) ↔
      G.own b' = some (x, π) ∧ (∀ ρ, x = p → π = (k, j) :: ρ → ∃ ij τ, ρ = ij :: τ ∧ ∃ y, cellIn rows ij = some y ∧ y.isOwn = true) := by
    intro b' hbb x π
    simp only [Gh.setOwn, if_neg hbb]
    cases hb' : G.own b' with
    | none => simp
    | some xp =>
      obtain ⟨y, τ⟩ := xp
      simp only
      cases hu : under p k j (y, τ) with
      | none =>
        have hn := under_none.1 hu
        constructor
        · intro e; cases e; exact ⟨rfl, fun ρ e1 e2 => absurd ⟨ρ, e2⟩ (hn e1)⟩
        · rintro ⟨e, _⟩; exact e
      | some ρ =>
        obtain ⟨rfl, rfl⟩ := under_some.1 hu
        cases ρ with
        | nil =>
          constructor
          · intro e; cases e
          · rintro ⟨e, h2⟩
            cases e
            obtain ⟨ij, τ, e, _⟩ := h2 [] rfl rfl
            cases e
        | cons ij ρ =>
          by_cases e : ∃ x, cellIn rows ij = some x ∧ x.isOwn = true
          · simp only [if_pos e]
            constructor
            · intro e'; cases e'
              refine ⟨rfl, fun ρ' _ e2 => ?_⟩
              simp only [List.cons.injEq, true_and] at e2
              exact ⟨ij, ρ, e2.symm, e⟩
            · rintro ⟨e', _⟩; exact e'
          · simp only [if_neg e]
            constructor
            · intro e'; cases e'
            · rintro ⟨e', h2⟩
              cases e'
              obtain ⟨ij', τ, e2, h3⟩ := h2 (ij :: ρ) rfl rfl
              simp only [List.cons.injEq] at e2
              rw [← e2.1] at h3
              exact absurd h3 e
  have himmS : ∀ b', G.imm b' → SameAt w w' b' := fun b' hb' => hw b' (fun e => hbi (e ▸ hb')) (h.immLt b' hb')
  refine h.top hcell rfl hasz had ?_ hvalO ?_ ?_ (fun _ hb => hb) himmS ?_ (fun b' hb' => Nat.lt_of_lt_of_le (h.immLt b' hb') hsz) ?_ ?_ ?_ (fun _ _ _ _ e => by cases e) (fun _ _ _ _ _ e => by cases e)
  · intro i hi
    refine (SVrel_congr fun k' j' => ?_).1 (hslots i hi)
    rcases under_split p (.s i) k j [(k', j')] with ⟨ρ, e1, e2⟩ | hn
    · simp only [List.cons.injEq] at e2
      obtain ⟨e2, rfl⟩ := e2
      rw [if_pos ⟨e1.symm, e2⟩, e1, e2, hv0]
    · rw [hvalO _ _ hn, if_neg]
      rintro ⟨e1, e2⟩
      exact hn e1.symm ⟨[], by rw [e2]⟩
  · intro b' x π hn hb'
    by_cases e : b' = b
    · subst e
      rcases hb with e | e
      · rw [e] at hb'; cases hb'
      · rw [e] at hb'; cases hb'; exact absurd ⟨[], rfl⟩ (hn rfl)
    · exact (hownN b' e x π).2 ⟨hb', fun ρ e1 e2 => absurd ⟨ρ, e2⟩ (hn e1)⟩
  · intro b' x π hn _ hb'
    refine hw b' (fun e => ?_) (h.ownLt b' _ hb')
    subst e
    rcases hb with e | e
    · rw [e] at hb'; cases hb'
    · rw [e] at hb'; cases hb'; exact absurd ⟨[], rfl⟩ (hn rfl)
  · intro b' hb'
    have hne : b' ≠ b := fun e => hbi (e ▸ hb')
    have := h.immOwn b' hb'
    simp [Gh.setOwn, hne, this]
  · intro b' xp hb'
    by_cases e : b' = b
    · subst e; exact hbl
    · obtain ⟨x, π⟩ := xp
      exact Nat.lt_of_lt_of_le (h.ownLt b' _ ((hownN b' e x π).1 hb').1) hsz
  · intro i ds e hvr
    obtain ⟨h1, h2⟩ := hvar i ds e hvr
    refine ⟨h1, fun l hl => ?_⟩
    rw [h2 l hl]
    by_cases e2 : (0, l) = (k, j)
    · rw [if_pos e2, e2, hv0]
    · rw [if_neg e2, hvalO]
      rintro _ ⟨ρ, e3⟩
      simp only [List.cons.injEq] at e3
      exact e2 e3.1
  · intro ρ x hxx
    cases ρ with
    | nil =>
      simp [D.atU] at hxx; subst hxx
      refine ⟨?_, fun e => absurd rfl e⟩
      show LocOwn _ w' p [(k, j)] sz rows
      refine .inr ⟨b, o, c, by rw [hv0]; exact hv, hc, hownb, ht, fun i row hr => ⟨(hcells i row hr).1, fun l hl => ?_⟩⟩
      rw [show [(k, j)] ++ [(i, l)] = [(k, j), (i, l)] from rfl, hv1]
      exact (hcells i row hr).2 l hl
    | cons ij ρ =>
      obtain ⟨i, l⟩ := ij
      simp only [D.atU] at hxx
      cases hci : cellIn rows (i, l) with
      | none => rw [hci] at hxx; cases hxx
      | some y =>
        rw [hci] at hxx
        rcases hx i l y hci with ⟨hro, hsol, hno⟩ | ⟨hold, hg⟩
        · -- a new one
          cases ρ with
          | cons kl ρ =>
            obtain ⟨s', r', e⟩ := atU_cons hxx
            rw [e] at hno; simp [D.isOwn] at hno
          | nil =>
            simp [D.atU] at hxx; subst hxx
            refine ⟨Loc.ofV ?_, fun _ => hsol⟩
            rw [hv1]
            exact LocV.ofSolid (hro.mono (fun _ hb => hb) himmS) hsol hno
        · -- one that was there
          have hcellp : ∀ τ, σ.cell p ((k, j) :: (i, l) :: τ) = y.atU τ := fun τ => by
            simp only [St.cell] at hold ⊢
            cases hk : cellIn (σ.rows p) (k, j) with
            | none => rw [hk] at hold; cases hold
            | some z =>
              rw [hk] at hold
              obtain ⟨s', r', rfl⟩ := atU_cons hold
              simp only [D.atU] at hold ⊢
              cases hr : cellIn r' (i, l) with
              | none => rw [hr] at hold; cases hold
              | some z' => rw [hr] at hold; simp at hold; rw [hold]
          have hl := h.loc p ((k, j) :: (i, l) :: ρ) x (by rw [hcellp]; exact hxx)
          have hsol := h.deep p (k, j) (i, l) ρ x (by rw [hcellp]; exact hxx)
          have hvv : ∀ τ, (G.setOwn p k j b v g rows).val p ((k, j) :: (i, l) :: τ) = G.val p ((k, j) :: (i, l) :: τ) := fun τ => by
            cases τ with
            | nil => rw [hv1, hg]
            | cons kl τ => exact hv2 _ _ _
          refine ⟨?_, fun _ => hsol⟩
          by_cases ho : x.isOwn = true
          · cases x with
            | sl u sz' rows' =>
              cases u with
              | false => simp [D.isOwn] at ho
              | true =>
                have hyo : y.isOwn = true := by
                  cases ρ with
                  | nil => simp [D.atU] at hxx; rw [hxx]; rfl
                  | cons kl ρ => obtain ⟨s', r', e⟩ := atU_cons hxx; rw [e]; rfl
                have hnb : ∀ b', G.own b' = some (p, (k, j) :: (i, l) :: ρ) → b' ≠ b := by
                  rintro b' hb' rfl
                  rcases hb with e | e
                  · rw [e] at hb'; cases hb'
                  · rw [e] at hb'; simp at hb'
                refine LocOwn.carry hl (hvv ρ) (fun ij => by rw [List.cons_append, List.cons_append]; exact hvv _) (fun b' hb' => ?_) (fun b' hb' => hw b' (hnb b' hb') (h.ownLt b' _ hb'))
                refine (hownN b' (hnb b' hb') _ _).2 ⟨hb', fun ρ' _ e2 => ?_⟩
                simp only [List.cons.injEq, true_and] at e2
                exact ⟨(i, l), ρ, e2.symm, y, hci, hyo⟩
            | _ => simp [D.isOwn] at ho
          · refine Loc.ofV ?_
            rw [hvv]
            exact LocV.ofSolid (((hl.toV (by simpa using ho)).solid hsol).mono (fun _ hb => hb) himmS) hsol (by simpa using ho)

end Go.AI

/-
  The abstract interpreter, part G: what is owned is frozen; a nil slice is owned; a variable is made; a variable's cell is written.
-/
namespace Go.AI
open Go.RowKit

def Gh.freeze (G : Gh) (p : Pl) (k j : Nat) : Gh :=
  { G.drop p k j with imm := fun b => G.imm b ∨ ∃ ρ, G.own b = some (p, (k, j) :: ρ) }

/-- What is owned at a top cell is changed by nobody from now on. -/
theorem R.freeze {G : Gh} {σ : St} {a : Act} {w : World} (h : R G σ a w) {p : Pl} {k j : Nat} {sz : Nat} {rows : List (List D)}
    (hcell : cellIn (σ.rows p) (k, j) = some (.sl true sz rows)) : R (G.freeze p k j) ((σ.setTop p k j (.sl false sz rows)).bump p k j) a w := by
  have hc : ∀ ρ, σ.cell p ((k, j) :: ρ) = D.atU (.sl true sz rows) ρ := fun ρ => by simp [St.cell, hcell]
  refine h.top (by rw [hcell]; rfl) rfl rfl rfl (h.same fun _ _ _ => rfl) (fun _ _ _ => rfl) (fun b q π hq hb => Gh.drop_own.2 ⟨hb, hq⟩) (fun b q π _ _ _ => SameAt.refl w b) (fun _ hb => .inl hb) (fun b _ => SameAt.refl w b)
    ?_ ?_ ?_ ?_ ?_ (fun _ _ _ _ e => by cases e) (fun _ _ _ _ _ e => by cases e)
  · rintro b (hb | ⟨ρ, hb⟩)
    · have := h.immOwn b hb; simp [Gh.freeze, Gh.drop, this]
    · have hu : under p k j (p, (k, j) :: ρ) = some ρ := under_some.2 ⟨rfl, rfl⟩
      simp [Gh.freeze, Gh.drop, hb, hu]
  · rintro b (hb | ⟨ρ, hb⟩)
    · exact h.immLt b hb
    · exact h.ownLt b _ hb
  · intro b q hb; obtain ⟨q, π⟩ := q; exact h.ownLt b _ (Gh.drop_own.1 hb).1
  · rintro i ds rfl hv
    obtain ⟨_, h2, h3⟩ := h.vars i ds hv
    exact ⟨h2, h3⟩
  · intro ρ x hx
    cases ρ with
    | cons ij ρ => simp [D.atU] at hx
    | nil =>
      simp [D.atU] at hx; subst hx
      refine ⟨?_, fun e => absurd rfl e⟩
      show RO (G.freeze p k j).imm w (.sl false sz rows) (G.val p [(k, j)])
      refine RO.flag (u := true) (Loc.toRO (G := G) (σ := σ) (fun b hb => .inl hb) _ _ p [(k, j)] (Nat.le_refl _) (fun ρ x hx => ?_) (fun b ρ hb => .inr ⟨ρ, hb⟩))
      refine ⟨h.loc p _ x (by rw [List.singleton_append, hc]; exact hx), ?_⟩
      cases ρ with
      | nil => simp [D.atU] at hx; subst hx; rfl
      | cons ij ρ => exact h.deep p (k, j) ij ρ x (by rw [hc]; exact hx)

/-- A nil slice is owned by whoever has it. -/
theorem R.nilOwn {G : Gh} {σ : St} {a : Act} {w : World} (h : R G σ a w) {p : Pl} {k j : Nat} (sz : Nat)
    (hcell : cellIn (σ.rows p) (k, j) = some .nil) : R (G.drop p k j) ((σ.setTop p k j (.sl true sz [])).bump p k j) a w := by
  have hv : G.val p [(k, j)] = .slice Option.none 0 0 := by
    have := h.loc p [(k, j)] .nil (by simp [St.cell, hcell, D.atU])
    obtain ⟨f, h1, h2⟩ := (show RO G.imm w .nil (G.val p [(k, j)]) from this)
    rw [← h1]; exact h2 [] .nil rfl
  refine h.top (by rw [hcell]; rfl) rfl rfl rfl (h.same fun _ _ _ => rfl) (fun _ _ _ => rfl) (fun b q π hq hb => Gh.drop_own.2 ⟨hb, hq⟩) (fun b q π _ _ _ => SameAt.refl w b) (fun _ hb => hb) (fun b _ => SameAt.refl w b)
    ?_ h.immLt ?_ ?_ ?_ (fun _ _ _ _ e => by cases e) (fun _ _ _ _ _ e => by cases e)
  · intro b hb; have := h.immOwn b hb; simp [Gh.drop, this]
  · intro b q hb; obtain ⟨q, π⟩ := q; exact h.ownLt b _ (Gh.drop_own.1 hb).1
  · rintro i ds rfl hvr
    obtain ⟨_, h2, h3⟩ := h.vars i ds hvr
    exact ⟨h2, h3⟩
  · intro ρ x hx
    cases ρ with
    | nil =>
      simp [D.atU] at hx; subst hx
      exact ⟨.inl ⟨rfl, hv⟩, fun e => absurd rfl e⟩
    | cons ij ρ => simp [D.atU, cellIn] at hx

/-- A cell of a place gets a content that owns nothing, without the world turning (the value is the same). -/
theorem R.weaken {G : Gh} {σ : St} {a : Act} {w : World} (h : R G σ a w) {p : Pl} {k j : Nat} {d : D} (hcell : (cellIn (σ.rows p) (k, j)).isSome = true)
    (hd : RO G.imm w d (G.val p [(k, j)])) (hs : d.solid = true) (hn : d.isOwn = false) : R (G.drop p k j) ((σ.setTop p k j d).bump p k j) a w := by
  refine h.top hcell rfl rfl rfl (h.same fun _ _ _ => rfl) (fun _ _ _ => rfl) (fun b q π hq hb => Gh.drop_own.2 ⟨hb, hq⟩) (fun b q π _ _ _ => SameAt.refl w b) (fun _ hb => hb) (fun b _ => SameAt.refl w b)
    ?_ h.immLt ?_ ?_ ?_ ?_ ?_
  · intro b hb; have := h.immOwn b hb; simp [Gh.drop, this]
  · intro b q hb; obtain ⟨q, π⟩ := q; exact h.ownLt b _ (Gh.drop_own.1 hb).1
  · rintro i ds rfl hvr
    obtain ⟨_, h2, h3⟩ := h.vars i ds hvr
    exact ⟨h2, h3⟩
  · intro ρ x hx
    cases ρ with
    | nil =>
      simp [D.atU] at hx; subst hx
      exact ⟨Loc.ofV (LocV.ofSolid hd hs hn), fun e => absurd rfl e⟩
    | cons ij ρ => obtain ⟨s, r, e⟩ := atU_cons hx; rw [e] at hn; simp [D.isOwn] at hn
  · rintro q ρ n rg rfl; simp [D.solid] at hs
  · rintro q ρ i l n rfl; simp [D.solid] at hs

/-! ### A variable is made -/
def St.newVar (σ : St) (k : Nat) (ds : List D) : St :=
  { σ with vr := fun i => if i = k then some (true, ds) else σ.vr i
           sa := fun i => if i = k then σ.tick else σ.sa i
           sb := fun q ij => if q = .v k then σ.tick else σ.sb q ij
           sc := fun q ij => if q = .v k then σ.tick else σ.sc q ij
           tick := σ.tick + 1 }

def Gh.newVar (G : Gh) (k b : Nat) (f : Nat → Value) : Gh :=
  { G with val := fun p π => if p = .v k then (match π with | [(_, j)] => f j | _ => undef) else G.val p π
           own := fun b' => if b' = b then some (.v k, []) else match G.own b' with
             | some (q, π) => if q = .v k then Option.none else some (q, π)
             | Option.none => Option.none
           blk := fun i => if i = k then b else G.blk i }

theorem R.newVar {G : Gh} {σ : St} {a : Act} {w : World} (h : R G σ a w) (k : Nat) {ds : List D} {cs : Array Value} {T : TypeId} {f : Nat → Value}
    (hcs : cs.toList = (List.range ds.length).map f)
    (hc : ∀ j x, ds[j]? = some x → LocV G w σ (f j) x)
    (hb : ∀ (j : Nat) q ρ n rg, ds[j]? = some (D.bor q ρ n rg) → n < σ.tick)
    (ha : ∀ (j : Nat) q ρ i l n, ds[j]? = some (D.addr q ρ i l n) → n < σ.tick) :
    R (G.newVar k w.heap.size f) (σ.newVar k ds) a (w.alloc (.cells cs T)) := by
  have hrows : (σ.newVar k ds).rows (.v k) = [ds] := by simp [St.rows, St.newVar]
  have hrowsne : ∀ p, p ≠ .v k → (σ.newVar k ds).rows p = σ.rows p := fun p hp => by
    cases p with
    | s i => rfl
    | v i => simp only [St.rows, St.newVar]; rw [if_neg (fun e => hp (by rw [e]))]
  have hcellne : ∀ p π, p ≠ .v k → (σ.newVar k ds).cell p π = σ.cell p π := fun p π hp => St.cell_congr (hrowsne p hp) π
  have hin : ∀ i j x, cellIn [ds] (i, j) = some x → i = 0 ∧ ds[j]? = some x := fun i j x hx => by
    obtain ⟨row, h1, h2⟩ := cellIn_some.1 hx
    cases i with
    | zero => simp at h1; subst h1; exact ⟨rfl, h2⟩
    | succ i => simp at h1
  have hflat : ∀ ij x, cellIn ((σ.newVar k ds).rows (.v k)) ij = some x → x.isOwn = false := fun ⟨i, j⟩ x hx => by
    rw [hrows] at hx; exact (hc j x (hin i j x hx).2).notOwn
  have hnot : ∀ p π sz rows, (σ.newVar k ds).cell p π = some (.sl true sz rows) → p ≠ .v k := by
    rintro p π sz rows h1 rfl
    obtain ⟨ij, _, h2⟩ := cell_flat hflat h1
    have := hflat ij _ h2
    simp [D.isOwn] at this
  have hold : ∀ b, b < w.heap.size → SameAt w (w.alloc (.cells cs T)) b := fun b hb o => ⟨World.cell?_alloc_lt _ _ _ hb, World.frozen?_alloc_old _ _ _ (by simpa using Nat.ne_of_lt hb)⟩
  have hown : ∀ b, b < w.heap.size → ∀ p π, (G.newVar k w.heap.size f).own b = some (p, π) ↔ G.own b = some (p, π) ∧ p ≠ .v k := by
    intro b hb p π
    simp only [Gh.newVar, if_neg (Nat.ne_of_lt hb)]
    cases hb' : G.own b with
    | none => simp
    | some q =>
      obtain ⟨q, ρ⟩ := q
      by_cases e : q = .v k
      · simp only [e, if_true]
        constructor
        · intro h; cases h
        · rintro ⟨h, hn⟩; cases h; exact absurd rfl hn
      · simp only [e, if_false]
        constructor
        · intro h; cases h; exact ⟨rfl, e⟩
        · rintro ⟨h, _⟩; exact h
  have hstpO : ∀ q (l : Path), q ≠ .v k → (σ.newVar k ds).stp q l = σ.stp q l := fun q l hq => by
    rcases l with _ | ⟨ij, _ | ⟨kl, l⟩⟩
    · cases q with
      | s i => rfl
      | v i => simp only [St.stp, St.newVar]; rw [if_neg (fun e => hq (by rw [e]))]
    · simp [St.stp, St.newVar, hq]
    · simp [St.stp, St.newVar, hq]
  have hstpK : ∀ l : Path, (σ.newVar k ds).stp (.v k) l = σ.tick := fun l => by
    rcases l with _ | ⟨ij, _ | ⟨kl, l⟩⟩ <;> simp [St.stp, St.newVar]
  have hvalne : ∀ p π, p ≠ .v k → (G.newVar k w.heap.size f).val p π = G.val p π := fun p π hp => by simp [Gh.newVar, hp]
  have carry : ∀ u x, LocV G w σ u x → (∀ q ρ n rg, x = .bor q ρ n rg → n < σ.tick) → (∀ q ρ i l n, x = .addr q ρ i l n → n < σ.tick) → LocV (G.newVar k w.heap.size f) (w.alloc (.cells cs T)) (σ.newVar k ds) u x := by
    intro u x hx hxb hxa
    refine hx.carry (fun _ hb => hb) (fun b hb => hold b (h.immLt b hb)) ?_ ?_
    · intro p π n rg e hs sz rows hcell
      have hp := hnot p π sz rows hcell
      rw [hstpO p _ hp] at hs; rw [hcellne p π hp] at hcell
      exact ⟨hs, ⟨rows, hcell⟩, hvalne p π hp⟩
    · intro p π i j n e hs ad hA
      have hp : p ≠ .v k := fun e' => by
        rw [e', hstpK] at hs
        have := hxa p π i j n e
        omega
      rw [hstpO p _ hp] at hs
      refine ⟨hs, hA.congr (fun _ k' ds' e' hk => ?_) (fun _ sz rows hcell => ?_)⟩
      · have hkk : k' ≠ k := fun e2 => hp (by rw [e', e2])
        refine ⟨⟨ds', ?_⟩, ?_⟩
        · simpa [St.newVar, hkk] using hk
        · simp [Gh.newVar, hkk]
      · rw [hcellne p π hp] at hcell
        exact ⟨⟨rows, hcell⟩, hvalne p π hp⟩
  have hlen : cs.size = ds.length := by rw [← Array.length_toList, hcs]; simp
  have hget : ∀ j, j < ds.length → cs[j]? = some (f j) := fun j hj => by
    rw [← Array.getElem?_toList, hcs]; simp [hj]
  refine ⟨h.size, h.defers, ?_, ?_, ?_, ?_, ?_, ?_, ?_, ?_, ?_, ?_, ?_, ?_⟩
  · intro i hi
    exact (SVrel_congr (fun k' j' => hvalne _ _ (by simp))).2 (h.slots i hi)
  · intro i es hi
    by_cases e : i = k
    · subst e
      have : es = ds := by simpa [St.newVar] using hi.symm
      subst this
      have hbk : (G.newVar i w.heap.size f).blk i = w.heap.size := by simp [Gh.newVar]
      rw [hbk]
      refine ⟨by simp [Gh.newVar], fun j hj => ?_, fun j hj => ?_⟩
      · rw [Nat.zero_add, World.cell?_alloc_new, hget j hj]
        exact ⟨rfl, World.frozen?_alloc_new _ _ _ _⟩
      · rw [World.cell?_alloc_new, hget j hj]; simp [Gh.newVar]
    · have hi' : σ.vr i = some (true, es) := by simpa [St.newVar, e] using hi
      obtain ⟨h1, h2, h3⟩ := h.vars i es hi'
      have hlt := h.ownLt _ _ h1
      have hbk : (G.newVar k w.heap.size f).blk i = G.blk i := by simp [Gh.newVar, e]
      rw [hbk]
      refine ⟨(hown _ hlt _ _).2 ⟨h1, by simpa using e⟩, fun j hj => ?_, fun j hj => ?_⟩
      · rw [(hold _ hlt _).1, (hold _ hlt _).2]; exact h2 j hj
      · rw [(hold _ hlt _).1, hvalne _ _ (by simpa using e)]; exact h3 j hj
  · intro p π x hx
    by_cases hp : p = .v k
    · subst hp
      obtain ⟨⟨i, j⟩, rfl, h2⟩ := cell_flat hflat hx
      rw [hrows] at h2
      obtain ⟨rfl, h3⟩ := hin i j x h2
      refine Loc.ofV ?_
      have e : (G.newVar k w.heap.size f).val (.v k) [(0, j)] = f j := by simp [Gh.newVar]
      rw [e]
      exact carry _ _ (hc j x h3) (fun q ρ n rg e => hb j q ρ n rg (e ▸ h3)) (fun q ρ i l n e => ha j q ρ i l n (e ▸ h3))
    · rw [hcellne p π hp] at hx
      have hl := h.loc p π x hx
      by_cases ho : x.isOwn = true
      · cases x with
        | sl u sz rows =>
          cases u with
          | false => simp [D.isOwn] at ho
          | true => exact LocOwn.carry hl (hvalne p π hp) (fun ij => hvalne p _ hp) (fun b hb => (hown b (h.ownLt b _ hb) _ _).2 ⟨hb, hp⟩) (fun b hb => hold b (h.ownLt b _ hb))
        | _ => simp [D.isOwn] at ho
      · refine Loc.ofV ?_
        rw [hvalne p π hp]
        exact carry _ _ (hl.toV (by simpa using ho)) (fun q ρ n rg e => h.stBor p π q ρ n rg (e ▸ hx)) (fun q ρ i l n e => h.stAddr p π q ρ i l n (e ▸ hx))
  · intro p ij kl ρ x hx
    by_cases hp : p = .v k
    · subst hp
      obtain ⟨ij', e, _⟩ := cell_flat hflat hx
      simp at e
    · rw [hcellne p _ hp] at hx; exact h.deep p ij kl ρ x hx
  · intro b hb
    have hlt := h.immLt b hb
    have := h.immOwn b hb
    simp [Gh.newVar, Nat.ne_of_lt hlt, this]
  · intro b hb; have := h.immLt b hb; simp; omega
  · intro b q hb
    by_cases e : b < w.heap.size
    · simp; omega
    · by_cases e2 : b = w.heap.size
      · subst e2; simp
      · obtain ⟨q, π⟩ := q
        simp only [Gh.newVar, if_neg e2] at hb
        cases hb' : G.own b with
        | none => rw [hb'] at hb; cases hb
        | some q' => exact absurd (h.ownLt b _ hb') e
  · intro i; have := h.stA i; simp only [St.newVar]; split <;> omega
  · intro q ij; have := h.stB q ij; simp only [St.newVar]; split <;> omega
  · intro q ij; have := h.stC q ij; simp only [St.newVar]; split <;> omega
  · intro p π q ρ n rg hx
    show n < σ.tick + 1
    by_cases hp : p = .v k
    · subst hp
      obtain ⟨⟨i, j⟩, rfl, h2⟩ := cell_flat hflat hx
      rw [hrows] at h2
      have := hb j q ρ n rg (hin i j _ h2).2; omega
    · rw [hcellne p π hp] at hx; have := h.stBor p π q ρ n rg hx; omega
  · intro p π q ρ i j n hx
    show n < σ.tick + 1
    by_cases hp : p = .v k
    · subst hp
      obtain ⟨⟨i', l⟩, rfl, h2⟩ := cell_flat hflat hx
      rw [hrows] at h2
      have := ha l q ρ i j n (hin i' l _ h2).2; omega
    · rw [hcellne p π hp] at hx; have := h.stAddr p π q ρ i j n hx; omega

end Go.AI

/-
  The abstract interpreter, part H: operands; operations that only read.
-/
namespace Go.AI
open Go.RowKit

def D.refLt (t : Nat) : D → Prop
  | .bor _ _ n _ => n < t
  | .addr _ _ _ _ n => n < t
  | _ => True

/-- What an abstract value tells of a value. -/
def Tells (G : Gh) (w : World) (σ : St) (sv : SV) (v : Value) : Prop :=
  ∃ f, SVrel f v sv ∧ ∀ k j x, cellIn sv.rows (k, j) = some x → LocV G w σ (f k j) x ∧ x.refLt σ.tick

theorem R.refLt {G : Gh} {σ : St} {a : Act} {w : World} (h : R G σ a w) {p : Pl} {π : Path} {x : D} (hx : σ.cell p π = some x) : x.refLt σ.tick := by
  cases x with
  | bor q ρ n rg => exact h.stBor p π q ρ n rg hx
  | addr q ρ i j n => exact h.stAddr p π q ρ i j n hx
  | _ => trivial

theorem R.putT {G : Gh} {σ : St} {a : Act} {w : World} (h : R G σ a w) {d : Nat} (hd : d < σ.n) {sv : SV} {v : Value} (ht : Tells G w σ sv v) :
    ∃ G', R G' (σ.put d sv) (a.put (some d) v) w ∧ G'.imm = G.imm ∧ G'.blk = G.blk ∧ (∀ p π, p ≠ .s d → G'.val p π = G.val p π) ∧ (∀ b p π, G'.own b = some (p, π) ↔ G.own b = some (p, π) ∧ p ≠ .s d) := by
  obtain ⟨f, h1, h2⟩ := ht
  refine ⟨G.putS d f, h.put hd h1 (fun k j x hx => (h2 k j x hx).1) (fun k j q ρ n rg hx => (h2 k j _ hx).2) (fun k j q ρ i l n hx => (h2 k j _ hx).2), rfl, rfl, fun p π hp => G.putS_val_ne hp π, fun b p π => Gh.putS_own⟩

theorem tells_one {G : Gh} {w : World} {σ : St} {d : D} {v : Value} (h : LocV G w σ v d) (hr : d.refLt σ.tick) : Tells G w σ (.one d) v := by
  refine ⟨fun _ _ => v, rfl, fun k j x hx => ?_⟩
  obtain ⟨row, h1, h2⟩ := cellIn_some.1 hx
  cases k with
  | succ k => simp [SV.rows] at h1
  | zero =>
    simp [SV.rows] at h1; subst h1
    cases j with
    | succ j => simp at h2
    | zero => simp at h2; subst h2; exact ⟨h, hr⟩

theorem tells_one_iff {G : Gh} {w : World} {σ : St} {d : D} {v : Value} : Tells G w σ (.one d) v ↔ LocV G w σ v d ∧ d.refLt σ.tick := by
  constructor
  · rintro ⟨f, h1, h2⟩
    have h3 := h2 0 0 d rfl
    rw [show v = f 0 0 from h1]
    exact h3
  · rintro ⟨h1, h2⟩; exact tells_one h1 h2

theorem vals_get {f : Nat → Nat → Value} {k n j : Nat} (h : j < n) : (vals f k n)[j]? = some (f k j) := by
  simp [vals, h]

theorem vals_length {f : Nat → Nat → Value} {k n : Nat} : (vals f k n).length = n := by simp [vals]

/-- A struct's cells. -/
theorem tells_agg_iff {G : Gh} {w : World} {σ : St} {ds : List D} {v : Value} : Tells G w σ (.agg ds) v ↔
    ∃ cs : List Value, v = .agg cs.toArray ∧ cs.length = ds.length ∧ ∀ (j : Nat) x, ds[j]? = some x → ∃ u, cs[j]? = some u ∧ LocV G w σ u x ∧ x.refLt σ.tick := by
  constructor
  · rintro ⟨f, h1, h2⟩
    refine ⟨vals f 0 ds.length, h1, vals_length, fun j x hx => ?_⟩
    have hj := (List.getElem?_eq_some_iff.1 hx).1
    exact ⟨f 0 j, vals_get hj, h2 0 j x (cellIn_some.2 ⟨ds, by simp [SV.rows], hx⟩)⟩
  · rintro ⟨cs, rfl, hl, h⟩
    refine ⟨fun _ j => cs.getD j undef, ?_, fun k j x hx => ?_⟩
    · show Value.agg cs.toArray = Value.agg (vals _ 0 ds.length).toArray
      congr 2
      apply List.ext_getElem?
      intro j
      by_cases hj : j < ds.length
      · rw [vals_get hj, List.getElem?_eq_getElem (by omega)]; simp [List.getD, List.getElem?_eq_getElem (show j < cs.length by omega)]
      · rw [List.getElem?_eq_none (by omega), List.getElem?_eq_none (by rw [vals_length]; omega)]
    · obtain ⟨row, h1, h2⟩ := cellIn_some.1 hx
      cases k with
      | succ k => simp [SV.rows] at h1
      | zero =>
        simp [SV.rows] at h1; subst h1
        obtain ⟨u, hu, h3⟩ := h j x h2
        have : cs.getD j undef = u := by simp [List.getD, hu]
        show LocV G w σ (cs.getD j undef) x ∧ _
        rw [this]; exact h3

def D.lend (σ : St) (p : Pl) (π : Path) : D → D
  | .sl true _ _ => .bor p π (σ.stp p π) Option.none
  | d => d

theorem lend_refLt {σ : St} {p : Pl} {π : Path} {d : D} (hA : ∀ k, σ.sa k < σ.tick) (hB : ∀ p ij, σ.sb p ij < σ.tick) (hC : ∀ p ij, σ.sc p ij < σ.tick) (ht : 0 < σ.tick) (h : d.refLt σ.tick) : (d.lend σ p π).refLt σ.tick := by
  have hs : ∀ l : Path, σ.stp p l < σ.tick := fun l => by
    rcases l with _ | ⟨ij, _ | ⟨kl, l⟩⟩
    · cases p with
      | s i => exact ht
      | v i => exact hA i
    · exact hB p _
    · exact hC p _
  cases d with
  | sl u sz rows => cases u with
    | true => exact hs _
    | false => trivial
  | _ => exact h

theorem R.tickPos {G : Gh} {σ : St} {a : Act} {w : World} (h : R G σ a w) : 0 < σ.tick := Nat.lt_of_le_of_lt (Nat.zero_le _) (h.stA 0)

/-- What is read at a position. -/
theorem R.lend {G : Gh} {σ : St} {a : Act} {w : World} (h : R G σ a w) {p : Pl} {π : Path} {d : D} (hd : σ.cell p π = some d) :
    LocV G w σ (G.val p π) (d.lend σ p π) ∧ (d.lend σ p π).refLt σ.tick := by
  refine ⟨?_, lend_refLt h.stA h.stB h.stC h.tickPos (h.refLt hd)⟩
  have hl := h.loc p π d hd
  cases d with
  | sl u sz rows =>
    cases u with
    | false => exact hl
    | true =>
      intro _ sz' rows' _
      rcases (show LocOwn G w p π sz rows from hl) with ⟨_, e⟩ | ⟨b, o, c, e, _⟩ <;> rw [e] <;> rfl
  | _ => exact hl

def lendC (σ : St) (p : Pl) (k : Nat) : Nat → List D → List D
  | _, [] => []
  | j, d :: r => d.lend σ p [(k, j)] :: lendC σ p k (j + 1) r

theorem lendC_length (σ : St) (p : Pl) (k : Nat) : ∀ (j : Nat) (ds : List D), (lendC σ p k j ds).length = ds.length
  | _, [] => rfl
  | j, d :: r => by simp [lendC, lendC_length σ p k (j + 1) r]

theorem lendC_get (σ : St) (p : Pl) (k : Nat) : ∀ (j : Nat) (ds : List D) (i : Nat), (lendC σ p k j ds)[i]? = (ds[i]?).map (D.lend σ p [(k, j + i)])
  | _, [], i => by simp [lendC]
  | j, d :: r, 0 => by simp [lendC]
  | j, d :: r, i + 1 => by
    simp only [lendC, List.getElem?_cons_succ]
    rw [lendC_get σ p k (j + 1) r i, show j + 1 + i = j + (i + 1) by omega]

def lendT (σ : St) (p : Pl) : Nat → List (Bool × List D) → List (Bool × List D)
  | _, [] => []
  | k, (b, ds) :: r => (b, lendC σ p k 0 ds) :: lendT σ p (k + 1) r

theorem lendT_get (σ : St) (p : Pl) : ∀ (k : Nat) (cs : List (Bool × List D)) (i : Nat), (lendT σ p k cs)[i]? = (cs[i]?).map (fun c => (c.1, lendC σ p (k + i) 0 c.2))
  | _, [], i => by simp [lendT]
  | k, c :: r, 0 => by simp [lendT]
  | k, c :: r, i + 1 => by
    simp only [lendT, List.getElem?_cons_succ]
    rw [lendT_get σ p (k + 1) r i, show k + 1 + i = k + (i + 1) by omega]

theorem tvals_lend {f : Nat → Nat → Value} (σ : St) (p : Pl) : ∀ (k : Nat) (cs : List (Bool × List D)), tvals f k (lendT σ p k cs) = tvals f k cs
  | _, [] => rfl
  | k, (b, ds) :: r => by simp [tvals, lendT, lendC_length, tvals_lend σ p (k + 1) r]

def St.lend (σ : St) (i : Nat) : SV :=
  match σ.sl i with
  | .none => .none
  | .one d => .one (d.lend σ (.s i) [(0, 0)])
  | .agg ds => .agg (lendC σ (.s i) 0 0 ds)
  | .tup cs => .tup (lendT σ (.s i) 0 cs)

def litD : Value → Option D
  | .int k n => some (.lit (.int k n))
  | .bool b => some (.lit (.bool b))
  | .string s => some (.lit (.string s))
  | .slice Option.none 0 0 => some .nil
  | .pointer Option.none => some (.lit (.pointer Option.none))
  | _ => Option.none

def St.rd (σ : St) : Operand → SV
  | .tmp i => if i < σ.n then σ.lend i else .none
  | .const v => match litD v with
    | some d => .one d
    | Option.none => .none
  | .func f => .one (.clo f [])
  | .global _ => .none

theorem RO.nilV {imm : Nat → Prop} {w : World} : RO imm w .nil (.slice Option.none 0 0) := by
  refine ⟨fun _ => .slice Option.none 0 0, rfl, fun π d' hd => ?_⟩
  cases π with
  | nil => cases hd; rfl
  | cons ij ρ => simp [D.at, D.subs, cellIn] at hd

theorem RO.cloV {imm : Nat → Prop} {w : World} {g : FuncId} : RO imm w (.clo g []) (.func (.func g) #[] #[]) := by
  refine ⟨fun _ => .func (.func g) #[] #[], rfl, fun π d' hd => ?_⟩
  cases π with
  | nil => cases hd; rfl
  | cons ij ρ => cases ij with | mk i j => cases i <;> simp [D.at, D.subs, cellIn] at hd

/-- AN OPERAND IS READ. -/
theorem R.rd {G : Gh} {σ : St} {a : Act} {w : World} (h : R G σ a w) (x : Operand) : Tells G w σ (σ.rd x) (a.eval x) := by
  cases x with
  | tmp i =>
    simp only [St.rd, Act.eval]
    by_cases hi : i < σ.n
    · rw [if_pos hi]
      have hs := h.slots i hi
      simp only [St.lend]
      have hcell : ∀ k j, σ.cell (.s i) [(k, j)] = cellIn (σ.sl i).rows (k, j) := fun k j => by
        simp only [St.cell, St.rows]
        cases cellIn (σ.sl i).rows (k, j) <;> simp [D.atU]
      cases hsl : σ.sl i with
      | none => exact ⟨fun _ _ => undef, trivial, fun k j x hx => by simp [SV.rows, cellIn] at hx⟩
      | one d =>
        rw [hsl] at hs
        refine tells_one_iff.2 ?_
        have h2 := h.lend (p := .s i) (π := [(0, 0)]) (d := d) (by rw [hcell, hsl]; rfl)
        rw [show a.tmps.getD i undef = G.val (.s i) [(0, 0)] from hs]
        exact h2
      | agg ds =>
        rw [hsl] at hs
        refine ⟨fun k j => G.val (.s i) [(k, j)], ?_, fun k j x hx => ?_⟩
        · simp only [SVrel, lendC_length]; exact hs
        · obtain ⟨row, h1, h2⟩ := cellIn_some.1 hx
          cases k with
          | succ k => simp [SV.rows] at h1
          | zero =>
            simp [SV.rows] at h1; subst h1
            rw [lendC_get] at h2
            cases hd : ds[j]? with
            | none => rw [hd] at h2; cases h2
            | some d =>
              rw [hd] at h2; simp at h2; subst h2
              exact h.lend (p := .s i) (π := [(0, j)]) (d := d) (by rw [hcell, hsl]; exact cellIn_some.2 ⟨ds, by simp [SV.rows], hd⟩)
      | tup cs =>
        rw [hsl] at hs
        refine ⟨fun k j => G.val (.s i) [(k, j)], ?_, fun k j x hx => ?_⟩
        · simp only [SVrel, tvals_lend]; exact hs
        · obtain ⟨row, h1, h2⟩ := cellIn_some.1 hx
          simp only [SV.rows, List.getElem?_map, lendT_get, Nat.zero_add] at h1
          cases hk : cs[k]? with
          | none => rw [hk] at h1; cases h1
          | some c =>
            rw [hk] at h1; simp at h1; subst h1
            rw [lendC_get, Nat.zero_add] at h2
            cases hd : c.2[j]? with
            | none => rw [hd] at h2; cases h2
            | some d =>
              rw [hd] at h2; simp at h2; subst h2
              exact h.lend (p := .s i) (π := [(k, j)]) (d := d) (by rw [hcell, hsl]; exact cellIn_some.2 ⟨c.2, by simp [SV.rows, hk], hd⟩)
    · rw [if_neg hi]
      exact ⟨fun _ _ => undef, trivial, fun k j x hx => by simp [SV.rows, cellIn] at hx⟩
  | const v =>
    simp only [St.rd, Act.eval]
    cases hl : litD v with
    | none => exact ⟨fun _ _ => undef, trivial, fun k j x hx => by simp [SV.rows, cellIn] at hx⟩
    | some d =>
      refine tells_one ?_ ?_
      · unfold litD at hl
        split at hl <;> simp at hl <;> subst hl <;> first | exact RO.lit.2 rfl | exact RO.nilV
      · unfold litD at hl
        split at hl <;> simp at hl <;> subst hl <;> trivial
  | func f => exact tells_one RO.cloV trivial
  | global g => exact ⟨fun _ _ => undef, trivial, fun k j x hx => by simp [St.rd, SV.rows, cellIn] at hx⟩

end Go.AI

/-
  The abstract interpreter, part I: addresses, loads, indexes.
-/
namespace Go.AI
open Go.RowKit

def tsz (P : Program) (t : TypeId) : Option Nat := (P.info? t).map (·.size)
def isRowT (P : Program) (t : TypeId) : Option Bool := (P.underlying t).map fun d => match d with
  | .struct _ | .array _ _ => true
  | _ => false
def tel (P : Program) (t : TypeId) : Option TypeId := match P.underlying t with
  | some (.slice e) => some e
  | _ => Option.none
def tfld (P : Program) (t : TypeId) (f : Nat) : Option (Nat × TypeId) := match P.underlying t with
  | some (.struct fs) => fs[f]?.map fun x => (x.offset, x.type)
  | _ => Option.none

/-- Worlds that agree where the state says something. -/
def SameR (G : Gh) (w w' : World) : Prop := ∀ b, (G.imm b ∨ ∃ q, G.own b = some q) → SameAt w w' b

theorem SameR.refl (G : Gh) (w : World) : SameR G w w := fun b _ => SameAt.refl w b

/-- What an operation that only reads comes to. -/
def Gives (P : Program) (G : Gh) (σ : St) (a : Act) (w : World) (o : Oper) (sv : SV) : Prop :=
  ∃ v, (∀ w', SameR G w w' → (execOp a.eval o).run P w' = .ok (.value v) w') ∧ Tells G w σ sv v

def D.ro : D → D
  | .sl _ sz rows => .sl false sz rows
  | d => d

theorem RO.toV {G : Gh} {w : World} {σ : St} {d : D} {v : Value} (h : RO G.imm w d v) : LocV G w σ v d.ro ∧ d.ro.refLt σ.tick := by
  have h0 : ∃ f, ROloc G.imm w f [] d := by obtain ⟨f, _, h2⟩ := h; exact ⟨f, h2 [] d rfl⟩
  cases d with
  | lit u => exact ⟨h, trivial⟩
  | nil => exact ⟨h, trivial⟩
  | sl u sz rows => exact ⟨RO.flag h, trivial⟩
  | raddr row => exact ⟨h, trivial⟩
  | clo g caps => exact ⟨h, trivial⟩
  | bor => obtain ⟨f, h0⟩ := h0; exact h0.elim
  | addr => obtain ⟨f, h0⟩ := h0; exact h0.elim
  | dead => obtain ⟨f, h0⟩ := h0; exact h0.elim

/-- A row that nobody changes, at an address. -/
def ROrow (imm : Nat → Prop) (w : World) (row : List D) (b o : Nat) : Prop :=
  imm b ∧ ∀ (j : Nat) d, row[j]? = some d → ∃ u, w.cell? ⟨b, o + j, Option.none⟩ = some u ∧ RO imm w d u

theorem raddr_iff {imm : Nat → Prop} {w : World} {row : List D} {v : Value} : RO imm w (.raddr row) v ↔ ∃ b o, v = .pointer (some ⟨b, o, Option.none⟩) ∧ ROrow imm w row b o := by
  constructor
  · rintro ⟨f, rfl, h2⟩
    obtain ⟨b, o, h3, h4, h5⟩ := h2 [] _ rfl
    refine ⟨b, o, h3, h4, fun j d hd => ⟨f [(0, j)], h5 j (List.getElem?_eq_some_iff.1 hd).1, ?_⟩⟩
    exact RO.sub h2 (cellIn_some.2 ⟨row, rfl, hd⟩)
  · classical
    rintro ⟨b, o, rfl, hb, h⟩
    have hch : ∀ ij : Nat × Nat, ∃ f : Path → Value, ∀ d, cellIn [row] ij = some d → w.cell? ⟨b, o + ij.2, Option.none⟩ = some (f []) ∧ ∀ π d', d.at π = some d' → ROloc imm w f π d' := by
      intro ij
      cases hd : cellIn [row] ij with
      | none => exact ⟨fun _ => undef, fun d h => by cases h⟩
      | some d =>
        obtain ⟨r, h1, h2⟩ := cellIn_some.1 (show cellIn [row] (ij.1, ij.2) = some d from hd)
        have hi : ij.1 = 0 := by
          cases hi : ij.1 with
          | zero => rfl
          | succ n => rw [hi] at h1; simp at h1
        rw [hi] at h1; simp at h1; subst h1
        obtain ⟨u, hu, f, hf1, hf2⟩ := h ij.2 d h2
        exact ⟨f, fun d' hd' => by cases hd'; exact ⟨by rw [hu, hf1], hf2⟩⟩
    refine ⟨fun π => match π with | [] => .pointer (some ⟨b, o, Option.none⟩) | ij :: ρ => (Classical.choose (hch ij)) ρ, rfl, fun π d' hd => ?_⟩
    cases π with
    | nil =>
      cases hd
      refine ⟨b, o, rfl, hb, fun j hj => ?_⟩
      have hc : cellIn [row] (0, j) = some row[j] := by simp [cellIn, hj]
      exact ((Classical.choose_spec (hch (0, j))) _ hc).1
    | cons ij ρ =>
      simp only [D.at] at hd
      cases hcell : cellIn (D.subs (.raddr row)) ij with
      | none => rw [hcell] at hd; cases hd
      | some d =>
        rw [hcell] at hd
        have := ((Classical.choose_spec (hch ij)) d hcell).2 ρ d' hd
        cases d' <;> exact this

/-- A slice that nobody changes: its elements' rows. -/
theorem roslice {imm : Nat → Prop} {w : World} {u : Bool} {sz : Nat} {rows : List (List D)} {v : Value} (h : RO imm w (.sl u sz rows) v) :
    ∃ A c, v = .slice A rows.length c ∧ rows.length ≤ c ∧ ∀ (i : Nat) row, rows[i]? = some row → row.length = sz ∧ ∃ b o, A = some ⟨b, o, Option.none⟩ ∧ ROrow imm w row b (o + i * sz) := by
  obtain ⟨f, rfl, h2⟩ := h
  obtain ⟨A, c, h3, h4, h5⟩ := h2 [] _ rfl
  refine ⟨A, c, h3, h4, fun i row hr => ?_⟩
  rcases h5 with h5 | ⟨b, o, h5, h6, h7⟩
  · rw [h5] at hr; simp at hr
  · refine ⟨(h7 i row hr).1, b, o, h5, h6, fun j d hd => ⟨f [(i, j)], ?_, ?_⟩⟩
    · have hj := (List.getElem?_eq_some_iff.1 hd).1
      rw [(h7 i row hr).1] at hj
      exact (h7 i row hr).2 j hj
    · exact RO.sub h2 (cellIn_some.2 ⟨row, hr, hd⟩)

theorem ROrow.drop {imm : Nat → Prop} {w : World} {row : List D} {b o : Nat} (h : ROrow imm w row b o) (n : Nat) : ROrow imm w (row.drop n) b (o + n) :=
  ⟨h.1, fun j d hd => by
    rw [List.getElem?_drop] at hd
    obtain ⟨u, h1, h2⟩ := h.2 (n + j) d hd
    exact ⟨u, by rw [show o + n + j = o + (n + j) by omega]; exact h1, h2⟩⟩

/-! ### Addresses of one's own cells -/
def St.rowAt (σ : St) (p : Pl) (i : Nat) : Path → Option (List D)
  | [] => match p with
    | .v k => match σ.vr k with
      | some (true, ds) => if i = 0 then some ds else Option.none
      | _ => Option.none
    | .s _ => Option.none
  | π => match σ.cell p π with
    | some (.sl true _ rows) => rows[i]?
    | _ => Option.none

/-- The address of a cell that is there. -/
def St.okAddr (σ : St) (p : Pl) (π : Path) (i j n : Nat) : Bool :=
  (σ.stp p π == n) && (match σ.rowAt p i π with
    | some row => decide (j < row.length)
    | Option.none => false)

theorem atU_append {d d' e : D} : ∀ {π ρ : Path}, d.atU π = some d' → d'.atU ρ = some e → d.atU (π ++ ρ) = some e
  | [], ρ, h1, h2 => by simp [D.atU] at h1; subst h1; exact h2
  | ij :: π, ρ, h1, h2 => by
    obtain ⟨sz, rows, rfl⟩ := atU_cons h1
    simp only [List.cons_append, D.atU] at h1 ⊢
    cases hc : cellIn rows ij with
    | none => rw [hc] at h1; cases h1
    | some x => rw [hc] at h1; exact atU_append h1 h2

theorem cell_append {σ : St} {p : Pl} {π ρ : Path} {d e : D} (h1 : σ.cell p π = some d) (h2 : d.atU ρ = some e) : σ.cell p (π ++ ρ) = some e := by
  cases π with
  | nil => simp [St.cell] at h1
  | cons ij π =>
    simp only [St.cell, List.cons_append] at h1 ⊢
    cases hc : cellIn (σ.rows p) ij with
    | none => rw [hc] at h1; cases h1
    | some x => rw [hc] at h1; exact atU_append h1 h2

theorem rowAt_cell {σ : St} {p : Pl} {π : Path} {i : Nat} {row : List D} (h : σ.rowAt p i π = some row) {j : Nat} {d : D} (hd : row[j]? = some d) : σ.cell p (π ++ [(i, j)]) = some d := by
  cases π with
  | nil =>
    simp only [St.rowAt] at h
    cases p with
    | s i' => cases h
    | v k =>
      simp only at h
      cases hv : σ.vr k with
      | none => rw [hv] at h; cases h
      | some x =>
        obtain ⟨b, ds⟩ := x
        rw [hv] at h
        cases b with
        | false => cases h
        | true =>
          simp only at h
          split at h
          · next hi =>
            simp at h; subst h; subst hi
            simp [St.cell, St.rows, hv, cellIn, hd, D.atU]
          · cases h
  | cons ij π =>
    simp only [St.rowAt] at h
    cases hc : σ.cell p (ij :: π) with
    | none => rw [hc] at h; cases h
    | some x =>
      rw [hc] at h
      cases x with
      | sl u sz rows =>
        cases u with
        | false => cases h
        | true => exact cell_append hc (by simp [D.atU, cellIn_some.2 ⟨row, h, hd⟩])
      | _ => cases h

/-- Where a row of one's own lies. -/
theorem R.rowAt {G : Gh} {σ : St} {a : Act} {w : World} (h : R G σ a w) {p : Pl} {π : Path} {i : Nat} {row : List D} (hr : σ.rowAt p i π = some row) :
    ∃ b o, (∀ j, j < row.length → AddrIs G σ p π i j ⟨b, o + j, Option.none⟩ ∧ w.cell? ⟨b, o + j, Option.none⟩ = some (G.val p (π ++ [(i, j)])) ∧ w.frozen? ⟨b, o + j, Option.none⟩ = false) ∧
      (row ≠ [] → ∃ q, G.own b = some (p, q) ∧ (π = [] → q = []) ∧ (π ≠ [] → q = π)) ∧
      (∀ ad, ∀ j, AddrIs G σ p π i j ad → row ≠ [] → ad = ⟨b, o + j, Option.none⟩) := by
  cases π with
  | nil =>
    simp only [St.rowAt] at hr
    cases p with
    | s i' => cases hr
    | v k =>
      simp only at hr
      cases hv : σ.vr k with
      | none => rw [hv] at hr; cases hr
      | some x =>
        obtain ⟨b, ds⟩ := x
        rw [hv] at hr
        cases b with
        | false => cases hr
        | true =>
          simp only at hr
          split at hr
          · next hi =>
            simp at hr; subst hr; subst hi
            obtain ⟨h1, h2, h3⟩ := h.vars k ds hv
            refine ⟨G.blk k, 0, fun j hj => ⟨⟨k, ds, rfl, hv, rfl, by simp⟩, by rw [Nat.zero_add]; exact h3 j hj, (h2 j hj).2⟩, fun _ => ⟨[], h1, fun _ => rfl, fun e => absurd rfl e⟩, ?_⟩
            rintro ad j ⟨k', ds', e, _, _, e2⟩ _
            cases e
            rw [e2, Nat.zero_add]
          · cases hr
  | cons ij π =>
    simp only [St.rowAt] at hr
    cases hc : σ.cell p (ij :: π) with
    | none => rw [hc] at hr; cases hr
    | some x =>
      rw [hc] at hr
      cases x with
      | sl u sz rows =>
        cases u with
        | false => cases hr
        | true =>
          rcases (show LocOwn G w p (ij :: π) sz rows from h.loc p _ _ hc) with ⟨e, _⟩ | ⟨b, o, c, e1, e2, e3, e4, e5⟩
          · rw [e] at hr; simp at hr
          · obtain ⟨hlen, hcells⟩ := e5 i row hr
            have hi := (List.getElem?_eq_some_iff.1 hr).1
            refine ⟨b, o + i * sz, fun j hj => ⟨⟨sz, rows, b, o, _, c, hc, e1, rfl⟩, hcells j (by omega), ?_⟩, fun _ => ⟨_, e3, (fun e => by cases e), fun _ => rfl⟩, ?_⟩
            · have : i * sz + j < c * sz := by
                have h1 : (i + 1) * sz ≤ c * sz := Nat.mul_le_mul_right sz (by omega)
                have h2 : (i + 1) * sz = i * sz + sz := Nat.succ_mul i sz
                omega
              have := (e4 (i * sz + j) this).2
              rwa [show o + (i * sz + j) = o + i * sz + j by omega] at this
            · rintro ad j ⟨sz', rows', b', o', n', c', g1, g2, g3⟩ _
              rw [hc] at g1; simp at g1
              rw [e1] at g2; simp at g2
              rw [g3, ← g1.1, ← g2.1.1, ← g2.1.2]
      | _ => cases hr

theorem okAddr_spec {σ : St} {p : Pl} {π : Path} {i j n : Nat} (h : σ.okAddr p π i j n = true) : σ.stp p π = n ∧ ∃ row, σ.rowAt p i π = some row ∧ j < row.length := by
  simp only [St.okAddr, Bool.and_eq_true, beq_iff_eq] at h
  refine ⟨h.1, ?_⟩
  cases hr : σ.rowAt p i π with
  | none => rw [hr] at h; simp at h
  | some row => rw [hr] at h; exact ⟨row, rfl, by simpa using h.2⟩

/-- An address that is read tells where. -/
theorem R.okAddr {G : Gh} {σ : St} {a : Act} {w : World} (h : R G σ a w) {p : Pl} {π : Path} {i j n : Nat} (hk : σ.okAddr p π i j n = true) {v : Value} (hv : LocV G w σ v (.addr p π i j n)) :
    ∃ row b o, σ.rowAt p i π = some row ∧ j < row.length ∧ v = .pointer (some ⟨b, o + j, Option.none⟩) ∧
      (∀ j, j < row.length → w.cell? ⟨b, o + j, Option.none⟩ = some (G.val p (π ++ [(i, j)])) ∧ w.frozen? ⟨b, o + j, Option.none⟩ = false) ∧
      (∃ q, G.own b = some (p, q) ∧ (π = [] → q = []) ∧ (π ≠ [] → q = π)) ∧ (∀ j' ad, AddrIs G σ p π i j' ad → ad = ⟨b, o + j', Option.none⟩) := by
  obtain ⟨h1, row, h2, h3⟩ := okAddr_spec hk
  obtain ⟨b, o, h4, h5, h6⟩ := h.rowAt h2
  have hne : row ≠ [] := fun e => by rw [e] at h3; simp at h3
  exact ⟨row, b, o, h2, h3, hv h1 _ (h4 j h3).1, fun j hj => (h4 j hj).2, h5 hne, fun j' ad hA => h6 ad j' hA hne⟩

end Go.AI

/-
  The abstract interpreter, part J: the operations that only read, one by one.
-/
namespace Go.AI
open Go.RowKit

/-! ### Numbers, texts, truth -/
def intV (op : BinOp) (k : IntKind) (x y : Int) : Option Value :=
  match op with
  | .add => some (.int k (k.wrap (x + y)))
  | .sub => some (.int k (k.wrap (x - y)))
  | .mul => some (.int k (k.wrap (x * y)))
  | .quo => if y = 0 then Option.none else some (.int k (k.wrap (x.tdiv y)))
  | .rem => if y = 0 then Option.none else some (.int k (x.tmod y))
  | .xor => some (.int k (k.wrap (BitVec.ofInt k.bits x ^^^ BitVec.ofInt k.bits y).toNat))
  | .eql => some (.bool (decide (x = y)))
  | .neq => some (.bool (!decide (x = y)))
  | .lss => some (.bool (decide (x < y)))
  | .leq => some (.bool (decide (x ≤ y)))
  | .gtr => some (.bool (decide (y < x)))
  | .geq => some (.bool (decide (y ≤ x)))
  | _ => Option.none

def strV (op : BinOp) (x y : ByteArray) : Option Value :=
  match op with
  | .add => if x.size + y.size ≤ 9223372036854775807 then some (.string (x ++ y)) else Option.none
  | .eql => some (.bool (decide (x = y)))
  | .neq => some (.bool (!decide (x = y)))
  | .lss => some (.bool (Op.bytesLess x.toList y.toList))
  | _ => Option.none

def boolV (op : BinOp) (x y : Bool) : Option Value :=
  match op with
  | .eql => some (.bool (x == y))
  | .neq => some (.bool (x != y))
  | _ => Option.none

def binV (isBool : Bool) (op : BinOp) : Value → Value → Option Value
  | .int k x, .int k' y => if k = k' then intV op k x y else Option.none
  | .string x, .string y => strV op x y
  | .bool x, .bool y => if isBool then boolV op x y else Option.none
  | _, _ => Option.none

def unV (op : UnOp) : Value → Option Value
  | .int k n => match op with
    | .neg => some (.int k (k.wrap (0 - n)))
    | _ => Option.none
  | .bool b => match op with
    | .not => some (.bool !b)
    | _ => Option.none
  | _ => Option.none

theorem toList_beq {x y : ByteArray} : (x.toList == y.toList) = decide (x = y) := by
  by_cases e : x = y
  · subst e; simp
  · have : x.toList ≠ y.toList := fun h => e (by
      rw [ByteArray.toList_eq, ByteArray.toList_eq] at h
      exact ByteArray.ext (Array.ext' h))
    simp [e, this]

def isBoolT (P : Program) (t : TypeId) : Bool := match P.underlying t with
  | some .bool => true
  | _ => false

theorem run_intV {P : Program} {t : TypeId} {op : BinOp} {k : IntKind} {x y : Int} {v : Value} (h : intV op k x y = some v) (w : World) : (binOp op t (.int k x) (.int k y)).run P w = .ok v w := by
  unfold intV at h
  split at h <;> first
    | (split at h <;> simp only [Option.some.injEq, reduceCtorEq] at h)
    | simp only [Option.some.injEq, reduceCtorEq] at h
  all_goals subst h
  all_goals simp [binOp, Op.intArith, Op.intCmp, Op.intBits, Op.intDiv, *]
  all_goals first | done | (by_cases e : x = y <;> simp [e])

theorem run_strV {P : Program} {t : TypeId} {op : BinOp} {x y : ByteArray} {v : Value} (h : strV op x y = some v) (w : World) : (binOp op t (.string x) (.string y)).run P w = .ok v w := by
  unfold strV at h
  split at h
  · split at h
    · next hs =>
      simp only [Option.some.injEq] at h; subst h
      have h63 : ¬ (9223372036854775807 < (x.size : Int) + (y.size : Int)) := by omega
      simp [go_sem, Op.stringOp, h63]
    · cases h
  · simp only [Option.some.injEq] at h; subst h; simp [go_sem, toList_beq]
  · simp only [Option.some.injEq] at h; subst h; simp [go_sem, toList_beq]
  · simp only [Option.some.injEq] at h; subst h; simp [go_sem]
  · cases h

theorem run_binV {P : Program} {t : TypeId} {op : BinOp} {xo yo : Operand} {x y v : Value} (h : binV (isBoolT P t) op x y = some v) (w : World) :
    (do eqGuard op t xo yo x y; binOp op t x y).run P w = .ok v w := by
  unfold binV at h
  split at h
  · next k x k' y =>
    split at h
    · next e =>
      subst e
      rw [eqGuard_at_int]
      exact run_intV h w
    · cases h
  · next x y =>
    rw [eqGuard_at_string]
    exact run_strV h w
  · next x y =>
    split at h
    · next hb =>
      have hu : P.underlying t = some .bool := by
        unfold isBoolT at hb
        split at hb
        · next e => exact e
        · cases hb
      rw [eqGuard_at_bool]
      unfold boolV at h
      split at h
      · simp only [Option.some.injEq] at h; subst h; exact run_eql_bool (P := P) w t x y hu
      · simp only [Option.some.injEq] at h; subst h; exact (run_neq_bool (P := P) w t x y hu).trans (by simp [bne])
      · cases h
    · cases h
  · cases h

end Go.AI

/-
  The abstract interpreter, part K: what an operation that only reads comes to.
-/
namespace Go.AI
open Go.RowKit

def SV.given : SV → Bool
  | .none => false
  | _ => true

def pairLen : Option (Nat × Nat) → Nat → Nat × Nat
  | Option.none, n => (0, n)
  | some (lo, hi), _ => (lo, hi)

/-- The rows that a slice has, as it is read. -/
def St.rowsOf (σ : St) : D → Option (List (List D))
  | .sl _ _ rows => some rows
  | .nil => some []
  | .bor p π n rg => if σ.stp p π = n then match σ.cell p π with
      | some (.sl true _ rows) => match rg with
        | Option.none => some rows
        | some (lo, hi) => if lo ≤ hi ∧ hi ≤ rows.length then some ((rows.take hi).drop lo) else Option.none
      | _ => Option.none
    else Option.none
  | _ => Option.none

def fieldAddrS (P : Program) (σ : St) (t : TypeId) (x : Operand) (f : Nat) : Option SV :=
  match tfld P t f, σ.rd x with
  | some (off, ft), .one (.addr p π i j n) => match tsz P ft with
    | some (_ + 1) => if σ.okAddr p π i j n = true then some (.one (.addr p π i (j + off) n)) else Option.none
    | _ => Option.none
  | some (off, ft), .one (.raddr row) => match tsz P ft with
    | some (_ + 1) => some (.one (.raddr (row.drop off)))
    | _ => Option.none
  | _, _ => Option.none

def indexAddrS (P : Program) (σ : St) (t : TypeId) (x ix : Operand) : Option SV :=
  match (tel P t).bind (tsz P), σ.rd x, σ.rd ix with
  | some sz, .one (.sl false sz' rows), .one (.lit (.int _ i)) =>
    if 0 ≤ i ∧ sz = sz' then match rows[i.toNat]? with
      | some row => some (.one (.raddr row))
      | Option.none => Option.none
    else Option.none
  | some sz, .one (.bor p π n rg), .one (.lit (.int _ i)) =>
    if σ.stp p π = n then match σ.cell p π with
      | some (.sl true sz' rows) =>
        if 0 ≤ i ∧ sz = sz' ∧ (pairLen rg rows.length).1 + i.toNat < (pairLen rg rows.length).2 ∧ (pairLen rg rows.length).2 ≤ rows.length then some (.one (.addr p π ((pairLen rg rows.length).1 + i.toNat) 0 n)) else Option.none
      | _ => Option.none
    else Option.none
  | _, _, _ => Option.none

def lendP (σ : St) (p : Pl) (π : Path) (i : Nat) : Nat → List D → List D
  | _, [] => []
  | j, d :: r => d.lend σ p (π ++ [(i, j)]) :: lendP σ p π i (j + 1) r

def loadS (P : Program) (σ : St) (t : TypeId) (x : Operand) : Option SV :=
  match isRowT P t, tsz P t, σ.rd x with
  | some true, some n, .one (.raddr row) => if n ≤ row.length then some (.agg ((row.take n).map D.ro)) else Option.none
  | some false, some _, .one (.raddr row) => match row with
    | d :: _ => some (.one d.ro)
    | [] => Option.none
  | some true, some n, .one (.addr p π i j m) => if σ.okAddr p π i j m = true then match σ.rowAt p i π with
      | some row => if j + n ≤ row.length then some (.agg (lendP σ p π i j ((row.drop j).take n))) else Option.none
      | Option.none => Option.none
    else Option.none
  | some false, some _, .one (.addr p π i j m) => if σ.okAddr p π i j m = true then match σ.rowAt p i π with
      | some row => match row[j]? with
        | some d => some (.one (d.lend σ p (π ++ [(i, j)])))
        | Option.none => Option.none
      | Option.none => Option.none
    else Option.none
  | _, _, _ => Option.none

theorem run_v {P : Program} {s : Sem Value} {v : Value} {w : World} (h : s.run P w = .ok v w) : (do let x ← s; pure (Next.value x) : Sem Next).run P w = .ok (.value v) w := by
  simp [h]

section
variable {P : Program} {G : Gh} {σ : St} {a : Act} {w : World} {o : Oper}

/-- The same in whatever world. -/
def Gives0 (P : Program) (G : Gh) (σ : St) (a : Act) (w : World) (o : Oper) (sv : SV) : Prop := ∃ v, (∀ w', (execOp a.eval o).run P w' = .ok (.value v) w') ∧ Tells G w σ sv v
theorem Gives0.gives {sv : SV} (h : Gives0 P G σ a w o sv) : Gives P G σ a w o sv := by obtain ⟨v, h1, h2⟩ := h; exact ⟨v, fun w' _ => h1 w', h2⟩
theorem give0 {sv : SV} {v : Value} (hr : ∀ w', (execOp a.eval o).run P w' = .ok (.value v) w') (ht : Tells G w σ sv v) : Gives0 P G σ a w o sv := ⟨v, hr, ht⟩
theorem gives_const {sv : SV} {v : Value} (hr : ∀ w', (execOp a.eval o).run P w' = .ok (.value v) w') (ht : Tells G w σ sv v) : Gives P G σ a w o sv := ⟨v, fun w' _ => hr w', ht⟩

theorem tfld_run {t : TypeId} {f off ft m : Nat} (h : tfld P t f = some (off, ft)) (hm : tsz P ft = some (m + 1)) (b o' : Nat) (w : World) :
    (Instr.fieldAt t (.pointer (some ⟨b, o', Option.none⟩)) f).run P w = .ok (.pointer (some ⟨b, o' + off, Option.none⟩)) w := by
  unfold tfld at h
  split at h
  · next fs hu =>
    cases hf : fs[f]? with
    | none => rw [hf] at h; cases h
    | some x =>
      rw [hf] at h; simp at h
      obtain ⟨rfl, rfl⟩ := h
      simp only [tsz, Option.map_eq_some_iff] at hm
      obtain ⟨i, hi, hsz⟩ := hm
      have : ((⟨b, o', Option.none⟩ : Addr).add x.offset) = ⟨b, o' + x.offset, Option.none⟩ := Addr.add_mid b o' _
      simp [Instr.fieldAt, run_underlying hu, hf, Instr.sureAddr, fieldPlace, sizeOf, typeInfo, hi, hsz, this]
  · cases h

theorem fieldAddr_gives0 (h : R G σ a w) {t : TypeId} {x : Operand} {f : Nat} (ho : o.op = .fieldAddr t x f) {sv : SV} (hs : fieldAddrS P σ t x f = some sv) : Gives0 P G σ a w o sv := by
  unfold fieldAddrS at hs
  have hx := h.rd x
  split at hs
  · next off ft p π i j n hf hrd =>
    rw [hrd] at hx
    split at hs
    · next m hm =>
      split at hs
      · next hk =>
        simp at hs; subst hs
        obtain ⟨hv, hr⟩ := tells_one_iff.1 hx
        obtain ⟨row, b, o', h1, h2, h3, h4, h5, h6⟩ := h.okAddr hk hv
        refine give0 (v := .pointer (some ⟨b, o' + j + off, Option.none⟩)) (fun w' => ?_) (tells_one ?_ hr)
        · simp only [execOp, ho, h3]
          exact run_v (tfld_run hf hm _ _ w')
        · intro hs ad hA
          rw [h6 _ ad hA, Nat.add_assoc]
      · cases hs
    · cases hs
  · next off ft row hf hrd =>
    rw [hrd] at hx
    split at hs
    · next m hm =>
      simp at hs; subst hs
      obtain ⟨hv, _⟩ := tells_one_iff.1 hx
      obtain ⟨b, o', h3, h4⟩ := raddr_iff.1 (show RO G.imm w (.raddr row) (a.eval x) from hv)
      refine give0 (v := .pointer (some ⟨b, o' + off, Option.none⟩)) (fun w' => ?_) (tells_one (raddr_iff.2 ⟨b, o' + off, rfl, h4.drop off⟩) trivial)
      simp only [execOp, ho, h3]
      exact run_v (tfld_run hf hm _ _ w')
    · cases hs
  · cases hs

theorem fieldAddr_gives (h : R G σ a w) {t : TypeId} {x : Operand} {f : Nat} (ho : o.op = .fieldAddr t x f) {sv : SV} (hs : fieldAddrS P σ t x f = some sv) : Gives P G σ a w o sv := (fieldAddr_gives0 h ho hs).gives

theorem tel_spec {t e : TypeId} (h : tel P t = some e) : P.underlying t = some (.slice e) := by
  unfold tel at h
  split at h
  · next e' hu => simp at h; subst h; exact hu
  · cases h

theorem index_run {t e : TypeId} {sz b o' n c : Nat} {k : IntKind} {i : Int} (hu : P.underlying t = some (.slice e)) (hsz : tsz P e = some sz) (h0 : 0 ≤ i) (hi : i < n) (w : World) :
    (Instr.indexAt t (.slice (some ⟨b, o', Option.none⟩) n c) (.int k i)).run P w = .ok (.pointer (some ⟨b, o' + i.toNat * sz, Option.none⟩)) w := by
  simp only [tsz, Option.map_eq_some_iff] at hsz
  obtain ⟨inf, hinf, rfl⟩ := hsz
  have : ((⟨b, o', Option.none⟩ : Addr).add (i.toNat * inf.size)) = ⟨b, o' + i.toNat * inf.size, Option.none⟩ := Addr.add_mid b o' _
  simp [Instr.indexAt, asIntOf, run_underlying hu, h0, hi, sizeOf, typeInfo, hinf, this]

theorem indexAddr_gives0 (h : R G σ a w) {t : TypeId} {x ix : Operand} (ho : o.op = .indexAddr t x ix) {sv : SV} (hs : indexAddrS P σ t x ix = some sv) : Gives0 P G σ a w o sv := by
  unfold indexAddrS at hs
  have hx := h.rd x
  have hi := h.rd ix
  split at hs
  · next sz sz' rows k i hty hrd hri =>
    rw [hrd] at hx; rw [hri] at hi
    have hiv := RO.lit.1 (show RO G.imm w _ _ from (tells_one_iff.1 hi).1)
    obtain ⟨e, he, hsz⟩ := Option.bind_eq_some_iff.1 hty
    split at hs
    · next hc =>
      split at hs
      · next row hrow =>
        simp at hs; subst hs
        obtain ⟨A, c, hv, hle, hrows⟩ := roslice (show RO G.imm w _ _ from (tells_one_iff.1 hx).1)
        obtain ⟨hlen, b, o', hA, hro⟩ := hrows i.toNat row hrow
        have hlt : i.toNat < rows.length := (List.getElem?_eq_some_iff.1 hrow).1
        refine give0 (v := .pointer (some ⟨b, o' + i.toNat * sz, Option.none⟩)) (fun w' => ?_) (tells_one (raddr_iff.2 ⟨b, _, rfl, by rw [hc.2]; exact hro⟩) trivial)
        simp only [execOp, ho, hv, hiv, hA]
        exact run_v (index_run (tel_spec he) hsz hc.1 (by omega) w')
      · cases hs
    · cases hs
  · next sz p π n rg k i hty hrd hri =>
    rw [hrd] at hx; rw [hri] at hi
    have hiv := RO.lit.1 (show RO G.imm w _ _ from (tells_one_iff.1 hi).1)
    obtain ⟨e, he, hsz⟩ := Option.bind_eq_some_iff.1 hty
    split at hs
    · next hst =>
      split at hs
      · next sz' rows hcell =>
        split at hs
        · next hc =>
          simp at hs; subst hs
          obtain ⟨h0, hszz, hlt, hle⟩ := hc
          have hv := (tells_one_iff.1 hx).1 hst sz' rows hcell
          rcases (show LocOwn G w p π sz' rows from h.loc p π _ hcell) with ⟨e1, _⟩ | ⟨b, o', c, e1, e2, e3, e4, e5⟩
          · subst e1
            exfalso
            cases rg <;> simp [pairLen] at hlt hle; omega
          · subst hszz
            rw [e1] at hv
            have hne : π ≠ [] := fun e => by rw [e] at hcell; simp [St.cell] at hcell
            have htl : ∀ i', (∀ ad, AddrIs G σ p π i' 0 ad → ad = ⟨b, o' + i' * sz, Option.none⟩) := by
              intro i' ad hA
              cases π with
              | nil => exact absurd rfl hne
              | cons ij π =>
                obtain ⟨sz', rows', b', o'', n', c', g1, g2, g3⟩ := hA
                rw [hcell] at g1; simp at g1
                rw [e1] at g2; simp at g2
                rw [g3, ← g1.1, ← g2.1.1, ← g2.1.2, Nat.add_zero]
            refine give0 (v := .pointer (some ⟨b, o' + ((pairLen rg rows.length).1 + i.toNat) * sz, Option.none⟩)) (fun w' => ?_) (tells_one (fun _ ad hA => by rw [htl _ ad hA]) (tells_one_iff.1 hx).2)
            simp only [execOp, ho, hiv, hv]
            cases rg with
            | none =>
              simp only [rgval, pairLen, Nat.zero_add] at hlt ⊢
              exact run_v (index_run (tel_spec he) hsz h0 (by omega) w')
            | some lh =>
              obtain ⟨lo, hi'⟩ := lh
              simp only [rgval, pairLen] at hlt hle ⊢
              have hcl : c ≠ lo := by omega
              rw [if_neg hcl]
              have : ((⟨b, o', Option.none⟩ : Addr).add (lo * sz)) = ⟨b, o' + lo * sz, Option.none⟩ := Addr.add_mid b o' _
              simp only [Option.map_some, this]
              have hz := run_v (index_run (P := P) (k := k) (b := b) (o' := o' + lo * sz) (n := hi' - lo) (c := c - lo) (tel_spec he) hsz h0 (by omega) w')
              rw [show o' + (lo + i.toNat) * sz = o' + lo * sz + i.toNat * sz by rw [Nat.add_mul]; omega]
              exact hz
        · cases hs
      · cases hs
    · cases hs
  · cases hs

theorem indexAddr_gives (h : R G σ a w) {t : TypeId} {x ix : Operand} (ho : o.op = .indexAddr t x ix) {sv : SV} (hs : indexAddrS P σ t x ix = some sv) : Gives P G σ a w o sv := (indexAddr_gives0 h ho hs).gives

theorem isRowT_run {t : TypeId} {b : Bool} (h : isRowT P t = some b) (w : World) : (isAgg t).run P w = .ok b w := by
  unfold isRowT at h
  cases hu : P.underlying t with
  | none => rw [hu] at h; cases h
  | some d =>
    rw [hu] at h; simp at h
    unfold isAgg
    rw [Sem.run_bind, run_underlying hu w]
    cases d <;> simp_all

theorem load_run_row {t : TypeId} {n b o' : Nat} {cs : List Value} (h : isRowT P t = some true) (hs : tsz P t = some n) (hl : cs.length = n) {w : World} (hc : ∀ (j : Nat) v, cs[j]? = some v → w.cell? ⟨b, o' + j, Option.none⟩ = some v) :
    (Instr.loadAt t (.pointer (some ⟨b, o', Option.none⟩))).run P w = .ok (.agg cs.toArray) w := by
  have hu : ∃ d, P.underlying t = some d ∧ d.isRow = true := by
    unfold isRowT at h
    cases hu : P.underlying t with
    | none => rw [hu] at h; cases h
    | some d =>
      rw [hu] at h; simp at h
      refine ⟨d, rfl, ?_⟩
      cases d <;> simp_all
  obtain ⟨d, hu, hd⟩ := hu
  exact run_loadAt_mid w b o' t cs d hc hu hd (by rw [hl]; exact hs)

theorem load_run_one {t : TypeId} {b o' : Nat} {v : Value} (h : isRowT P t = some false) {w : World} (hc : w.cell? ⟨b, o', Option.none⟩ = some v) :
    (Instr.loadAt t (.pointer (some ⟨b, o', Option.none⟩))).run P w = .ok v w := by
  simp [Instr.loadAt, Instr.sureAddr, loadVar, isRowT_run h, load, Sem.run, hc]

theorem lendP_length (σ : St) (p : Pl) (π : Path) (i : Nat) : ∀ (j : Nat) (ds : List D), (lendP σ p π i j ds).length = ds.length
  | _, [] => rfl
  | j, d :: r => by simp [lendP, lendP_length σ p π i (j + 1) r]

theorem lendP_get (σ : St) (p : Pl) (π : Path) (i : Nat) : ∀ (j : Nat) (ds : List D) (l : Nat), (lendP σ p π i j ds)[l]? = (ds[l]?).map (D.lend σ p (π ++ [(i, j + l)]))
  | _, [], l => by simp [lendP]
  | j, d :: r, 0 => by simp [lendP]
  | j, d :: r, l + 1 => by
    simp only [lendP, List.getElem?_cons_succ]
    rw [lendP_get σ p π i (j + 1) r l, show j + 1 + l = j + (l + 1) by omega]

theorem load_gives (h : R G σ a w) {t : TypeId} {x : Operand} (ho : o.op = .load t x) {sv : SV} (hs : loadS P σ t x = some sv) : Gives P G σ a w o sv := by
  unfold loadS at hs
  have hx := h.rd x
  split at hs
  · next n row hty hsz hrd =>
    rw [hrd] at hx
    split at hs
    · next hn =>
      simp only [Option.some.injEq] at hs; subst hs
      obtain ⟨b, o', hv, himm, hcells⟩ := raddr_iff.1 (show RO G.imm w _ _ from (tells_one_iff.1 hx).1)
      have hch : ∀ j : Nat, ∃ u, ∀ d, row[j]? = some d → w.cell? ⟨b, o' + j, Option.none⟩ = some u ∧ RO G.imm w d u := fun j => by
        cases hd : row[j]? with
        | none => exact ⟨undef, fun d h => by cases h⟩
        | some d => obtain ⟨u, h1, h2⟩ := hcells j d hd; exact ⟨u, fun d' h => by cases h; exact ⟨h1, h2⟩⟩
      refine ⟨.agg ((List.range n).map fun j => Classical.choose (hch j)).toArray, fun w' hw' => ?_, tells_agg_iff.2 ⟨_, rfl, by simp; omega, fun j x hx => ?_⟩⟩
      · simp only [execOp, ho, hv]
        refine run_v (load_run_row hty hsz (by simp) (fun j v hj => ?_))
        rw [(hw' b (.inl himm) _).1]
        have hjn : j < n := by have := (List.getElem?_eq_some_iff.1 hj).1; simpa using this
        have hg : row[j]? = some row[j] := List.getElem?_eq_getElem (by omega)
        have := (Classical.choose_spec (hch j) _ hg).1
        rw [this]
        simp [hjn] at hj; rw [hj]
      · rw [List.getElem?_map] at hx
        cases hd : (row.take n)[j]? with
        | none => rw [hd] at hx; cases hx
        | some d =>
          rw [hd] at hx; simp at hx; subst hx
          have hjn : j < n := by have := (List.getElem?_eq_some_iff.1 hd).1; simp at this; omega
          rw [List.getElem?_take, if_pos hjn] at hd
          refine ⟨Classical.choose (hch j), by simp [hjn], ?_⟩
          exact (Classical.choose_spec (hch j) _ hd).2.toV
    · cases hs
  · next sz row hty _ hrd =>
    rw [hrd] at hx
    split at hs
    · rename_i d r
      simp only [Option.some.injEq] at hs; subst hs
      obtain ⟨b, o', hv, himm, hcells⟩ := raddr_iff.1 (show RO G.imm w _ _ from (tells_one_iff.1 hx).1)
      obtain ⟨u, h1, h2⟩ := hcells 0 d rfl
      refine ⟨u, fun w' hw' => ?_, tells_one h2.toV.1 h2.toV.2⟩
      simp only [execOp, ho, hv]
      exact run_v (load_run_one hty (by rw [(hw' b (.inl himm) _).1]; exact h1))
    · cases hs
  · next n p π i j m hty hsz hrd =>
    rw [hrd] at hx
    split at hs
    · next hk =>
      split at hs
      · next row hrow =>
        split at hs
        · next hn =>
          simp only [Option.some.injEq] at hs; subst hs
          obtain ⟨row', b, o', h1, h2, h3, h4, ⟨q, h5, _⟩, _⟩ := h.okAddr hk (tells_one_iff.1 hx).1
          rw [hrow] at h1; simp at h1; subst h1
          refine ⟨.agg ((List.range n).map fun l => G.val p (π ++ [(i, j + l)])).toArray, fun w' hw' => ?_, tells_agg_iff.2 ⟨_, rfl, by simp [lendP_length]; omega, fun l x hx => ?_⟩⟩
          · simp only [execOp, ho, h3]
            refine run_v (load_run_row hty hsz (by simp) (fun l v hl => ?_))
            have hln : l < n := by have := (List.getElem?_eq_some_iff.1 hl).1; simpa using this
            rw [(hw' b (.inr ⟨_, h5⟩) _).1, show o' + j + l = o' + (j + l) by omega, (h4 (j + l) (by omega)).1]
            simp [hln] at hl; rw [hl]
          · rw [lendP_get] at hx
            cases hd : ((row.drop j).take n)[l]? with
            | none => rw [hd] at hx; cases hx
            | some d =>
              rw [hd] at hx; simp at hx; subst hx
              have hln : l < n := by have := (List.getElem?_eq_some_iff.1 hd).1; simp at this; omega
              rw [List.getElem?_take, if_pos hln, List.getElem?_drop] at hd
              exact ⟨_, by simp [hln], h.lend (rowAt_cell hrow hd)⟩
        · cases hs
      · cases hs
    · cases hs
  · next sz p π i j m hty _ hrd =>
    rw [hrd] at hx
    split at hs
    · next hk =>
      split at hs
      · next row hrow =>
        split at hs
        · next d hd =>
          simp at hs; subst hs
          obtain ⟨row', b, o', h1, h2, h3, h4, ⟨q, h5, _⟩, _⟩ := h.okAddr hk (tells_one_iff.1 hx).1
          rw [hrow] at h1; simp at h1; subst h1
          refine ⟨G.val p (π ++ [(i, j)]), fun w' hw' => ?_, ?_⟩
          · simp only [execOp, ho, h3]
            exact run_v (load_run_one hty (by rw [(hw' b (.inr ⟨_, h5⟩) _).1]; exact (h4 j h2).1))
          · exact tells_one_iff.2 (h.lend (rowAt_cell hrow hd))
        · cases hs
      · cases hs
    · cases hs
  · cases hs

end
end Go.AI
